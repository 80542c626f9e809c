/-
  Several texts of this project, put together.
-/
import Derived.Test.YtbjjhfoeckkacaaGreatDoorFZ
import Derived.Test.YtbjjhfoeckkacaaGreatDoorKD
import Derived.Test.YtbjjhfoeckkacaaGreatDoorSA
set_option linter.unusedVariables false
set_option linter.unusedSimpArgs false
set_option maxRecDepth 100000
set_option maxHeartbeats 16000000
namespace Go.Proofs.YtbjjhfoeckkacaaGreatDoor
open Go.Fw _root_.Go.Proofs.Tryz
theorem scaught_ret {be : Nat} (w : World) :
  CD Tryz.prog 20 #[.pointer (some ⟨be, 0, none⟩)] (.returning) w (fun e u' w' => u' = .returning ∧ (Ret fun v w' => v = .tuple #[] ∧ Upd No w w') e w') := by
 have HU := Upd.Yo w
 refine CD_recover (v := .nilIface) (u' := .returning) func20 rfl ntmps20 (by simp) rfl (fun ρ w => by simp [execOp, resolve, invoke, builtin]) rfl rfl (fun ρ w => by simp [execOp]) rfl rfl (by decide) (fun c₀ cs h => .inr ⟨rec_none c₀ cs h, rfl, rfl⟩) (Sm (Qs 1 rfl (Zf (r_eqi_n underlying20 rfl rfl) (Za (Ct (Zn (cd_ret (v := .tuple #[]) (res0 results20) ?_)))))))
 exact ⟨_, rfl, rfl, HU⟩
theorem scaught_pan {be : Nat} {er0 er : Int} (w : World) (hb : Blk w be [.int .i64 er0]) :
  CD Tryz.prog 20 #[.pointer (some ⟨be, 0, none⟩)] (.panicking (pan (.iface 25 (.int .i64 er)))) w (fun e u' w' => u' = .panicking [{ v := .iface 25 (.int .i64 er), recovered := true }] ∧ (Ret fun v w' => v = .tuple #[] ∧ Upd (Is be) w w' ∧ Blk w' be [.int .i64 er]) e w') := by
 have HU : Upd (fun b => b = be) w w := Upd.refl _ _
 refine CD_recover (v := .iface 25 (.int .i64 er)) (u' := .panicking [{ v := .iface 25 (.int .i64 er), recovered := true }]) func20 rfl ntmps20 (by simp) rfl (fun ρ w => by simp [execOp, resolve, invoke, builtin]) rfl rfl (fun ρ w => by simp [execOp]) rfl rfl (by decide) (fun c₀ cs h => .inl (rec_some c₀ cs h)) (Sm (Qs 1 rfl (Zf (r_eqi_s underlying20 rfl rfl) (Za (Cf (Zi (Sn (Qs 1 rfl (Zf (r_ta underlying25 (fun m h => by cases h) rfl) (Qs 5 rfl (Za (Sm (Qs 1 rfl (Zf (YX (b := true) rfl) (Za (Cf (Zi (Zl (Qs 2 rfl (Zf (Yj rfl) (Xc [.int .i64 er] sizeOf25 rfl hb rfl rfl rfl rfl rfl ?_)))))))))))))))))))))
 intro w1 hU1 hzz1 hb
 replace HU := HU.Zr hU1
 refine Za (cd_nrm (v := .tuple #[]) (res0 results20) ?_)
 exact ⟨_, rfl, rfl, HU, hb⟩
theorem smust_t {er : Int} (w : World)  :
  Calls Tryz.prog 72 #[.bool true, .int .i64 er] w (Ret fun v w' => v = .tuple #[] ∧ Upd No w w') := by
 have HU := Upd.Yo w
 exact Zq func72 rfl ntmps72 (by simp) (Sn (Qs 1 rfl (Zf (YX (b := true) rfl) (Za (Cf (Zi (nrm_end rfl (res0 results72) ⟨_, rfl, rfl, HU⟩)))))))
theorem smust_f {er : Int} (w : World)  :
  Calls Tryz.prog 72 #[.bool false, .int .i64 er] w (Pan (.iface 25 (.int .i64 er)) fun w' => Upd No w w') := by
 have HU := Upd.Yo w
 refine Zq func72 rfl ntmps72 (by simp) (Sn (Qs 1 rfl (Zf (YX (b := false) rfl) (Za (Ct (Zl (Qs 1 rfl (Zf (r_mki (by kernel_rfl) rfl) (Wl_panic rfl (pan_ds rfl (YG ?_)))))))))))
 exact ⟨rfl, HU⟩
theorem got0_ok {v0 : Value} (w : World)  :
  Calls Tryz.prog 43 #[v0, .int .i64 0] w (Ret fun v w' => v = v0 ∧ Upd No w w') := by
 have HU := Upd.Yo w
 refine Zq func43 rfl ntmps43 (by simp) (Sn (Qs 1 rfl (Za (Sn (Qs 1 rfl (Zf (v := .bool true) (YK (a := 0) (b := 0) rfl rfl) (Qs 1 rfl (Zj (Zy rfl call72 rfl rfl) (smust_t _ ) ?_))))))))
 rintro v w1 ⟨rfl, hU1⟩
 have:=hU1.size
 exact Za (Sn (Wmv (v0) (Was (v0) (Za (Zn (Zg rfl (Z9 results43 rfl) ⟨_, rfl, rfl, (HU.Zb hU1)⟩))))))
theorem got0_no {v0 : Value} {er : Int} (w : World) (hl : ¬ er = 0) :
  Calls Tryz.prog 43 #[v0, .int .i64 er] w (Pan (.iface 25 (.int .i64 er)) fun w' => Upd No w w') := by
 have HU := Upd.Yo w
 refine Zq func43 rfl ntmps43 (by simp) (Sn (Qs 1 rfl (Za (Sn (Qs 3 rfl ?_)))))
 have q1 : ¬ (er = 0) := hl
 rw [decide_eq_false q1]
 refine YH (Zy rfl call72 rfl rfl) (smust_f _ ) ?_
 intro w1 hU1
 have:=hU1.size
 refine pan_ds rfl (YG ?_)
 exact ⟨rfl, (HU.Zb hU1)⟩
theorem got1_ok {v0 : Value} (w : World)  :
  Calls Tryz.prog 45 #[v0, .int .i64 0] w (Ret fun v w' => v = v0 ∧ Upd No w w') := by
 have HU := Upd.Yo w
 refine Zq func45 rfl ntmps45 (by simp) (Sn (Qs 1 rfl (Za (Sn (Qs 1 rfl (Zf (v := .bool true) (YK (a := 0) (b := 0) rfl rfl) (Qs 1 rfl (Zj (Zy rfl call72 rfl rfl) (smust_t _ ) ?_))))))))
 rintro v w1 ⟨rfl, hU1⟩
 have:=hU1.size
 exact Za (Sn (Wmv (v0) (Was (v0) (Za (Zn (Zg rfl (Z9 results45 rfl) ⟨_, rfl, rfl, (HU.Zb hU1)⟩))))))
theorem got1_no {v0 : Value} {er : Int} (w : World) (hl : ¬ er = 0) :
  Calls Tryz.prog 45 #[v0, .int .i64 er] w (Pan (.iface 25 (.int .i64 er)) fun w' => Upd No w w') := by
 have HU := Upd.Yo w
 refine Zq func45 rfl ntmps45 (by simp) (Sn (Qs 1 rfl (Za (Sn (Qs 3 rfl ?_)))))
 have q1 : ¬ (er = 0) := hl
 rw [decide_eq_false q1]
 refine YH (Zy rfl call72 rfl rfl) (smust_f _ ) ?_
 intro w1 hU1
 have:=hU1.size
 refine pan_ds rfl (YG ?_)
 exact ⟨rfl, (HU.Zb hU1)⟩
theorem got2_ok {v0 : Value} (w : World)  :
  Calls Tryz.prog 50 #[v0, .int .i64 0] w (Ret fun v w' => v = v0 ∧ Upd No w w') := by
 have HU := Upd.Yo w
 refine Zq func50 rfl ntmps50 (by simp) (Sn (Qs 1 rfl (Za (Sn (Qs 1 rfl (Zf (v := .bool true) (YK (a := 0) (b := 0) rfl rfl) (Qs 1 rfl (Zj (Zy rfl call72 rfl rfl) (smust_t _ ) ?_))))))))
 rintro v w1 ⟨rfl, hU1⟩
 have:=hU1.size
 exact Za (Sn (Wmv (v0) (Was (v0) (Za (Zn (Zg rfl (Z9 results50 rfl) ⟨_, rfl, rfl, (HU.Zb hU1)⟩))))))
theorem got2_no {v0 : Value} {er : Int} (w : World) (hl : ¬ er = 0) :
  Calls Tryz.prog 50 #[v0, .int .i64 er] w (Pan (.iface 25 (.int .i64 er)) fun w' => Upd No w w') := by
 have HU := Upd.Yo w
 refine Zq func50 rfl ntmps50 (by simp) (Sn (Qs 1 rfl (Za (Sn (Qs 3 rfl ?_)))))
 have q1 : ¬ (er = 0) := hl
 rw [decide_eq_false q1]
 refine YH (Zy rfl call72 rfl rfl) (smust_f _ ) ?_
 intro w1 hU1
 have:=hU1.size
 refine pan_ds rfl (YG ?_)
 exact ⟨rfl, (HU.Zb hU1)⟩
theorem got3_ok {wz sz dn : Int} {sm : Bool} (w : World)  :
  Calls Tryz.prog 47 #[.agg #[.int .i64 wz, .int .i64 sz, .int .u32 dn, .bool (decide (sm = true))], .int .i64 0] w (Ret fun v w' => v = .agg #[.int .i64 wz, .int .i64 sz, .int .u32 dn, .bool (decide (sm = true))] ∧ Upd No w w') := by
 have HU := Upd.Yo w
 refine Zq func47 rfl ntmps47 (by simp) (Sn (Xb rfl ?_))
 intro B1 w1 hB1 hU1 hzz1 hb1
 refine ZB zeroValue34 rfl ?_
 intro B2 w2 hB2 hU2 hzz2 hb2
 refine Za (Sn (Qs 1 rfl (Zf (v := .bool true) (YK (a := 0) (b := 0) rfl rfl) (Qs 1 rfl (Zj (Zy rfl call72 rfl rfl) (smust_t _ ) ?_)))))
 rintro v w3 ⟨rfl, hU3⟩
 have:=hU3.size
 refine Za (Sn (Xl isAgg34 sizeOf34 rfl ((hb1.Zc hU2).Zc hU3) rfl ?_))
 replace hb2 := hb2.Zc hU3
 refine Xa sizeOf34 rfl rfl rfl rfl hb2 rfl ?_
 intro w4 hU4 hzz4 hb2
 exact Za (Zn (Zg rfl (rc1 results47 rfl (Zu isAgg34 sizeOf34 rfl hb2)) ⟨_, rfl, rfl, ((((HU.Zb hU1).Zb hU2).Zb hU3).t1 hU4)⟩))
theorem got3_no {wz sz dn : Int} {sm : Bool} {er : Int} (w : World) (hl : ¬ er = 0) :
  Calls Tryz.prog 47 #[.agg #[.int .i64 wz, .int .i64 sz, .int .u32 dn, .bool (decide (sm = true))], .int .i64 er] w (Pan (.iface 25 (.int .i64 er)) fun w' => Upd No w w') := by
 have HU := Upd.Yo w
 refine Zq func47 rfl ntmps47 (by simp) (Sn (Xb rfl ?_))
 intro B1 w1 hB1 hU1 hzz1 hb1
 refine ZB zeroValue34 rfl ?_
 intro B2 w2 hB2 hU2 hzz2 hb2
 refine Za (Sn (Qs 3 rfl ?_))
 have q1 : ¬ (er = 0) := hl
 rw [decide_eq_false q1]
 refine YH (Zy rfl call72 rfl rfl) (smust_f _ ) ?_
 intro w3 hU3
 have:=hU3.size
 refine pan_ds rfl (YG ?_)
 exact ⟨rfl, (((HU.Zb hU1).Zb hU2).Zb hU3)⟩
theorem kind_short {pb : Nat} {a : Option Addr} {n c p : Nat} {bs : List Int} (w : World) (hp : Blk w pb [.slice a n c, .int .i64 p]) (hs : Sl w (fun g => g < w.heap.size ∧ g ≠ pb) 1 (.slice a n c) n (ints .u8 bs)) (hb : Byt bs) (hpn : p ≤ n) (hn : n ≤ 140737488355328) (h3 : n < p + 3) :
  Calls Tryz.prog 83 #[.pointer (some ⟨pb, 0, none⟩)] w (Ret fun v w' => v = .tuple #[.int .i64 0, .int .i64 0, .bool false, .int .i64 3] ∧ Upd No w w') := by
 have HU := Upd.Yo w
 have hbl_hp := hp.lt
 have hl_hs := ZC hs
 have hc_hs := hs.cap.1
 refine Zq func83 rfl ntmps83 (by simp) (Sn (Qs 4 rfl (Za (Sm (Qs 1 rfl (Zf (YZ underlying77 rfl rfl) (Za (Cf (Zi (Sn (Qs 1 rfl (Zj (Zy rfl call74 rfl rfl) (peek_k (t := n - p) (K := 3) _ hp (hs.cur (by intro h1; have h3 : (pb < w.heap.size ∧ pb ≠ pb) := h1; first | omega | simp at h3)) hb (by omega) (by omega) (by omega)) ?_))))))))))))
 rintro v w1 ⟨a1, c1, rfl, hO1, hU1⟩
 have:=hU1.size
 replace hO1 := hO1.tight
 have hl_hO1 := ZC hO1.sl
 have hc_hO1 := hO1.sl.cap.1
 refine Qs 1 rfl (Za (Sm (Qs 1 rfl (Zf (ZM underlying22 rfl) (Qs 1 rfl (Za ?_))))))
 have q1 : ((n - p : Nat) : Int) < 3 := (by omega)
 rw [decide_eq_true q1]
 exact Ct (Sn (Qs 4 rfl (Za (Zn (Zg rfl (res4 results83 rfl rfl rfl rfl) ⟨_, rfl, rfl, (HU.Zb hU1)⟩)))))
theorem kind_ok {pb : Nat} {a : Option Addr} {n c p : Nat} {bs : List Int} (w : World) (hp : Blk w pb [.slice a n c, .int .i64 p]) (hs : Sl w (fun g => g < w.heap.size ∧ g ≠ pb) 1 (.slice a n c) n (ints .u8 bs)) (hb : Byt bs) (hpn : p ≤ n) (hn : n ≤ 140737488355328) (h3 : ¬ n < p + 3) :
  Calls Tryz.prog 83 #[.pointer (some ⟨pb, 0, none⟩)] w (Ret fun v w' => v = .tuple #[.int .i64 (bkd bs p), .int .i64 (bsz bs p), .bool (decide (bla bs p = true)), .int .i64 0] ∧ Upd No w w') := by
 have HU := Upd.Yo w
 have hbl_hp := hp.lt
 have hl_hs := ZC hs
 have hc_hs := hs.cap.1
 have hq0 := Yi (ZU (ZL hb p) 3) 0
 have hq1 := Yi (ZU (ZL hb p) 3) 1
 have hq2 := Yi (ZU (ZL hb p) 3) 2
 have hbn := bnum_bd hb p
 refine Zq func83 rfl ntmps83 (by simp) (Sn (Qs 4 rfl (Za (Sm (Qs 1 rfl (Zf (YZ underlying77 rfl rfl) (Za (Cf (Zi (Sn (Qs 1 rfl (Zj (Zy rfl call74 rfl rfl) (peek_k (t := 3) (K := 3) _ hp (hs.cur (by intro h1; have h3 : (pb < w.heap.size ∧ pb ≠ pb) := h1; first | omega | simp at h3)) hb (by omega) (by omega) (by omega)) ?_))))))))))))
 rintro v w1 ⟨a1, c1, rfl, hO1, hU1⟩
 have:=hU1.size
 replace hO1 := hO1.tight
 have hl_hO1 := ZC hO1.sl
 have hc_hO1 := hO1.sl.cap.1
 refine Qs 1 rfl (Za (Sm (Qs 1 rfl (Zf (ZM underlying22 rfl) (Zf (v := .bool false) (YL (a := 3) (b := 3) rfl rfl) (Za (Cf (Zi (Zz (ZJ rfl (l0 := tf 0 17) (by kernel_rfl) (Tq rfl ?_)))))))))))
 obtain ⟨ib2, io2, ha2, hib2, hc2⟩ := (hO1.sl).iat (i := 0) (by omega)
 replace hib2 : ((w.heap.size ≤ ib2) ∧ ib2 < w1.heap.size) := hib2
 refine Tv rfl (fun _ _ => Yl (b := ib2) (off := io2) (m := 3) (c := c1) (o' := io2 + 0) underlying22 sizeOf5 (by rw [← ha2]; rfl) rfl (by omega) (by omega) (by omega)) (Tv rfl (v := .int .u8 (((bs.drop p).take 3).getD 0 0)) (fun w' hw' => Yd isAgg5 rfl (hw'.Y8 hc2)) (Tv rfl (fun _ _ => ZZ underlying5 underlying3 rfl ZY) (Tq rfl ?_)))
 obtain ⟨ib3, io3, ha3, hib3, hc3⟩ := (hO1.sl).iat (i := 1) (by omega)
 replace hib3 : ((w.heap.size ≤ ib3) ∧ ib3 < w1.heap.size) := hib3
 refine Tv rfl (fun _ _ => Yl (b := ib3) (off := io3) (m := 3) (c := c1) (o' := io3 + 1) underlying22 sizeOf5 (by rw [← ha3]; rfl) rfl (by omega) (by omega) (by omega)) (Tv rfl (v := .int .u8 (((bs.drop p).take 3).getD 1 0)) (fun w' hw' => Yd isAgg5 rfl (hw'.Y8 hc3)) (Tv rfl (fun _ _ => ZZ underlying5 underlying3 rfl ZY) (Tv rfl (v := .int .i64 ((((bs.drop p).take 3).getD 1 0) * 256)) (fun _ _ => r_shl rfl rfl (by decide) (shl8_i64 hq1.1 hq1.2)) (Tv rfl (v := .int .i64 (((bs.drop p).take 3).getD 0 0 + (((bs.drop p).take 3).getD 1 0) * 256)) (fun _ _ => r_or rfl rfl (or_i64 8 256 (by decide) hq0.1 hq0.2 hq1.1 (by omega))) (Tq rfl ?_)))))
 obtain ⟨ib4, io4, ha4, hib4, hc4⟩ := (hO1.sl).iat (i := 2) (by omega)
 replace hib4 : ((w.heap.size ≤ ib4) ∧ ib4 < w1.heap.size) := hib4
 refine Tv rfl (fun _ _ => Yl (b := ib4) (off := io4) (m := 3) (c := c1) (o' := io4 + 2) underlying22 sizeOf5 (by rw [← ha4]; rfl) rfl (by omega) (by omega) (by omega)) (Tv rfl (v := .int .u8 (((bs.drop p).take 3).getD 2 0)) (fun w' hw' => Yd isAgg5 rfl (hw'.Y8 hc4)) (Tv rfl (fun _ _ => ZZ underlying5 underlying3 rfl ZY) (Tv rfl (v := .int .i64 ((((bs.drop p).take 3).getD 2 0) * 65536)) (fun _ _ => r_shl rfl rfl (by decide) (shl16_i64 hq2.1 hq2.2)) (Tv rfl (v := .int .i64 (((bs.drop p).take 3).getD 0 0 + (((bs.drop p).take 3).getD 1 0) * 256 + (((bs.drop p).take 3).getD 2 0) * 65536)) (fun _ _ => r_or rfl rfl (or_i64 16 65536 (by decide) (by omega) (by omega) hq2.1 (by omega))) (Tq rfl ?_)))))
 rw [show (((bs.drop p).take 3).getD 0 0 + (((bs.drop p).take 3).getD 1 0) * 256 + (((bs.drop p).take 3).getD 2 0) * 65536 : Int) = bnum bs p from bnum_cut]
 intro w5 hU5
 have:=hU5.size
 replace hc2 := ZG hU5 hc2
 replace hc3 := ZG hU5 hc3
 replace hc4 := ZG hU5 hc4
 refine Wd (Sn (Qs 1 rfl (Zf (r_shr (c := (bnum bs p) / 2) rfl rfl (by decide) rfl) (Zf (r_and rfl rfl (and3_i64 (by omega) (by omega))) (Qs 1 rfl (Zf (r_shr (c := (bnum bs p) / 8) rfl rfl (by decide) rfl) (Qs 1 rfl (Zf (r_and rfl rfl (and1_i64 (by omega) (by omega))) (Qs 5 rfl (Za (Zn (Zg (v := .tuple #[.int .i64 (((bnum bs p) / 2) % 4), .int .i64 ((bnum bs p) / 8), .bool (decide (((bnum bs p) % 2) = 1)), .int .i64 0]) rfl (res4 results83 rfl rfl rfl rfl) ?_))))))))))))
 exact ⟨_, rfl, (vtup4 rfl rfl (vbool bla_iff) rfl), ((HU.Zb hU1).Zb hU5)⟩
theorem blk_all {pb : Nat} {a : Option Addr} {n c p : Nat} {bs : List Int} (w : World) (hp : Blk w pb [.slice a n c, .int .i64 p]) (hs : Sl w (fun g => g < w.heap.size ∧ g ≠ pb) 1 (.slice a n c) n (ints .u8 bs)) (hb : Byt bs) (hpn : p ≤ n) (hn : n ≤ 140737488355328) :
  Calls Tryz.prog 49 #[.agg #[.pointer (some ⟨pb, 0, none⟩)]] w (Dual (berr bs p = 0) (Ret fun v w' => v = .agg #[.int .i64 p, .int .i64 (bkd bs p), .int .i64 (bsz bs p), .int .i64 (bst bs p), .bool (decide (bla bs p = true))] ∧ Blk w' pb [.slice a n c, .int .i64 ((bnx bs p : Nat) : Int)] ∧ Upd (Is pb) w w') (Pan (.iface 25 (.int .i64 (berr bs p))) fun w' => Upd (Is pb) w w')) := by
 have HU : Upd (fun b => b = pb) w w := Upd.refl _ _
 have hbl_hp := hp.lt
 have hl_hs := ZC hs
 have hc_hs := hs.cap.1
 have hb3 := bst_bd hb p
 refine Zq func49 rfl ntmps49 (by simp) (Sn (Xb rfl ?_))
 intro B1 w1 hB1 hU1 hzz1 hb1
 refine ZB zeroValue40 rfl ?_
 intro B2 w2 hB2 hU2 hzz2 hb2
 refine Za (Sn (Zf (Zo underlying80 rfl sizeOf77 rfl rfl) ?_))
 replace hb1 := hb1.Zc hU2
 refine Zk isAgg77 rfl hb1 rfl ?_
 replace hp := (hp.Zc hU1).Zc hU2
 refine Zj (Zv rfl call42 rfl) (at_spec _ hp (by omega) (by omega) (by omega)) ?_
 rintro v w3 ⟨rfl, hU3⟩
 have:=hU3.size
 refine Zf (ZF (pl := #[(0, 1), (1, 1), (2, 1), (3, 1), (4, 1)]) (pv := [(0, .int .i64 p)]) (cs := #[.int .i64 p, .int .i64 0, .int .i64 0, .int .i64 0, .bool false]) zeroValue40 underlying40 (fun w => by kernel_rfl)) (ZB zeroValue40 rfl ?_)
 intro B4 w4 hB4 hU4 hzz4 hb4
 refine Xa sizeOf40 rfl rfl rfl rfl hb4 rfl ?_
 intro w5 hU5 hzz5 hb4
 refine Za (Sn (Zf (Zo underlying80 rfl sizeOf77 rfl rfl) ?_))
 replace hb1 := ((hb1.Zc hU3).Zc hU4).Zh hU5
 refine Zk isAgg77 rfl hb1 rfl ?_
 replace hs := ((((hs.Zc hU1).Zc hU2).Zc hU3).Zc hU4).Zh hU5
 replace HU := ((((HU.Zb hU1).Zb hU2).Zb hU3).Zb hU4).Zr hU5
 replace hp := ((hp.Zc hU3).Zc hU4).Zh hU5
 by_cases q1 : n < p + 3
 ·refine Zj (Zv rfl call83 rfl) (kind_short _ hp (hs.cur (by intro h1; have h3 : (pb < w.heap.size ∧ pb ≠ pb) := h1; first | omega | simp at h3)) hb (by omega) (by omega) (by omega)) ?_
  rintro v w6 ⟨rfl, hU6⟩
  have:=hU6.size
  refine Qs 9 rfl (Za (Sn (Qs 1 rfl (Zf (v := .bool false) (YK (a := 3) (b := 0) rfl rfl) (Qs 1 rfl (YH (Zy rfl call72 rfl rfl) (smust_f _ ) ?_))))))
  intro w7 hU7
  have:=hU7.size
  refine pan_ds rfl (YG ?_)
  exact Or.inr ⟨by rw [(berr_short (by omega))]; exact (by decide), by rw [(berr_short (by omega))], ((HU.Zb hU6).Zb hU7)⟩
 refine Zj (Zv rfl call83 rfl) (kind_ok _ hp (hs.cur (by intro h1; have h3 : (pb < w.heap.size ∧ pb ≠ pb) := h1; first | omega | simp at h3)) hb (by omega) (by omega) (by omega)) ?_
 rintro v w8 ⟨rfl, hU8⟩
 have:=hU8.size
 refine Qs 9 rfl (Za (Sn (Qs 1 rfl (Zf (v := .bool true) (YK (a := 0) (b := 0) rfl rfl) (Qs 1 rfl (Zj (Zy rfl call72 rfl rfl) (smust_t _ ) ?_))))))
 rintro v w9 ⟨rfl, hU9⟩
 have:=hU9.size
 refine Za (Sn (Qs 2 rfl ?_))
 replace HU := (HU.Zb hU8).Zb hU9
 by_cases q2 : (bkd bs p) ≠ 3
 ·rw [decide_eq_true q2]
  refine Zj (Zy rfl call72 rfl rfl) (smust_t _ ) ?_
  rintro v w10 ⟨rfl, hU10⟩
  have:=hU10.size
  refine Za (Sn (Qs 4 rfl (Zf (Zo underlying40 rfl sizeOf38 rfl rfl) ?_)))
  replace hb4 := ((hb4.Zc hU8).Zc hU9).Zc hU10
  refine Xc [.int .i64 p, .int .i64 (bkd bs p), .int .i64 0, .int .i64 0, .bool false] sizeOf38 rfl hb4 rfl rfl rfl rfl rfl ?_
  intro w11 hU11 hzz11 hb4
  refine Zf (Zo underlying40 rfl sizeOf3 rfl rfl) (Xc [.int .i64 p, .int .i64 (bkd bs p), .int .i64 (bsz bs p), .int .i64 0, .bool false] sizeOf3 rfl hb4 rfl rfl rfl rfl rfl ?_)
  intro w12 hU12 hzz12 hb4
  refine Zf (Zo underlying40 rfl sizeOf3 rfl rfl) (Xc [.int .i64 p, .int .i64 (bkd bs p), .int .i64 (bsz bs p), .int .i64 (bsz bs p), .bool false] sizeOf3 rfl hb4 rfl rfl rfl rfl rfl ?_)
  intro w13 hU13 hzz13 hb4
  refine Zf (Zo underlying40 rfl sizeOf4 rfl rfl) (Xc [.int .i64 p, .int .i64 (bkd bs p), .int .i64 (bsz bs p), .int .i64 (bsz bs p), .bool (decide (bla bs p = true))] sizeOf4 rfl hb4 rfl rfl rfl rfl rfl ?_)
  intro w14 hU14 hzz14 hb4
  refine Za (Sm (Qs 2 rfl (Za ?_)))
  replace hb2 := (((((((((hb2.Zc hU3).Zc hU4).Zh hU5).Zc hU8).Zc hU9).Zc hU10).Zh hU11).Zh hU12).Zh hU13).Zh hU14
  replace hp := ((((((hp.Zc hU8).Zc hU9).Zc hU10).Zh hU11).Zh hU12).Zh hU13).Zh hU14
  replace hs := ((((((hs.Zc hU8).Zc hU9).Zc hU10).Zh hU11).Zh hU12).Zh hU13).Zh hU14
  replace hb1 := ((((((hb1.Zc hU8).Zc hU9).Zc hU10).Zh hU11).Zh hU12).Zh hU13).Zh hU14
  replace HU := ((((HU.Zb hU10).Zr hU11).Zr hU12).Zr hU13).Zr hU14
  by_cases q3 : (bkd bs p) = 1
  ·have hst : bst bs p = 1 := if_pos q3
   have hg1 := berr_gb (bs := bs) (p := p) (by omega) (fun h2 => q2 h2) hb3.1
   rw [hst] at hg1
   rw [decide_eq_true q3]
   refine Ct (Zl (Zf (Zo underlying40 rfl sizeOf3 rfl rfl) (Xc [.int .i64 p, .int .i64 (bkd bs p), .int .i64 (bsz bs p), .int .i64 1, .bool (decide (bla bs p = true))] sizeOf3 rfl hb4 rfl rfl rfl rfl rfl ?_)))
   intro w15 hU15 hzz15 hb4
   refine Za (Sn (Zf (Zo underlying80 rfl sizeOf77 rfl rfl) ?_))
   replace hb1 := hb1.Zh hU15
   refine Zk isAgg77 rfl hb1 rfl ?_
   replace hp := hp.Zh hU15
   replace hs := hs.Zh hU15
   refine Zj (Zy rfl call75 rfl rfl) (cbytes_k (K := 3) _ hp (hs.cur (by intro h1; have h3 : (pb < w.heap.size ∧ pb ≠ pb) := h1; first | omega | simp at h3)) hb (by omega) (by omega) (by omega)) ?_
   rintro v w16 ⟨a16, c16, rfl, hp16, hO16, hU16⟩
   have:=hU16.size
   have hbl_hp16 := hp16.lt
   replace hO16 := hO16.tight
   have hl_hO16 := ZC hO16.sl
   have hc_hO16 := hO16.sl.cap.1
   refine Qs 2 rfl ?_
   have q4 : 0 = 0 := (by decide)
   refine Zj (Zy rfl call45 rfl rfl) (got1_ok _ ) ?_
   rintro v w17 ⟨rfl, hU17⟩
   have:=hU17.size
   refine Za (Sn (Zf (Zo underlying80 rfl sizeOf77 rfl rfl) (Zk isAgg77 rfl ((hb1.Zh hU16).Zc hU17) rfl (Zf (Zo underlying40 rfl sizeOf3 rfl rfl) ?_))))
   replace hb4 := (hb4.Zh hU16).Zc hU17
   refine Zk isAgg3 rfl hb4 rfl ?_
   replace hs := (hs.Zh hU16).Zc hU17
   replace hp16 := hp16.Zc hU17
   refine Zj (Zy rfl call75 rfl rfl) (bytes_spec _ hp16 (hs.cur (by intro h1; have h3 : (pb < w.heap.size ∧ pb ≠ pb) := h1; first | omega | simp at h3)) hb (by omega) (by omega)) ?_
   rintro v w18 ⟨a18, m18, c18, rfl, hp18, hO18, hm_18, hU18⟩
   have:=hU18.size
   have hbl_hp18 := hp18.lt
   replace hO18 := hO18.tight
   have hl_hO18 := ZC hO18.sl
   have hc_hO18 := hO18.sl.cap.1
   refine Qs 2 rfl ?_
   replace HU := (((HU.Zr hU15).Zr hU16).Zb hU17).Zr hU18
   by_cases q5 : ((ZW bs (p + 3) 1).2.2) = 0
   ·rw [q5]
    refine Zj (Zy rfl call45 rfl rfl) (got1_ok _ ) ?_
    rintro v w19 ⟨rfl, hU19⟩
    have:=hU19.size
    refine Za (Sn (Xl isAgg40 sizeOf40 rfl ((hb4.Zh hU18).Zc hU19) rfl ?_))
    replace hb2 := ((((hb2.Zh hU15).Zh hU16).Zc hU17).Zh hU18).Zc hU19
    refine Xa sizeOf40 rfl rfl rfl rfl hb2 rfl ?_
    intro w20 hU20 hzz20 hb2
    refine Za (Zn (Zg (v := .agg #[.int .i64 p, .int .i64 (bkd bs p), .int .i64 (bsz bs p), .int .i64 1, .bool (decide (bla bs p = true))]) rfl (rc1 results49 rfl (Zu isAgg40 sizeOf40 rfl hb2)) ?_))
    refine Or.inl ⟨(hg1.1).trans q5, ?_⟩
    exact ⟨_, rfl, (by rw [hst]), (by rw [← hg1.2 q5]; exact ((hp18.Zc hU19).Zh hU20)), ((HU.Zb hU19).Zr hU20)⟩
   refine YH (Zy rfl call45 rfl rfl) (got1_no _ q5) ?_
   intro w21 hU21
   have:=hU21.size
   refine pan_ds rfl (YG ?_)
   exact Or.inr ⟨by rw [hg1.1]; exact q5, by rw [hg1.1], (HU.Zb hU21)⟩
  have hst : bst bs p = bsz bs p := if_neg q3
  have hg1 := berr_gb (bs := bs) (p := p) (by omega) (fun h2 => q2 h2) hb3.1
  rw [hst] at hg1
  rw [decide_eq_false q3]
  refine Cf (Zi (Sn (Zf (Zo underlying80 rfl sizeOf77 rfl rfl) (Zk isAgg77 rfl hb1 rfl (Zj (Zy rfl call75 rfl rfl) (cbytes_k (K := 3) _ hp (hs.cur (by intro h1; have h3 : (pb < w.heap.size ∧ pb ≠ pb) := h1; first | omega | simp at h3)) hb (by omega) (by omega) (by omega)) ?_)))))
  rintro v w22 ⟨a22, c22, rfl, hp22, hO22, hU22⟩
  have:=hU22.size
  have hbl_hp22 := hp22.lt
  replace hO22 := hO22.tight
  have hl_hO22 := ZC hO22.sl
  have hc_hO22 := hO22.sl.cap.1
  refine Qs 2 rfl ?_
  have q6 : 0 = 0 := (by decide)
  refine Zj (Zy rfl call45 rfl rfl) (got1_ok _ ) ?_
  rintro v w23 ⟨rfl, hU23⟩
  have:=hU23.size
  refine Za (Sn (Zf (Zo underlying80 rfl sizeOf77 rfl rfl) (Zk isAgg77 rfl ((hb1.Zh hU22).Zc hU23) rfl (Zf (Zo underlying40 rfl sizeOf3 rfl rfl) ?_))))
  replace hb4 := (hb4.Zh hU22).Zc hU23
  refine Zk isAgg3 rfl hb4 rfl ?_
  replace hs := (hs.Zh hU22).Zc hU23
  replace hp22 := hp22.Zc hU23
  refine Zj (Zy rfl call75 rfl rfl) (bytes_spec _ hp22 (hs.cur (by intro h1; have h3 : (pb < w.heap.size ∧ pb ≠ pb) := h1; first | omega | simp at h3)) hb (by omega) (by omega)) ?_
  rintro v w24 ⟨a24, m24, c24, rfl, hp24, hO24, hm_24, hU24⟩
  have:=hU24.size
  have hbl_hp24 := hp24.lt
  replace hO24 := hO24.tight
  have hl_hO24 := ZC hO24.sl
  have hc_hO24 := hO24.sl.cap.1
  refine Qs 2 rfl ?_
  replace HU := ((HU.Zr hU22).Zb hU23).Zr hU24
  by_cases q7 : ((ZW bs (p + 3) (bsz bs p)).2.2) = 0
  ·rw [q7]
   refine Zj (Zy rfl call45 rfl rfl) (got1_ok _ ) ?_
   rintro v w25 ⟨rfl, hU25⟩
   have:=hU25.size
   refine Za (Sn (Xl isAgg40 sizeOf40 rfl ((hb4.Zh hU24).Zc hU25) rfl ?_))
   replace hb2 := (((hb2.Zh hU22).Zc hU23).Zh hU24).Zc hU25
   refine Xa sizeOf40 rfl rfl rfl rfl hb2 rfl ?_
   intro w26 hU26 hzz26 hb2
   refine Za (Zn (Zg (v := .agg #[.int .i64 p, .int .i64 (bkd bs p), .int .i64 (bsz bs p), .int .i64 (bsz bs p), .bool (decide (bla bs p = true))]) rfl (rc1 results49 rfl (Zu isAgg40 sizeOf40 rfl hb2)) ?_))
   refine Or.inl ⟨(hg1.1).trans q7, ?_⟩
   exact ⟨_, rfl, (by rw [hst]), (by rw [← hg1.2 q7]; exact ((hp24.Zc hU25).Zh hU26)), ((HU.Zb hU25).Zr hU26)⟩
  refine YH (Zy rfl call45 rfl rfl) (got1_no _ q7) ?_
  intro w27 hU27
  have:=hU27.size
  refine pan_ds rfl (YG ?_)
  exact Or.inr ⟨by rw [hg1.1]; exact q7, by rw [hg1.1], (HU.Zb hU27)⟩
 rw [decide_eq_false q2]
 refine YH (Zy rfl call72 rfl rfl) (smust_f _ ) ?_
 intro w28 hU28
 have:=hU28.size
 refine pan_ds rfl (YG ?_)
 exact Or.inr ⟨by rw [(berr_none (by omega) (Classical.not_not.1 q2))]; exact (by decide), by rw [(berr_none (by omega) (Classical.not_not.1 q2))], (HU.Zb hU28)⟩
theorem blk_ok {pb : Nat} {a : Option Addr} {n c p : Nat} {bs : List Int} (w : World) (hp : Blk w pb [.slice a n c, .int .i64 p]) (hs : Sl w (fun g => g < w.heap.size ∧ g ≠ pb) 1 (.slice a n c) n (ints .u8 bs)) (hb : Byt bs) (hpn : p ≤ n) (hn : n ≤ 140737488355328) (he : berr bs p = 0) :
  Calls Tryz.prog 49 #[.agg #[.pointer (some ⟨pb, 0, none⟩)]] w (Ret fun v w' => v = .agg #[.int .i64 p, .int .i64 (bkd bs p), .int .i64 (bsz bs p), .int .i64 (bst bs p), .bool (decide (bla bs p = true))] ∧ Blk w' pb [.slice a n c, .int .i64 ((bnx bs p : Nat) : Int)] ∧ Upd (Is pb) w w') :=
 (blk_all w hp hs hb hpn hn).mono fun e w1 h => Or.elim h (fun h => h.2) (fun h => absurd he h.1)
theorem blk_no {pb : Nat} {a : Option Addr} {n c p : Nat} {bs : List Int} (w : World) (hp : Blk w pb [.slice a n c, .int .i64 p]) (hs : Sl w (fun g => g < w.heap.size ∧ g ≠ pb) 1 (.slice a n c) n (ints .u8 bs)) (hb : Byt bs) (hpn : p ≤ n) (hn : n ≤ 140737488355328) (he : ¬ berr bs p = 0) :
  Calls Tryz.prog 49 #[.agg #[.pointer (some ⟨pb, 0, none⟩)]] w (Pan (.iface 25 (.int .i64 (berr bs p))) fun w' => Upd (Is pb) w w') :=
 (blk_all w hp hs hb hpn hn).mono fun e w1 h => Or.elim h (fun h => absurd h.1 he) (fun h => h.2)
theorem part_all {pb : Nat} {a : Option Addr} {n c p : Nat} {bs : List Int} (w : World) (hp : Blk w pb [.slice a n c, .int .i64 p]) (hs : Sl w (fun g => g < w.heap.size ∧ g ≠ pb) 1 (.slice a n c) n (ints .u8 bs)) (hb : Byt bs) (hpn : p ≤ n) (hn : n ≤ 140737488355328) (hm : n ≤ 100000) :
  Calls Tryz.prog 23 #[.agg #[.pointer (some ⟨pb, 0, none⟩)]] w (Dual ((ZK bs p).2.2 = 0) (Ret fun v w' => ∃ (a' : Option Addr) (m' : Nat) (c' : Nat), v = .agg #[.int .i64 ((ZK bs p).1.at_), .int .i64 ((ZK bs p).1.sz), .bool (decide ((ZK bs p).1.sk = true)), .int .i64 ((ZK bs p).1.pl), .int .i64 ((ZK bs p).1.hd.1), .int .i64 ((ZK bs p).1.hd.2.1), .int .u32 ((ZK bs p).1.hd.2.2.1), .bool (decide ((ZK bs p).1.hd.2.2.2 = true)), .slice a' m' c', .int .u32 ((ZK bs p).1.ck)] ∧ Blk w' pb [.slice a n c, .int .i64 (((ZK bs p).2.1 : Nat) : Int)] ∧ Own w' (fun g => w.heap.size ≤ g) 40 5 (.slice a' m' c') m' (rows encK ((ZK bs p).1.bl)) ∧ Upd (Is pb) w w') (Pan (.iface 25 (.int .i64 ((ZK bs p).2.2))) fun w' => Upd (Is pb) w w')) := by
 have HU : Upd (fun b => b = pb) w w := Upd.refl _ _
 have hbl_hp := hp.lt
 have hl_hs := ZC hs
 have hc_hs := hs.cap.1
 refine Zq func23 rfl ntmps23 (by simp) (Sn (Xb rfl ?_))
 intro B1 w1 hB1 hU1 hzz1 hb1
 refine ZB zeroValue37 rfl ?_
 intro B2 w2 hB2 hU2 hzz2 hb2
 refine Za (Sn (Zf (Zo underlying80 rfl sizeOf77 rfl rfl) ?_))
 replace hb1 := hb1.Zc hU2
 refine Zk isAgg77 rfl hb1 rfl ?_
 replace hp := (hp.Zc hU1).Zc hU2
 refine Zj (Zv rfl call42 rfl) (at_spec _ hp (by omega) (by omega) (by omega)) ?_
 rintro v w3 ⟨rfl, hU3⟩
 have:=hU3.size
 refine Zf (Zo underlying37 rfl sizeOf3 rfl rfl) ?_
 replace hb2 := hb2.Zc hU3
 refine Xc [.int .i64 p, .int .i64 0, .bool false, .int .i64 0, .int .i64 0, .int .i64 0, .int .u32 0, .bool false, .slice none 0 0, .int .u32 0] sizeOf3 rfl hb2 rfl rfl rfl rfl rfl ?_
 intro w4 hU4 hzz4 hb2
 refine Za (Sm (Zf (Zo underlying80 rfl sizeOf77 rfl rfl) ?_))
 replace hb1 := (hb1.Zc hU3).Zh hU4
 refine Zk isAgg77 rfl hb1 rfl ?_
 replace hs := (((hs.Zc hU1).Zc hU2).Zc hU3).Zh hU4
 replace hp := (hp.Zc hU3).Zh hU4
 refine Zj (Zv rfl call44 rfl) (isf_spec _ hp (hs.cur (by intro h1; have h3 : (pb < w.heap.size ∧ pb ≠ pb) := h1; first | omega | simp at h3)) hb (by omega) (by omega)) ?_
 rintro v w5 ⟨rfl, hU5⟩
 have:=hU5.size
 refine Qs 2 rfl ?_
 replace HU := ((((HU.Zb hU1).Zb hU2).Zb hU3).Zr hU4).Zb hU5
 by_cases q1 : ((hmk bs p).2) = 0
 ·rw [q1]
  refine Zj (Zy rfl call43 rfl rfl) (got0_ok _ ) ?_
  rintro v w6 ⟨rfl, hU6⟩
  have:=hU6.size
  refine Zf (YX rfl) (Za ?_)
  replace hp := (hp.Zc hU5).Zc hU6
  replace hs := (hs.Zc hU5).Zc hU6
  replace hb1 := (hb1.Zc hU5).Zc hU6
  replace hb2 := (hb2.Zc hU5).Zc hU6
  replace HU := HU.Zb hU6
  by_cases q2 : (hmk bs p).1 = 1
  ·rw [decide_eq_true q2]
   simp only [Bool.not_true, Bool.not_false]
   refine Cf (Zi (Sn (Zf (Zo underlying80 rfl sizeOf77 rfl rfl) (Zk isAgg77 rfl hb1 rfl (Zj (Zv rfl call48 rfl) (get_spec _ hp (hs.cur (by intro h1; have h3 : (pb < w.heap.size ∧ pb ≠ pb) := h1; first | omega | simp at h3)) hb (by omega) (by omega)) ?_)))))
   rintro v w7 ⟨rfl, hp7, hU7⟩
   have:=hU7.size
   have hbl_hp7 := hp7.lt
   refine Qs 2 rfl ?_
   replace HU := HU.Zr hU7
   by_cases q3 : ((ZA bs p).2.2) = 0
   ·have hgg := ghead_ge q3
    rw [q3]
    refine Zj (Zy rfl call47 rfl rfl) (got3_ok _ ) ?_
    rintro v w8 ⟨rfl, hU8⟩
    have:=hU8.size
    refine Zf (Zo underlying37 rfl sizeOf34 rfl rfl) ?_
    replace hb2 := (hb2.Zh hU7).Zc hU8
    refine Xp [.int .i64 p, .int .i64 0, .bool false, .int .i64 0, .int .i64 ((ZA bs p).1.1), .int .i64 ((ZA bs p).1.2.1), .int .u32 ((ZA bs p).1.2.2.1), .bool (decide ((ZA bs p).1.2.2.2 = true)), .slice none 0 0, .int .u32 0] sizeOf34 rfl rfl rfl rfl hb2 rfl rfl ?_
    intro w9 hU9 hzz9 hb2
    refine Za (Zz (Zs ?_))
    replace hp7 := (hp7.Zc hU8).Zh hU9
    refine ZS (fun mu ρ ds w' => ∃ (q : Nat) (acc : List BK) (a1 : Option Addr) (m1 : Nat) (c1 : Nat), n - q = mu ∧ ds = [] ∧ Liv ρ [(1, .pointer (some ⟨B1, 0, none⟩)), (2, .pointer (some ⟨B2, 0, none⟩))] ∧ q ≤ n ∧ acc.length * 3 ≤ q ∧ gb bs (ZA bs p).2.1 = (acc ++ (gb bs q).1, (gb bs q).2) ∧ Blk w' B2 [.int .i64 p, .int .i64 0, .bool false, .int .i64 0, .int .i64 ((ZA bs p).1.1), .int .i64 ((ZA bs p).1.2.1), .int .u32 ((ZA bs p).1.2.2.1), .bool (decide ((ZA bs p).1.2.2.2 = true)), .slice a1 m1 c1, .int .u32 0] ∧ Blk w' pb [.slice a n c, .int .i64 q] ∧ Own w' (fun g => w9.heap.size ≤ g) 40 5 (.slice a1 m1 c1) m1 (rows encK acc) ∧ Upd (fun g => g = pb ∨ g = B2 ∨ w9.heap.size ≤ g) w9 w') _ ⟨(ZA bs p).2.1, [], none, 0, 0, rfl, rfl, ⟨rfl, rfl, trivial⟩, (by omega), (by simp), (by simp), hb2, hp7, (by exact Own.nil _ _ _ _), Upd.refl _ _⟩ ?_
    rintro m10 ρ10 ds10 w10 ⟨q, acc, a1, m1, c1, rfl, rfl, hl10, hqn, hac, hgb, hb2, hp7, hO, hU10⟩
    obtain ⟨ρ10x, rfl⟩ : ∃ ρx, ρ10 = upds ρx [(1, .pointer (some ⟨B1, 0, none⟩)), (2, .pointer (some ⟨B2, 0, none⟩))] := ⟨_, ZD hl10⟩
    replace hs := ((hs.Zh hU7).Zc hU8).Zh hU9
    replace hb1 := ((hb1.Zh hU7).Zc hU8).Zh hU9
    replace HU := (HU.Zb hU8).Zr hU9
    clear hl10
    have:=hU10.size
    replace hO := hO.tight
    have hl_hO := Ya Y2 (by decide) hO.sl
    have hc_hO := hO.sl.cap.1
    have HL10 := hU10
    refine Zs (Sn ?_)
    replace hb1 := hb1.upd hU10
    refine Xl isAgg80 sizeOf80 rfl hb1 rfl ?_
    replace hs := hs.upd hU10
    replace HU := HU.trans hU10
    by_cases q4 : berr bs q = 0
    ·refine Zj (Zv rfl call49 rfl) (blk_ok (p := q) _ hp7 (hs.cur (by intro h1; have h3 : (pb < w.heap.size ∧ pb ≠ pb) := h1; first | omega | simp at h3)) hb (by omega) (by omega) q4) ?_
     rintro v w11 ⟨rfl, hp11, hU11⟩
     have:=hU11.size
     have hbl_hp11 := hp11.lt
     have hbx := bnx_le q4
     refine ZB zeroValue40 rfl ?_
     intro B12 w12 hB12 hU12 hzz12 hb12
     refine Xa sizeOf40 rfl rfl rfl rfl hb12 rfl ?_
     intro w13 hU13 hzz13 hb12
     refine Za (Sn (Zf (Zo underlying37 rfl sizeOf35 rfl rfl) ?_))
     replace hb2 := ((hb2.Zh hU11).Zc hU12).Zh hU13
     refine Zk isAgg35 rfl hb2 rfl (Xl isAgg40 sizeOf40 rfl hb12 rfl (Xz [.int .i64 q, .int .i64 (bkd bs q), .int .i64 (bsz bs q), .int .i64 (bst bs q), .bool (decide (bla bs q = true))] underlying35 sizeOf40 zeroValue40 ?_))
     intro B14 w14 hB14 hU14 hzz14 hs14
     replace hs14 : Own w14 (Is B14) 40 5 (.slice (some ⟨B14, 0, none⟩) 1 1) 1 (rows encK [bk bs q]) := hs14
     replace hO := (((hO.Zh hU11).Zc hU12).Zh hU13).Zc hU14
     refine Ye (cs3 := rows encK (acc ++ [bk bs q])) (tot := m1 + 1) (by first | rfl | exact (ZR _ _).symm | simp) underlying35 (ti := Tryz.t40) (z := .agg #[.int .i64 0, .int .i64 0, .int .i64 0, .int .i64 0, .bool false]) (sz := 5) (by' := 40) rfl rfl rfl rfl rfl (by decide) rfl hO rfl hs14.sl (Yn encK_one _) (by omega) (by simp only [maxLen]; omega) (by omega) ?_
     intro a15 c15 w15 hU15 hzz15 hO15
     replace hs := (((hs.Zh hU11).Zc hU12).Zh hU13).Zc hU14
     replace HU := (((HU.Zr hU11).Zb hU12).Zr hU13).Zb hU14
     replace hb1 := (((hb1.Zh hU11).Zc hU12).Zh hU13).Zc hU14
     replace HL10 := (((HL10.Zr hU11).Zb hU12).Zr hU13).Zb hU14
     replace hp11 := ((hp11.Zc hU12).Zh hU13).Zc hU14
     replace hb2 := hb2.Zc hU14
     replace hb12 := hb12.Zc hU14
     clear hO
     have:=hU15.size
     replace hO15 := hO15.tight
     have hl_hO15 := Ya Y2 (by decide) hO15.sl
     have hc_hO15 := hO15.sl.cap.1
     refine Zf (Zo underlying37 rfl sizeOf35 rfl rfl) ?_
     replace hb2 := hb2.upd hU15
     refine Xc [.int .i64 p, .int .i64 0, .bool false, .int .i64 0, .int .i64 ((ZA bs p).1.1), .int .i64 ((ZA bs p).1.2.1), .int .u32 ((ZA bs p).1.2.2.1), .bool (decide ((ZA bs p).1.2.2.2 = true)), .slice a15 (m1 + 1) c15, .int .u32 0] sizeOf35 rfl hb2 rfl rfl rfl rfl rfl ?_
     intro w16 hU16 hzz16 hb2
     refine Za (Sn (Zf (Zo underlying40 rfl sizeOf4 rfl rfl) (Zk isAgg4 rfl ((hb12.upd hU15).Zh hU16) rfl (Za ?_))))
     replace hp11 := (hp11.upd hU15).Zh hU16
     replace hO15 := hO15.Zh hU16
     by_cases q5 : bla bs q = true
     ·have hgt := gb_last q4 q5
      have hgl : gb bs (ZA bs p).2.1 = (acc ++ [bk bs q], bnx bs q, 0) := by rw [hgb, hgt]
      have hge : (gb bs (ZA bs p).2.1).2.2 = 0 := by rw [hgl]
      have hgq : (ZE bs (gb bs (ZA bs p).2.1).2.1) = ZE bs (bnx bs q) := by rw [hgl]
      rw [decide_eq_true q5]
      refine Ct (ZI (Sm (Zf (Zo underlying37 rfl sizeOf34 rfl rfl) (Zf (Zo underlying34 rfl sizeOf4 rfl rfl) (Zk isAgg4 rfl hb2 rfl (Za ?_))))))
      replace HU := (HU.trans hU15).Zr hU16
      replace hb1 := (hb1.upd hU15).Zh hU16
      refine W_if rfl (fun q6 => ?_) fun q6 => ?_
      ·refine Zl (Zf (Zo underlying80 rfl sizeOf77 rfl rfl) (Zk isAgg77 rfl hb1 rfl ?_))
       replace hs := (hs.upd hU15).Zh hU16
       refine Zj (Zv rfl call51 rfl) (cword_spec _ hp11 (hs.cur (by intro h1; have h3 : (pb < w.heap.size ∧ pb ≠ pb) := h1; first | omega | simp at h3)) hb (by omega) (by omega)) ?_
       rintro v w17 ⟨rfl, hp17, hU17⟩
       have:=hU17.size
       have hbl_hp17 := hp17.lt
       refine Qs 2 rfl ?_
       replace HU := HU.Zr hU17
       by_cases q7 : ((ZE bs (bnx bs q)).2.2) = 0
       ·have hgi := YD (bs := bs) q7
        rw [q7]
        refine Zj (Zy rfl call50 rfl rfl) (got2_ok _ ) ?_
        rintro v w18 ⟨rfl, hU18⟩
        have:=hU18.size
        refine Zf (Zo underlying37 rfl sizeOf32 rfl rfl) ?_
        replace hb2 := (hb2.Zh hU17).Zc hU18
        refine Xc [.int .i64 p, .int .i64 0, .bool false, .int .i64 0, .int .i64 ((ZA bs p).1.1), .int .i64 ((ZA bs p).1.2.1), .int .u32 ((ZA bs p).1.2.2.1), .bool (decide ((ZA bs p).1.2.2.2 = true)), .slice a15 (m1 + 1) c15, .int .u32 ((ZE bs (bnx bs q)).1)] sizeOf32 rfl hb2 rfl rfl rfl rfl rfl ?_
        intro w19 hU19 hzz19 hb2
        refine Za (Zz (ZJ rfl (l0 := tf 0 8) (by kernel_rfl) (Tv rfl (fun _ _ => Zo underlying80 rfl sizeOf77 rfl rfl) (Tl rfl isAgg77 rfl (((hb1.Zh hU17).Zc hU18).Zh hU19) rfl ?_))))
        replace hp17 := (hp17.Zc hU18).Zh hU19
        refine Tk 2 (tf 3 8) rfl (YI_c (v := .int .i64 (((ZE bs (bnx bs q)).2.1 : Nat) : Int)) rfl (fun w' => Zv rfl call42 rfl) (fun w' hw' => at_spec w' (hp17.Zc hw') (by omega) (by omega) (by omega))) (Tv rfl (fun _ _ => Zo underlying37 rfl sizeOf3 rfl rfl) (Tl rfl isAgg3 rfl hb2 rfl (Tv rfl (fun _ _ => Y7 rfl rfl ZY) (Tv rfl (fun _ _ => Zo underlying37 rfl sizeOf3 rfl rfl) ?_))))
        intro w20 hU20
        have:=hU20.size
        refine Wo 7 (tf 8 8) rfl ?_
        have hW : Upd No w19 w20 := hU20
        replace hb2 := hb2.Zc hU20
        refine Xc [.int .i64 p, .int .i64 ((((ZE bs (bnx bs q)).2.1 : Nat) : Int) - (p : Int)), .bool false, .int .i64 0, .int .i64 ((ZA bs p).1.1), .int .i64 ((ZA bs p).1.2.1), .int .u32 ((ZA bs p).1.2.2.1), .bool (decide ((ZA bs p).1.2.2.2 = true)), .slice a15 (m1 + 1) c15, .int .u32 ((ZE bs (bnx bs q)).1)] sizeOf3 rfl hb2 rfl rfl rfl rfl rfl ?_
        intro w21 hU21 hzz21 hb2
        refine Za ?_
        intro w22 hS22
        refine bT (Upd No w22) ?_
        have hU22 := hS22.upd
        have:=hU22.size
        try replace hW := hW.Zb hU22
        refine Wd (Sn ?_)
        replace hb2 := hb2.Zc hU22
        refine Xl isAgg37 sizeOf37 rfl hb2 rfl (Xa sizeOf37 rfl rfl rfl rfl hb2 rfl ?_)
        intro w23 hU23 hzz23 hb2
        refine Za (Zn (Zg (v := .agg #[.int .i64 p, .int .i64 ((((ZE bs (bnx bs q)).2.1 : Nat) : Int) - (p : Int)), .bool false, .int .i64 0, .int .i64 ((ZA bs p).1.1), .int .i64 ((ZA bs p).1.2.1), .int .u32 ((ZA bs p).1.2.2.1), .bool (decide ((ZA bs p).1.2.2.2 = true)), .slice a15 (m1 + 1) c15, .int .u32 ((ZE bs (bnx bs q)).1)]) rfl (rc1 results23 rfl (Zu isAgg37 sizeOf37 rfl hb2)) ?_))
        have hgw : (ZE bs (gb bs (ZA bs p).2.1).2.1).2.2 = 0 := by rw [hgq]; exact q7
        have HG := gp_sum q1 q2 q3 hge q6 hgw
        refine Or.inl ⟨by rw [HG], ?_⟩
        exact ⟨_, rfl, _, _, _, by rw [HG, hgl]; rfl, (by rw [HG, hgl]; exact ((((hp17.Zc hU20).Zh hU21).Zc hU22).Zh hU23)), (by rw [HG, hgl]; exact (((((((hO15.Zh hU17).Zc hU18).Zh hU19).Zc hU20).Zh hU21).Zc hU22).Zh hU23).weak), ((((((HU.Zb hU18).Zr hU19).Zb hU20).Zr hU21).Zb hU22).Zr hU23)⟩
       refine YH (Zy rfl call50 rfl rfl) (got2_no _ q7) ?_
       intro w24 hU24
       have:=hU24.size
       refine pan_ds rfl (YG ?_)
       have hgwx : ¬ (ZE bs (gb bs (ZA bs p).2.1).2.1).2.2 = 0 := by rw [hgq]; exact q7
       exact Or.inr ⟨by rw [gp_word q1 q2 q3 hge q6 hgwx]; exact hgwx, by rw [gp_word q1 q2 q3 hge q6 hgwx, hgq], (HU.Zb hU24)⟩
      refine Zi (Zz (ZJ rfl (l0 := tf 0 8) (by kernel_rfl) (Tv rfl (fun _ _ => Zo underlying80 rfl sizeOf77 rfl rfl) (Tl rfl isAgg77 rfl hb1 rfl (Tk 2 (tf 3 8) rfl (YI_c (v := .int .i64 ((bnx bs q : Nat) : Int)) rfl (fun w' => Zv rfl call42 rfl) (fun w' hw' => at_spec w' (hp11.Zc hw') (by omega) (by omega) (by omega))) (Tv rfl (fun _ _ => Zo underlying37 rfl sizeOf3 rfl rfl) (Tl rfl isAgg3 rfl hb2 rfl (Tv rfl (fun _ _ => Y7 rfl rfl ZY) (Tv rfl (fun _ _ => Zo underlying37 rfl sizeOf3 rfl rfl) ?_)))))))))
      intro w25 hU25
      have:=hU25.size
      refine Wo 7 (tf 8 8) rfl ?_
      have hW : Upd No w16 w25 := hU25
      replace hb2 := hb2.Zc hU25
      refine Xc [.int .i64 p, .int .i64 (((bnx bs q : Nat) : Int) - (p : Int)), .bool false, .int .i64 0, .int .i64 ((ZA bs p).1.1), .int .i64 ((ZA bs p).1.2.1), .int .u32 ((ZA bs p).1.2.2.1), .bool (decide ((ZA bs p).1.2.2.2 = true)), .slice a15 (m1 + 1) c15, .int .u32 0] sizeOf3 rfl hb2 rfl rfl rfl rfl rfl ?_
      intro w26 hU26 hzz26 hb2
      refine Za ?_
      intro w27 hS27
      refine bT (Upd No w27) ?_
      have hU27 := hS27.upd
      have:=hU27.size
      try replace hW := hW.Zb hU27
      refine Wd (Sn ?_)
      replace hb2 := hb2.Zc hU27
      refine Xl isAgg37 sizeOf37 rfl hb2 rfl (Xa sizeOf37 rfl rfl rfl rfl hb2 rfl ?_)
      intro w28 hU28 hzz28 hb2
      refine Za (Zn (Zg rfl (rc1 results23 rfl (Zu isAgg37 sizeOf37 rfl hb2)) ?_))
      have HG := gp_frame q1 q2 q3 hge q6
      refine Or.inl ⟨by rw [HG], ?_⟩
      exact ⟨_, rfl, _, _, _, by rw [HG, hgl]; rfl, (by rw [HG, hgl]; exact ((((hp11.Zc hU25).Zh hU26).Zc hU27).Zh hU28)), (by rw [HG, hgl]; exact ((((hO15.Zc hU25).Zh hU26).Zc hU27).Zh hU28).weak), ((((HU.Zb hU25).Zr hU26).Zb hU27).Zr hU28)⟩
     rw [decide_eq_false q5]
     refine Cf (Zi ?_)
     have hgm := gb_more q4 q5
     refine ⟨_, ?_, (bnx bs q), (acc ++ [bk bs q]), a15, (m1 + 1), c15, rfl, rfl, ⟨rfl, rfl, trivial⟩, (by omega), (by simp; omega), (by rw [hgb, hgm]; simp), hb2, hp11, hO15.weak, ((HL10.trans hU15).Zr hU16)⟩
     omega
    refine YH (Zv rfl call49 rfl) (blk_no (p := q) _ hp7 (hs.cur (by intro h1; have h3 : (pb < w.heap.size ∧ pb ≠ pb) := h1; first | omega | simp at h3)) hb (by omega) (by omega) q4) ?_
    intro w29 hU29
    have:=hU29.size
    refine pan_ds rfl (YG ?_)
    have hge0 := gb_err q4
    have hgv : (gb bs (ZA bs p).2.1).2.2 = berr bs q := by rw [hgb, hge0]
    have hgx : ¬ (gb bs (ZA bs p).2.1).2.2 = 0 := by rw [hgv]; exact q4
    exact Or.inr ⟨by rw [gp_blk q1 q2 q3 hgx]; exact hgx, by rw [gp_blk q1 q2 q3 hgx, hgv], (HU.Zr hU29)⟩
   refine YH (Zy rfl call47 rfl rfl) (got3_no _ q3) ?_
   intro w30 hU30
   have:=hU30.size
   refine pan_ds rfl (YG ?_)
   exact Or.inr ⟨by rw [gp_head q1 q2 q3]; exact q3, by rw [gp_head q1 q2 q3], (HU.Zb hU30)⟩
  rw [decide_eq_false q2]
  simp only [Bool.not_true, Bool.not_false]
  refine Ct (Sn (Zf (Zo underlying80 rfl sizeOf77 rfl rfl) (Zk isAgg77 rfl hb1 rfl (Zj (Zv rfl call46 rfl) (payload_spec _ hp (hs.cur (by intro h1; have h3 : (pb < w.heap.size ∧ pb ≠ pb) := h1; first | omega | simp at h3)) hb (by omega) (by omega)) ?_))))
  rintro v w31 ⟨a31, m31, c31, rfl, hp31, hO31, hm_31, hU31⟩
  have:=hU31.size
  have hbl_hp31 := hp31.lt
  replace hO31 := hO31.tight
  have hl_hO31 := ZC hO31.sl
  have hc_hO31 := hO31.sl.cap.1
  refine Qs 2 rfl ?_
  replace HU := HU.Zr hU31
  by_cases q8 : ((Yc bs p).2.2) = 0
  ·have hgk := gskip_le q8
   rw [q8]
   refine Zj (Zy rfl call45 rfl rfl) (got1_ok _ ) ?_
   rintro v w32 ⟨rfl, hU32⟩
   have:=hU32.size
   refine Zf (ZM underlying22 rfl) (Zf (Zo underlying37 rfl sizeOf4 rfl rfl) ?_)
   replace hb2 := (hb2.Zh hU31).Zc hU32
   refine Xc [.int .i64 p, .int .i64 0, .bool true, .int .i64 0, .int .i64 0, .int .i64 0, .int .u32 0, .bool false, .slice none 0 0, .int .u32 0] sizeOf4 rfl hb2 rfl rfl rfl rfl rfl ?_
   intro w33 hU33 hzz33 hb2
   refine Zf (Zo underlying37 rfl sizeOf3 rfl rfl) (Xc [.int .i64 p, .int .i64 0, .bool true, .int .i64 m31, .int .i64 0, .int .i64 0, .int .u32 0, .bool false, .slice none 0 0, .int .u32 0] sizeOf3 rfl hb2 rfl rfl rfl rfl rfl ?_)
   intro w34 hU34 hzz34 hb2
   refine Za (Zz (ZJ rfl (l0 := tf 0 8) (by kernel_rfl) (Tv rfl (fun _ _ => Zo underlying80 rfl sizeOf77 rfl rfl) (Tl rfl isAgg77 rfl ((((hb1.Zh hU31).Zc hU32).Zh hU33).Zh hU34) rfl ?_))))
   replace hp31 := ((hp31.Zc hU32).Zh hU33).Zh hU34
   refine Tk 2 (tf 3 8) rfl (YI_c (v := .int .i64 (((Yc bs p).2.1 : Nat) : Int)) rfl (fun w' => Zv rfl call42 rfl) (fun w' hw' => at_spec w' (hp31.Zc hw') (by omega) (by omega) (by omega))) (Tv rfl (fun _ _ => Zo underlying37 rfl sizeOf3 rfl rfl) (Tl rfl isAgg3 rfl hb2 rfl (Tv rfl (fun _ _ => Y7 rfl rfl ZY) (Tv rfl (fun _ _ => Zo underlying37 rfl sizeOf3 rfl rfl) ?_))))
   intro w35 hU35
   have:=hU35.size
   refine Wo 7 (tf 8 8) rfl ?_
   have hW : Upd No w34 w35 := hU35
   replace hb2 := hb2.Zc hU35
   refine Xc [.int .i64 p, .int .i64 ((((Yc bs p).2.1 : Nat) : Int) - (p : Int)), .bool true, .int .i64 m31, .int .i64 0, .int .i64 0, .int .u32 0, .bool false, .slice none 0 0, .int .u32 0] sizeOf3 rfl hb2 rfl rfl rfl rfl rfl ?_
   intro w36 hU36 hzz36 hb2
   refine Za ?_
   intro w37 hS37
   refine bT (Upd No w37) ?_
   have hU37 := hS37.upd
   have:=hU37.size
   try replace hW := hW.Zb hU37
   refine Wd (Sn ?_)
   replace hb2 := hb2.Zc hU37
   refine Xl isAgg37 sizeOf37 rfl hb2 rfl (Xa sizeOf37 rfl rfl rfl rfl hb2 rfl ?_)
   intro w38 hU38 hzz38 hb2
   refine Za (Zn (Zg rfl (rc1 results23 rfl (Zu isAgg37 sizeOf37 rfl hb2)) ?_))
   have HG := gp_skip q1 q2 q8
   refine Or.inl ⟨by rw [HG], ?_⟩
   exact ⟨_, rfl, none, 0, 0, by rw [HG]; dsimp only; rw [hm_31]; rfl, (by rw [HG]; exact ((((hp31.Zc hU35).Zh hU36).Zc hU37).Zh hU38)), (by rw [HG]; exact Own.nil _ _ _ _), (((((((HU.Zb hU32).Zr hU33).Zr hU34).Zb hU35).Zr hU36).Zb hU37).Zr hU38)⟩
  refine YH (Zy rfl call45 rfl rfl) (got1_no _ q8) ?_
  intro w39 hU39
  have:=hU39.size
  refine pan_ds rfl (YG ?_)
  exact Or.inr ⟨by rw [gp_skerr q1 q2 q8]; exact q8, by rw [gp_skerr q1 q2 q8], (HU.Zb hU39)⟩
 refine YH (Zy rfl call43 rfl rfl) (got0_no _ q1) ?_
 intro w40 hU40
 have:=hU40.size
 refine pan_ds rfl (YG ?_)
 exact Or.inr ⟨by rw [gp_mk q1]; exact q1, by rw [gp_mk q1], (HU.Zb hU40)⟩
theorem part_ok {pb : Nat} {a : Option Addr} {n c p : Nat} {bs : List Int} (w : World) (hp : Blk w pb [.slice a n c, .int .i64 p]) (hs : Sl w (fun g => g < w.heap.size ∧ g ≠ pb) 1 (.slice a n c) n (ints .u8 bs)) (hb : Byt bs) (hpn : p ≤ n) (hn : n ≤ 140737488355328) (hm : n ≤ 100000) (he : (ZK bs p).2.2 = 0) :
  Calls Tryz.prog 23 #[.agg #[.pointer (some ⟨pb, 0, none⟩)]] w (Ret fun v w' => ∃ (a' : Option Addr) (m' : Nat) (c' : Nat), v = .agg #[.int .i64 ((ZK bs p).1.at_), .int .i64 ((ZK bs p).1.sz), .bool (decide ((ZK bs p).1.sk = true)), .int .i64 ((ZK bs p).1.pl), .int .i64 ((ZK bs p).1.hd.1), .int .i64 ((ZK bs p).1.hd.2.1), .int .u32 ((ZK bs p).1.hd.2.2.1), .bool (decide ((ZK bs p).1.hd.2.2.2 = true)), .slice a' m' c', .int .u32 ((ZK bs p).1.ck)] ∧ Blk w' pb [.slice a n c, .int .i64 (((ZK bs p).2.1 : Nat) : Int)] ∧ Own w' (fun g => w.heap.size ≤ g) 40 5 (.slice a' m' c') m' (rows encK ((ZK bs p).1.bl)) ∧ Upd (Is pb) w w') :=
 (part_all w hp hs hb hpn hn hm).mono fun e w1 h => Or.elim h (fun h => h.2) (fun h => absurd he h.1)
theorem part_no {pb : Nat} {a : Option Addr} {n c p : Nat} {bs : List Int} (w : World) (hp : Blk w pb [.slice a n c, .int .i64 p]) (hs : Sl w (fun g => g < w.heap.size ∧ g ≠ pb) 1 (.slice a n c) n (ints .u8 bs)) (hb : Byt bs) (hpn : p ≤ n) (hn : n ≤ 140737488355328) (hm : n ≤ 100000) (he : ¬ (ZK bs p).2.2 = 0) :
  Calls Tryz.prog 23 #[.agg #[.pointer (some ⟨pb, 0, none⟩)]] w (Pan (.iface 25 (.int .i64 ((ZK bs p).2.2))) fun w' => Upd (Is pb) w w') :=
 (part_all w hp hs hb hpn hn hm).mono fun e w1 h => Or.elim h (fun h => absurd h.1 he) (fun h => h.2)
theorem all_spec {a : Option Addr} {n c : Nat} {bs : List Int} (w : World) (hs : Sl w (fun g => g < w.heap.size) 1 (.slice a n c) n (ints .u8 bs)) (hb : Byt bs) (hm : n ≤ 100000) :
  Calls Tryz.prog 11 #[.slice a n c] w (Ret fun v w' => ∃ (a' : Option Addr) (m' : Nat) (c' : Nat), v = .tuple #[.slice a' m' c', .int .i64 ((ga bs 0).2)] ∧ Pts w' w.heap.size w'.heap.size a' m' c' ((ga bs 0).1) ∧ Upd No w w') := by
 have HU := Upd.Yo w
 have hl_hs := ZC hs
 have hc_hs := hs.cap.1
 refine Zq func11 rfl ntmps11 (by simp) (Sn (Qs 1 rfl (ZB zeroValue25 rfl ?_)))
 intro B1 w1 hB1 hU1 hzz1 hb1
 refine Za (Sn (Wl_defer1 rfl (Za (Sn (Qs 1 rfl (Zj (Zv rfl call21 rfl) (new_spec _ (hs.Zc hU1).any (by omega)) ?_))))))
 rintro v w2 ⟨pb2, a2, c2, rfl, hp2, hO2, hpg_2, hU2⟩
 have:=hU2.size
 have hbl_hp2 := hp2.lt
 replace hO2 := hO2.tight
 have hl_hO2 := ZC hO2.sl
 have hc_hO2 := hO2.sl.cap.1
 refine Zf (ZF (pl := #[(0, 1)]) (pv := [(0, .pointer (some ⟨pb2, 0, none⟩))]) (cs := #[.pointer (some ⟨pb2, 0, none⟩)]) zeroValue80 underlying80 (fun w => by kernel_rfl)) (ZB zeroValue80 rfl ?_)
 intro B3 w3 hB3 hU3 hzz3 hb3
 refine Xa sizeOf80 rfl rfl rfl rfl hb3 rfl ?_
 intro w4 hU4 hzz4 hb3
 refine Za (Zz (Zs ?_))
 replace hp2 := (hp2.Zc hU3).Zh hU4
 refine ZS (fun mu ρ ds w' => ∃ (p : Nat) (vs : List PV) (a1 : Option Addr) (m1 : Nat) (c1 : Nat) (go : Nat), n - p = mu ∧ ds = [{ target := .fn (.func 20) #[], args := #[.pointer (some ⟨B1, 0, none⟩)] }] ∧ Liv ρ [(2, .slice a1 m1 c1), (3, .pointer (some ⟨B1, 0, none⟩)), (4, .pointer (some ⟨B3, 0, none⟩))] ∧ p ≤ n ∧ vs.length ≤ p ∧ ga bs 0 = (vs.map (·.1) ++ (ga bs p).1, (ga bs p).2) ∧ Blk w' pb2 [.slice a2 n c2, .int .i64 p] ∧ Own w' (fun g => g = go ∧ 0 < m1 ∧ w4.heap.size ≤ g) 37 10 (.slice a1 m1 c1) m1 (rows encP vs) ∧ Pbs w' w4.heap.size w'.heap.size go vs ∧ Upd (fun g => g = pb2 ∨ w4.heap.size ≤ g) w4 w') _ ⟨0, [], none, 0, 0, 0, rfl, rfl, ⟨(by first | rfl | exact Zt (by omega) | exact Zt (by simp)), rfl, rfl, trivial⟩, (by omega), (by simp), (by simp), hp2, (by exact Own.nil _ _ _ _), (Pbs.nil _ _ _ _), Upd.refl _ _⟩ ?_
 rintro m5 ρ5 ds5 w5 ⟨p, vs, a1, m1, c1, go, rfl, rfl, hl5, hqn, hac, hga, hp2, hO, hP, hU5⟩
 obtain ⟨ρ5x, rfl⟩ : ∃ ρx, ρ5 = upds ρx [(2, .slice a1 m1 c1), (3, .pointer (some ⟨B1, 0, none⟩)), (4, .pointer (some ⟨B3, 0, none⟩))] := ⟨_, ZD hl5⟩
 replace HU := (((HU.Zb hU1).Zb hU2).Zb hU3).t1 hU4
 replace hb1 := ((hb1.Zc hU2).Zc hU3).Zh hU4
 replace hO2 := (hO2.Zc hU3).Zh hU4
 clear hl5
 have:=hU5.size
 replace hO := hO.tight
 have hl_hO := Ya encP_len (by decide) hO.sl
 have hc_hO := hO.sl.cap.1
 have hbl_hp2 := hp2.lt
 have HL5 := hU5
 refine Sm (Zf (Zo underlying80 rfl sizeOf77 rfl rfl) ?_)
 replace hb3 := hb3.upd hU5
 refine Zk isAgg77 rfl hb3 rfl (Zj (Zv rfl call22 rfl) (left_spec _ hp2 (by omega) (by omega) (by omega)) ?_)
 rintro v w6 ⟨rfl, hU6⟩
 have:=hU6.size
 refine Qs 1 rfl (Za ?_)
 replace HU := (HU.trans hU5).Zb hU6
 replace hb1 := (hb1.upd hU5).Zc hU6
 replace hO := hO.Zc hU6
 replace hP := hP.Zc hU6
 refine W_if rfl (fun q1 => ?_) fun q1 => ?_
 ·refine Zi (Zs (Zl (Qs 1 rfl (Xl isAgg80 sizeOf80 rfl (hb3.Zc hU6) rfl ?_))))
  replace hO2 := (hO2.upd hU5).Zc hU6
  replace hp2 := hp2.Zc hU6
  by_cases q2 : (ZK bs p).2.2 = 0
  ·refine Zj (Zv rfl call23 rfl) (part_ok (p := p) _ hp2 (hO2.sl.cur (by intro h1; have h3 : ((w1.heap.size ≤ pb2 ∧ pb2 ≠ pb2) ∧ pb2 < w2.heap.size) := h1; first | omega | simp at h3)) hb (by omega) (by omega) (by omega) q2) ?_
   rintro v w7 ⟨a7, m7, c7, rfl, hp7, hO7, hU7⟩
   have:=hU7.size
   have hbl_hp7 := hp7.lt
   replace hO7 := hO7.tight
   have hl_hO7 := Ya Y2 (by decide) hO7.sl
   have hc_hO7 := hO7.sl.cap.1
   have hgl := gpart_le q2
   have hgm := ga_more (bs := bs) (p := p) (by omega) q2
   refine Xz [.int .i64 ((ZK bs p).1.at_), .int .i64 ((ZK bs p).1.sz), .bool (decide ((ZK bs p).1.sk = true)), .int .i64 ((ZK bs p).1.pl), .int .i64 ((ZK bs p).1.hd.1), .int .i64 ((ZK bs p).1.hd.2.1), .int .u32 ((ZK bs p).1.hd.2.2.1), .bool (decide ((ZK bs p).1.hd.2.2.2 = true)), .slice a7 m7 c7, .int .u32 ((ZK bs p).1.ck)] underlying24 sizeOf37 zeroValue37 ?_
   intro B8 w8 hB8 hU8 hzz8 hs8
   replace hs8 : Own w8 (Is B8) 37 10 (.slice (some ⟨B8, 0, none⟩) 1 1) 1 (rows encP [((ZK bs p).1, a7, m7, c7)]) := hs8
   replace hO := (hO.Zh hU7).Zc hU8
   refine Ye (cs3 := rows encP (vs ++ [((ZK bs p).1, a7, m7, c7)])) (tot := m1 + 1) (by first | rfl | exact (ZR _ _).symm | simp) underlying24 (ti := Tryz.t37) (z := .agg #[.int .i64 0, .int .i64 0, .bool false, .int .i64 0, .int .i64 0, .int .i64 0, .int .u32 0, .bool false, .slice none 0 0, .int .u32 0]) (sz := 10) (by' := 88) rfl rfl rfl rfl rfl (by decide) rfl hO rfl hs8.sl (Yn encP_one _) (by omega) (by simp only [maxLen]; omega) (by omega) ?_
   intro a9 c9 w9 hU9 hzz9 hO9
   replace HL5 := ((HL5.Zb hU6).Zr hU7).Zb hU8
   replace hP := (hP.Zh hU7).Zc hU8
   replace hp7 := hp7.Zc hU8
   replace hO7 := hO7.Zc hU8
   clear hO
   have:=hU9.size
   replace hO9 := hO9.tight
   have hl_hO9 := Ya encP_len (by decide) hO9.sl
   have hc_hO9 := hO9.sl.cap.1
   obtain ⟨go10, hgo10, hOo10⟩ := hO9.one (by omega)
   replace hgo10 : ((((((go10 = go ∧ 0 < m1 ∧ w4.heap.size ≤ go10) ∧ go10 < w5.heap.size)) ∨ go10 = w8.heap.size)) ∧ go10 < w9.heap.size) := hgo10
   replace hP := hP.upd hU9
   replace HL5 := HL5.trans hU9
   replace hp7 := hp7.upd hU9
   replace hO7 := hO7.upd hU9
   clear hO9
   refine Qs 1 rfl (Za ?_)
   have hPn : Pbs w9 (w4.heap.size) (w9.heap.size) go10 (vs ++ [((ZK bs p).1, a7, m7, c7)]) := Pbs.snoc (hP.wide (by omega) (by omega)) (show Pb w9 _ _ _ ((ZK bs p).1, a7, m7, c7) from (hO7.sl).weak)
   refine ⟨_, ?_, (ZK bs p).2.1, (vs ++ [((ZK bs p).1, a7, m7, c7)]), a9, (m1 + 1), c9, go10, rfl, rfl, ⟨(by first | rfl | exact Zt (by omega) | exact Zt (by simp)), rfl, rfl, trivial⟩, (by omega), (by simp; omega), (by rw [hga, hgm]; simp), hp7, ((hOo10.tight).weak), hPn, HL5⟩
   omega
  refine YH (Zv rfl call23 rfl) (part_no (p := p) _ hp2 (hO2.sl.cur (by intro h1; have h3 : ((w1.heap.size ≤ pb2 ∧ pb2 ≠ pb2) ∧ pb2 < w2.heap.size) := h1; first | omega | simp at h3)) hb (by omega) (by omega) (by omega) q2) ?_
  intro w11 hU11
  have:=hU11.size
  refine pan_ds rfl (lv_call (by simp) call20 rfl (scaught_pan _ (hb1.Zh hU11)) ?_)
  rintro e1 u1 w12 ⟨rfl, v1, rfl, rfl, hU12, hbe12⟩
  have:=hU12.size
  refine lv_nil (v := .tuple #[.slice a1 m1 c1, .int .i64 ((ZK bs p).2.2)]) (rm_tc results11 rfl rfl (cellIs isAgg25 hbe12)) ?_
  have hge := ga_err (bs := bs) (p := p) (by omega) q2
  have HG : ga bs 0 = (vs.map (·.1), (ZK bs p).2.2) := by rw [hga, hge]; simp
  exact ⟨_, rfl, a1, m1, c1, (Yx rfl (Zt (by rw [HG]))), (by rw [HG]; exact Pts.of ((hO.Zh hU11).Zh hU12).sl (by intro g hg; have h3 : ((g = go ∧ 0 < m1 ∧ w4.heap.size ≤ g) ∧ g < w5.heap.size) := hg; omega) ((((hP.Zh hU11).Zh hU12).low (by omega)).wide (by omega) (Or.inl rfl))), ((HU.t1 hU11).t1 hU12)⟩
 refine ZI (Sn (Qs 2 rfl (Xc [.int .i64 0] sizeOf25 rfl hb1 rfl rfl rfl rfl rfl ?_)))
 intro w13 hU13 hzz13 hb1
 refine Za (Zn (ret_ds rfl (lv_call (by simp) call20 rfl (scaught_ret _) ?_)))
 rintro e1 u1 w14 ⟨rfl, v1, rfl, rfl, hU14⟩
 have:=hU14.size
 refine lv_nil (v := .tuple #[.slice a1 m1 c1, .int .i64 0]) (rm_tc results11 rfl rfl (cellIs isAgg25 (hb1.Zc hU14))) ?_
 have hge := ga_end (bs := bs) (p := p) (by omega)
 have HG : ga bs 0 = (vs.map (·.1), 0) := by rw [hga, hge]; simp
 exact ⟨_, rfl, a1, m1, c1, (Yx rfl (Zt (by rw [HG]))), (by rw [HG]; exact Pts.of ((hO.Zh hU13).Zc hU14).sl (by intro g hg; have h3 : ((g = go ∧ 0 < m1 ∧ w4.heap.size ≤ g) ∧ g < w5.heap.size) := hg; omega) ((((hP.Zh hU13).Zc hU14).low (by omega)).wide (by omega) (Or.inl rfl))), ((HU.t1 hU13).Zb hU14)⟩
end Go.Proofs.YtbjjhfoeckkacaaGreatDoor
