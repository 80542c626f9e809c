/-
  Several texts of this project, put together.
-/
import Derived.Test.YtbjjhfoeckkacaaGreatDoorFZ
import Derived.Test.YtbjjhfoeckkacaaGreatDoorDW
import Derived.Test.YtbjjhfoeckkacaaGreatDoorGF
set_option linter.unusedVariables false
set_option linter.unusedSimpArgs false
set_option maxRecDepth 100000
set_option maxHeartbeats 16000000
namespace Go.Proofs.YtbjjhfoeckkacaaGreatDoor
open Go.Fw _root_.Go.Proofs.Tryz
theorem wcoded35 {a : Option Addr} {m c : Nat} {b : List Int} {X : CV} {sz n2 c2 : Nat} {a2 : Option Addr} {b2 : List Int} {tt : Int} {R : Nat → Prop} {y : Nat} (w : World) (hs : Sl w R 1 (.slice a m c) m (ints .u8 b)) (hb : Byt b) (hm : m ≤ 1000000) (hC : Cx w R X) (hXr : okR X) (hs2 : Sl w R 1 (.slice a2 n2 c2) n2 (ints .u8 b2)) (hbz : Byt b2) (hsz : 1 ≤ sz ∧ sz ≤ 134217728) (hn2 : n2 ≤ 134217728) (htt : 0 ≤ tt ∧ tt ≤ 100000000000000) (hy : y ≤ 131072) :
  Calls Tryz.prog 60 #[.slice a m c, .agg (cxl X).toArray, .agg #[.int .i64 sz, .slice a2 n2 c2, .int .i64 tt], .int .i64 y] w (Ret fun v w' => ∃ (xa : Option Addr) (xm : Nat) (xc : Nat) (xs : List Int) (la : Bool) (Y : CV) (sy : Nat) (ya : Option Addr) (ym : Nat) (yc : Nat) (ys : List Int) (ty : Int) (nx : Nat) (e : Int), v = .agg #[.slice xa xm xc, .bool (decide (la = true)), .slice Y.tr.1 Y.tr.2.1 Y.tr.2.2, .int .i64 Y.l0, .slice Y.t0.1 Y.t0.2.1 Y.t0.2.2, .int .i64 Y.l1, .slice Y.t1.1 Y.t1.2.1 Y.t1.2.2, .int .i64 Y.l2, .slice Y.t2.1 Y.t2.2.1 Y.t2.2.2, .int .i64 Y.r0, .int .i64 Y.r1, .int .i64 Y.r2, .int .i64 sy, .slice ya ym yc, .int .i64 ty, .int .i64 nx, .int .i64 e] ∧ Sl w' (fun g => R g ∨ w.heap.size ≤ g) 1 (.slice xa xm xc) xm (ints .u8 xs) ∧ Cx w' (fun g => R g ∨ w.heap.size ≤ g) Y ∧ Sl w' (fun g => R g ∨ w.heap.size ≤ g) 1 (.slice ya ym yc) ym (ints .u8 ys) ∧ Byt xs ∧ xm ≤ 100000000000 ∧ (e = 0 → okR Y ∧ sy = sz) ∧ Byt ys ∧ ym ≤ 134217728 ∧ 0 ≤ ty ∧ ty ≤ tt + 30000000000 ∧ Upd No w w') := by
 have HU := Upd.Yo w
 have hl_hs := ZC hs
 have hc_hs := hs.cap.1
 have hl_hs2 := ZC hs2
 have hc_hs2 := hs2.cap.1
 refine Zq func60 rfl ntmps60 (by simp) ?_
 obtain ⟨⟨lT, hcT, hnT⟩, ⟨lt0, hc0, hn0⟩, ⟨lt1, hc1, hn1⟩, ⟨lt2, hc2, hn2⟩⟩ := hC
 replace hcT := hcT.tight
 have hl_hcT := ZC hcT
 have hc_hcT := hcT.cap.1
 replace hc0 := hc0.tight
 have hl_hc0 := ZC hc0
 have hc_hc0 := hc0.cap.1
 replace hc1 := hc1.tight
 have hl_hc1 := ZC hc1
 have hc_hc1 := hc1.cap.1
 replace hc2 := hc2.tight
 have hl_hc2 := ZC hc2
 have hc_hc2 := hc2.cap.1
 refine Sn (Xb rfl ?_)
 intro B1 w1 hB1 hU1 hzz1 hb1
 refine Xb rfl ?_
 intro B2 w2 hB2 hU2 hzz2 hb2
 refine ZB zeroValue99 rfl ?_
 intro B3 w3 hB3 hU3 hzz3 hb3
 refine Za (Sn (Qs 1 rfl (Zf (Zo underlying56 rfl sizeOf51 rfl rfl) ?_)))
 replace hb1 := (hb1.Zc hU2).Zc hU3
 refine Zk isAgg51 rfl hb1 rfl ?_
 replace hs := (((hs.tight).Zc hU1).Zc hU2).Zc hU3
 refine Zj (Z5 rfl call87 (v1 := .int .i64 ((0 : Nat) : Int)) rfl rfl rfl) (wlits _ hs hb (by omega) (by omega) (((hcT.Zc hU1).Zc hU2).Zc hU3) (by omega)) ?_
 rintro v w4 ⟨a4, m4, c4, z4, d4, s4, f4, t4, qz4, e4, rfl, hL4, hT4, hz_4, hm9_4, ht9_4, hq1_4, hq2_4, hU4⟩
 have:=hU4.size
 have hl_hL4 := ZC hL4
 have hc_hL4 := hL4.cap.1
 have hl_hT4 := ZC hT4
 have hc_hT4 := hT4.cap.1
 refine Qs 9 rfl (Za (Sm (Qs 2 rfl (Za ?_))))
 replace HU := (((HU.Zb hU1).Zb hU2).Zb hU3).Zb hU4
 replace hb3 := hb3.Zc hU4
 refine W_if rfl (fun q1 => ?_) fun q1 => ?_
 ·refine Sn (Qs 1 rfl (Zf (ZF (pl := #[(0, 1), (1, 1), (2, 10), (12, 3), (15, 1), (16, 1)]) (pv := [(5, .int .i64 e4)]) (cs := #[.slice none 0 0, .bool false, .slice none 0 0, .int .i64 0, .slice none 0 0, .int .i64 0, .slice none 0 0, .int .i64 0, .slice none 0 0, .int .i64 0, .int .i64 0, .int .i64 0, .int .i64 0, .slice none 0 0, .int .i64 0, .int .i64 0, .int .i64 e4]) zeroValue99 underlying99 (fun w => by kernel_rfl)) (Xa sizeOf99 rfl rfl rfl rfl hb3 rfl ?_)))
  intro w5 hU5 hzz5 hb3
  exact Za (Zn (Zg rfl (rc1 results60 rfl (Zu isAgg99 sizeOf99 rfl hb3)) ⟨_, rfl, none, 0, 0, [], false, cz 0 0 0, 0, none, 0, 0, [], 0, 0, e4, rfl, Sl.nil _ _ _, Cx.nil _ _ _ _ _, Sl.nil _ _ _, ZO, (by omega), (fun h => absurd h q1), ZO, (by omega), (by omega), (by omega), (HU.t1 hU5)⟩))
 refine Zi (Sn (Qs 1 rfl (Zf (Zo underlying56 rfl sizeOf51 rfl rfl) ?_)))
 replace hb1 := hb1.Zc hU4
 refine Xc [.slice d4 s4 f4, .int .i64 X.l0, .slice X.t0.1 X.t0.2.1 X.t0.2.2, .int .i64 X.l1, .slice X.t1.1 X.t1.2.1 X.t1.2.2, .int .i64 X.l2, .slice X.t2.1 X.t2.2.1 X.t2.2.2, .int .i64 X.r0, .int .i64 X.r1, .int .i64 X.r2] sizeOf51 rfl hb1 rfl rfl rfl rfl rfl ?_
 intro w6 hU6 hzz6 hb1
 refine Za (Zz (Yk (T := fun g => False) rfl (l0 := tf 0 15) (by kernel_rfl) (Sq (Upd.refl _ _) rfl ?_)))
 obtain ⟨X7, hX7⟩ : ∃ x : CV, x = ⟨(d4, s4, f4), X.l0, X.t0, X.l1, X.t1, X.l2, X.t2, X.r0, X.r1, X.r2⟩ := ⟨_, rfl⟩
 have hCx : Cx w6 (fun g => R g ∧ g < w.heap.size ∨ w3.heap.size ≤ g) X7 := by rw [hX7]; exact ⟨(IS.of (((hT4.tight).Zh hU6).weak (fun g h => h.1.imp id (Nat.le_trans (by omega)))) (by omega)), (IS.of ((((((hc0.Zc hU1).Zc hU2).Zc hU3).Zc hU4).Zh hU6).weak (fun g h => .inl h)) (by omega)), (IS.of ((((((hc1.Zc hU1).Zc hU2).Zc hU3).Zc hU4).Zh hU6).weak (fun g h => .inl h)) (by omega)), (IS.of ((((((hc2.Zc hU1).Zc hU2).Zc hU3).Zc hU4).Zh hU6).weak (fun g h => .inl h)) (by omega))⟩
 refine Sq (Upd.refl _ _) rfl (Sv (Upd.refl _ _) rfl (fun _ _ => Ym (l' := qz4) (n' := m - qz4) underlying22 sizeOf5 rfl rfl (by omega) (by omega) (by omega)) ?_)
 have hT8 := Sl.cutl (l := qz4) (n := m - qz4) ((hs.Zc hU4).Zh hU6) (by omega) (by omega)
 have hl_hT8 := ZC hT8
 have hc_hT8 := hT8.cap.1
 refine Sv (Upd.refl _ _) rfl (fun w' hw' => Xt (cs := [.slice d4 s4 f4, .int .i64 X.l0, .slice X.t0.1 X.t0.2.1 X.t0.2.2, .int .i64 X.l1, .slice X.t1.1 X.t1.2.1 X.t1.2.2, .int .i64 X.l2, .slice X.t2.1 X.t2.2.1 X.t2.2.2, .int .i64 X.r0, .int .i64 X.r1, .int .i64 X.r2]) isAgg56 sizeOf56 rfl (hb1.Zc hw') rfl rfl) ?_
 intro w9 hU9
 have:=hU9.size
 replace hs2 := ((((((hs2.tight).Zc hU1).Zc hU2).Zc hU3).Zc hU4).Zh hU6).Zc hU9
 replace hb2 := (((hb2.Zc hU3).Zc hU4).Zh hU6).Zc hU9
 replace hL4 := ((hL4.tight).Zh hU6).Zc hU9
 replace HU := (HU.t1 hU6).Zb hU9
 replace hb3 := (hb3.Zh hU6).Zc hU9
 replace hCx := (hCx.tight).Zc hU9
 replace hT8 := hT8.Zc hU9
 refine Wa_two (i := 4) (j := 10) (li := tf 5 15) (lj := #[true, true, true, true, false, false, false, false, false, false, true, false, false, false, false]) (by kernel_rfl) rfl rfl (by kernel_rfl) (by kernel_rfl) ?_ ?_
 ·refine Ws_of_Wl ?_
  have hW : Upd (fun g => False) w6 w6 := (Upd.refl _ _)
  refine Zj (Zy rfl call88 (v1 := .agg (cxl X7).toArray) rfl (by rw [hX7]; rfl)) (wseqs (R := (fun g => (R g ∧ g < w.heap.size ∨ w3.heap.size ≤ g) ∧ g < w6.heap.size)) _ hT8.any (ZL hb _) (by omega) hCx (by rw [hX7]; exact hXr)) ?_
  rintro v w10 ⟨a10, m10, c10, xs10, Y10, qz10, e10, rfl, hO10, hC10, hu_10, hk9_10, hq2_10, hYr_10, hU10⟩
  have:=hU10.size
  replace hO10 := hO10.tight
  have hl_hO10 := Ya ZP (by decide) hO10.sl
  have hc_hO10 := hO10.sl.cap.1
  have hYr := hYr_10
  refine Za ?_
  intro w11 hS11
  replace hW := (hW.Zb hU9).Zb hU10
  have hX11 : Upd _ w6 w11 := hW.Zb hS11.upd
  refine bF hX11 ?_
  have hU11 := hS11.upd
  have:=hU11.size
  refine Z8 (Sq hX11 rfl (Sq hX11 rfl (Sq hX11 rfl (Sq hX11 rfl (Sq hX11 rfl ?_)))))
  intro w12 hU12
  have:=hU12.size
  refine Wo 10 (tf 11 15) rfl ?_
  have hW : Upd (fun g => False) w6 w11 := hX11
  refine ZB zeroValue56 rfl ?_
  intro B13 w13 hB13 hU13 hzz13 hb13
  refine Za ?_
  intro w14 hS14
  replace hW := (hW.Zb hU12).Zb hU13
  have hX14 : Upd _ w6 w14 := hW.Zb hS14.upd
  refine bF hX14 ?_
  have hU14 := hS14.upd
  have:=hU14.size
  refine Z8 (Sq hX14 rfl ?_)
  intro w15 hU15
  have:=hU15.size
  refine Wo 12 (tf 13 15) rfl ?_
  have hW : Upd (fun g => False) w6 w14 := hX14
  replace hb13 := (hb13.Zc hU14).Zc hU15
  refine Xa sizeOf56 rfl rfl rfl rfl hb13 rfl ?_
  intro w16 hU16 hzz16 hb13
  refine Za ?_
  intro w17 hS17
  replace hW := (hW.Zb hU15).Zr hU16
  have hX17 : Upd _ w6 w17 := hW.Zb hS17.upd
  refine bF hX17 ?_
  have hU17 := hS17.upd
  have:=hU17.size
  refine Z8 (Sq hX17 rfl (Sq hX17 rfl ?_))
  intro w18 hU18
  have:=hU18.size
  refine Wd (Sm (Qs 2 rfl (Za ?_)))
  replace HU := ((((((((HU.Zb hU10).Zb hU11).Zb hU12).Zb hU13).Zb hU14).Zb hU15).t1 hU16).Zb hU17).Zb hU18
  replace hb3 := ((((((((hb3.Zc hU10).Zc hU11).Zc hU12).Zc hU13).Zc hU14).Zc hU15).Zh hU16).Zc hU17).Zc hU18
  refine W_if rfl (fun q2 => ?_) fun q2 => ?_
  ·refine Sn (Qs 1 rfl (Zf (ZF (pl := #[(0, 1), (1, 1), (2, 10), (12, 3), (15, 1), (16, 1)]) (pv := [(5, .int .i64 e10)]) (cs := #[.slice none 0 0, .bool false, .slice none 0 0, .int .i64 0, .slice none 0 0, .int .i64 0, .slice none 0 0, .int .i64 0, .slice none 0 0, .int .i64 0, .int .i64 0, .int .i64 0, .int .i64 0, .slice none 0 0, .int .i64 0, .int .i64 0, .int .i64 e10]) zeroValue99 underlying99 (fun w => by kernel_rfl)) (Xa sizeOf99 rfl rfl rfl rfl hb3 rfl ?_)))
   intro w19 hU19 hzz19 hb3
   exact Za (Zn (Zg rfl (rc1 results60 rfl (Zu isAgg99 sizeOf99 rfl hb3)) ⟨_, rfl, none, 0, 0, [], false, cz 0 0 0, 0, none, 0, 0, [], 0, 0, e10, rfl, Sl.nil _ _ _, Cx.nil _ _ _ _ _, Sl.nil _ _ _, ZO, (by omega), (fun h => absurd h q2), ZO, (by omega), (by omega), (by omega), (HU.t1 hU19)⟩))
  refine Zi (Sm (Qs 2 rfl (Xd rfl rfl (Qs 1 rfl (Zf (ZM underlying22 rfl) (Qs 1 rfl (Za (W_if rfl (fun q3 => ?_) fun q3 => ?_))))))))
  ·refine Sn (Zf (ZF (pl := #[(0, 1), (1, 1), (2, 10), (12, 3), (15, 1), (16, 1)]) (pv := [(5, .int .i64 4)]) (cs := #[.slice none 0 0, .bool false, .slice none 0 0, .int .i64 0, .slice none 0 0, .int .i64 0, .slice none 0 0, .int .i64 0, .slice none 0 0, .int .i64 0, .int .i64 0, .int .i64 0, .int .i64 0, .slice none 0 0, .int .i64 0, .int .i64 0, .int .i64 4]) zeroValue99 underlying99 (fun w => by kernel_rfl)) (Xa sizeOf99 rfl rfl rfl rfl hb3 rfl ?_))
   intro w20 hU20 hzz20 hb3
   exact Za (Zn (Zg rfl (rc1 results60 rfl (Zu isAgg99 sizeOf99 rfl hb3)) ⟨_, rfl, none, 0, 0, [], false, cz 0 0 0, 0, none, 0, 0, [], 0, 0, 4, rfl, Sl.nil _ _ _, Cx.nil _ _ _ _ _, Sl.nil _ _ _, ZO, (by omega), (fun h => absurd h (by decide)), ZO, (by omega), (by omega), (by omega), (HU.t1 hU20)⟩))
  refine Zi (Sn (Xl isAgg95 sizeOf95 rfl (((((((((hb2.Zc hU10).Zc hU11).Zc hU12).Zc hU13).Zc hU14).Zc hU15).Zh hU16).Zc hU17).Zc hU18) rfl (Qs 3 rfl ?_)))
  refine Zj (r_call4 rfl call89 rfl rfl rfl rfl) (wrun (b := b2) (b2 := z4) _ (((((((((((hs2.Zc hU10).Zc hU11).Zc hU12).Zc hU13).Zc hU14).Zc hU15).Zh hU16).Zc hU17).Zc hU18).weak (R' := fun g => ((R g ∧ g < w.heap.size ∨ w3.heap.size ≤ g) ∧ g < w18.heap.size)) (by intro g hg; have h3 : ((R g) ∧ g < w.heap.size) := hg; show ((R g ∧ g < w.heap.size ∨ w3.heap.size ≤ g) ∧ g < w18.heap.size); refine ⟨?_, by omega⟩; first | exact .inl h3 | exact .inl h3.1 | exact (.inr (by omega)) | (rcases h3 with h4 | h4; exact .inl h4; exact .inr (by omega)) | (rcases h3 with ⟨h4 | h4, _⟩; exact .inl h4; exact .inr (by omega))))) (((((((((((hL4.Zc hU10).Zc hU11).Zc hU12).Zc hU13).Zc hU14).Zc hU15).Zh hU16).Zc hU17).Zc hU18).weak (R' := fun g => ((R g ∧ g < w.heap.size ∨ w3.heap.size ≤ g) ∧ g < w18.heap.size)) (by intro g hg; have h3 : (((((R g) ∧ g < w.heap.size)) ∨ w3.heap.size ≤ g) ∧ g < w4.heap.size) := hg; show ((R g ∧ g < w.heap.size ∨ w3.heap.size ≤ g) ∧ g < w18.heap.size); refine ⟨?_, by omega⟩; first | exact .inl h3 | exact .inl h3.1 | exact (.inr (by omega)) | (rcases h3 with h4 | h4; exact .inl h4; exact .inr (by omega)) | (rcases h3 with ⟨h4 | h4, _⟩; exact .inl h4; exact .inr (by omega))))) ((((((((hO10.Zc hU11).Zc hU12).Zc hU13).Zc hU14).Zc hU15).Zh hU16).Zc hU17).Zc hU18).sl.any (by omega) (by omega) (by omega) hbz hz_4 (by omega) (by omega) (by omega) (by omega)) ?_
  rintro v w21 ⟨a21, m21, c21, z21, ty21, d21, s21, f21, vs21, e21, rfl, hO21, hX21, hP21, hz_21, hm9_21, hs9_21, ht0_21, ht1_21, hU21⟩
  have:=hU21.size
  have hl_hO21 := ZC hO21
  have hc_hO21 := hO21.cap.1
  replace hX21 := hX21.tight
  have hl_hX21 := Ya Yt (by decide) hX21.sl
  have hc_hX21 := hX21.sl.cap.1
  refine Qs 4 rfl (ZB zeroValue95 rfl ?_)
  intro B22 w22 hB22 hU22 hzz22 hb22
  refine Xa sizeOf95 rfl rfl rfl rfl hb22 rfl ?_
  intro w23 hU23 hzz23 hb22
  refine Qs 2 rfl (Za (Sm (Qs 2 rfl (Za ?_))))
  replace HU := ((HU.Zb hU21).Zb hU22).t1 hU23
  replace hb3 := ((hb3.Zc hU21).Zc hU22).Zh hU23
  refine W_if rfl (fun q4 => ?_) fun q4 => ?_
  ·refine Sn (Qs 1 rfl (Zf (ZF (pl := #[(0, 1), (1, 1), (2, 10), (12, 3), (15, 1), (16, 1)]) (pv := [(5, .int .i64 e21)]) (cs := #[.slice none 0 0, .bool false, .slice none 0 0, .int .i64 0, .slice none 0 0, .int .i64 0, .slice none 0 0, .int .i64 0, .slice none 0 0, .int .i64 0, .int .i64 0, .int .i64 0, .int .i64 0, .slice none 0 0, .int .i64 0, .int .i64 0, .int .i64 e21]) zeroValue99 underlying99 (fun w => by kernel_rfl)) (Xa sizeOf99 rfl rfl rfl rfl hb3 rfl ?_)))
   intro w24 hU24 hzz24 hb3
   exact Za (Zn (Zg rfl (rc1 results60 rfl (Zu isAgg99 sizeOf99 rfl hb3)) ⟨_, rfl, none, 0, 0, [], false, cz 0 0 0, 0, none, 0, 0, [], 0, 0, e21, rfl, Sl.nil _ _ _, Cx.nil _ _ _ _ _, Sl.nil _ _ _, ZO, (by omega), (fun h => absurd h q4), ZO, (by omega), (by omega), (by omega), (HU.t1 hU24)⟩))
  refine Zi (Zz (Yk (T := fun g => g = B3) rfl (l0 := tf 0 6) (by kernel_rfl) (Sq (Upd.refl _ _) rfl (Yp (i := 2) (listed' := #[true, false, true, false, false, false]) (Upd.refl _ _) (by kernel_rfl) rfl (by kernel_rfl) (by kernel_rfl) (by kernel_rfl) (by kernel_rfl) (YS_v (v := .agg (cxl Y10).toArray) rfl (fun w' hw' => YE (b := B13) (off := 0) (cs := (cxl Y10)) isAgg56 sizeOf56 rfl rfl (fun j hj => by rw [((((((hb13.Zc hU17).Zc hU18).Zc hU21).Zc hU22).Zh hU23).Zh hw').cell]; match j, hj with | 0, _ => rfl | 1, _ => rfl | 2, _ => rfl | 3, _ => rfl | 4, _ => rfl | 5, _ => rfl | 6, _ => rfl | 7, _ => rfl | 8, _ => rfl | 9, _ => rfl))) (Yp (i := 3) (listed' := #[true, false, true, true, false, false]) (Upd.refl _ _) (by kernel_rfl) rfl (by kernel_rfl) (by kernel_rfl) (by kernel_rfl) (by kernel_rfl) (YS_v (v := .agg #[.int .i64 sz, .slice a21 m21 c21, .int .i64 ty21]) rfl (fun w' hw' => YE (b := B22) (off := 0) (cs := [.int .i64 sz, .slice a21 m21 c21, .int .i64 ty21]) isAgg95 sizeOf95 rfl rfl (fun j hj => by rw [(hb22.Zh hw').cell]; match j, hj with | 0, _ => rfl | 1, _ => rfl | 2, _ => rfl))) ?_)))))
  intro w25 hU25
  have:=hU25.size
  refine Wo 1 (tf 4 6) rfl ?_
  have hW : Upd (fun g => g = B3) w23 w23 := (Upd.refl _ _)
  refine Zj (Zv rfl call90 rfl) (wjoined _ (((hX21.Zc hU22).Zh hU23).Zc hU25).sl.any (((hP21.Zc hU22).Zh hU23).Zc hU25) (by omega) (by omega)) ?_
  rintro v w26 ⟨a26, m26, c26, z26, rfl, hO26, hz_26, hm9_26, hU26⟩
  have:=hU26.size
  replace hO26 := hO26.tight
  have hl_hO26 := ZC hO26.sl
  have hc_hO26 := hO26.sl.cap.1
  refine Za ?_
  intro w27 hS27
  replace hW := (hW.Zb hU25).Zb hU26
  have hX27 : Upd _ w23 w27 := hW.Zb hS27.upd
  refine bF hX27 ?_
  have hU27 := hS27.upd
  have:=hU27.size
  refine Z8 (Sv hX27 rfl (v := .agg #[.slice a26 m26 c26, .bool false, .slice Y10.tr.1 Y10.tr.2.1 Y10.tr.2.2, .int .i64 Y10.l0, .slice Y10.t0.1 Y10.t0.2.1 Y10.t0.2.2, .int .i64 Y10.l1, .slice Y10.t1.1 Y10.t1.2.1 Y10.t1.2.2, .int .i64 Y10.l2, .slice Y10.t2.1 Y10.t2.2.1 Y10.t2.2.2, .int .i64 Y10.r0, .int .i64 Y10.r1, .int .i64 Y10.r2, .int .i64 sz, .slice a21 m21 c21, .int .i64 ty21, .int .i64 0, .int .i64 0]) (fun _ _ => ZF (pl := #[(0, 1), (1, 1), (2, 10), (12, 3), (15, 1), (16, 1)]) (pv := [(0, .slice a26 m26 c26), (2, .agg (cxl Y10).toArray), (3, .agg #[.int .i64 sz, .slice a21 m21 c21, .int .i64 ty21])]) (cs := #[.slice a26 m26 c26, .bool false, .slice Y10.tr.1 Y10.tr.2.1 Y10.tr.2.2, .int .i64 Y10.l0, .slice Y10.t0.1 Y10.t0.2.1 Y10.t0.2.2, .int .i64 Y10.l1, .slice Y10.t1.1 Y10.t1.2.1 Y10.t1.2.2, .int .i64 Y10.l2, .slice Y10.t2.1 Y10.t2.2.1 Y10.t2.2.2, .int .i64 Y10.r0, .int .i64 Y10.r1, .int .i64 Y10.r2, .int .i64 sz, .slice a21 m21 c21, .int .i64 ty21, .int .i64 0, .int .i64 0]) zeroValue99 underlying99 (fun w => by kernel_rfl)) ?_)
  intro w28 hU28
  have:=hU28.size
  refine Wo 5 (tf 6 6) rfl ?_
  have hW : Upd No w27 w28 := hU28
  replace hb3 := (((hb3.Zc hU25).Zc hU26).Zc hU27).Zc hU28
  refine Xa sizeOf99 rfl rfl rfl rfl hb3 rfl ?_
  intro w29 hU29 hzz29 hb3
  refine Za ?_
  intro w30 hS30
  refine bT (Upd No w30) ?_
  have hU30 := hS30.upd
  have:=hU30.size
  try replace hW := hW.Zb hU30
  exact Wd (Zn (Zg rfl (rc1 results60 rfl (Zu isAgg99 sizeOf99 rfl (hb3.Zc hU30))) ⟨_, rfl, a26, m26, c26, z26, false, Y10, sz, a21, m21, c21, z21, ty21, 0, 0, rfl, (((((hO26.Zc hU27).Zc hU28).Zh hU29).Zc hU30).sl.weak (fun g h => .inr (Nat.le_trans (by omega) h.1))), (((((((((((((((((((hC10.tight).Zc hU11).Zc hU12).Zc hU13).Zc hU14).Zc hU15).Zh hU16).Zc hU17).Zc hU18).Zc hU21).Zc hU22).Zh hU23).Zc hU25).Zc hU26).Zc hU27).Zc hU28).Zh hU29).Zc hU30).weak (fun g h => h.1.elim (fun h => h.1.imp And.left (Nat.le_trans (by omega))) fun h => .inr (Nat.le_trans (by omega) h))), ((((((((((hO21.tight).Zc hU22).Zh hU23).Zc hU25).Zc hU26).Zc hU27).Zc hU28).Zh hU29).Zc hU30).weak (fun g h => h.1.elim (fun h => h.1.imp And.left (Nat.le_trans (by omega))) fun h => .inr (Nat.le_trans (by omega) h))), hz_26, (by omega), (fun _ => ⟨hYr (Classical.not_not.1 q2), rfl⟩), hz_21, (by omega), (by omega), (by omega), ((((((HU.Zb hU25).Zb hU26).Zb hU27).Zb hU28).t1 hU29).Zb hU30)⟩))
 refine Ws_of_Wl ?_
 have hW : Upd (fun g => False) w6 w6 := (Upd.refl _ _)
 refine ZB zeroValue56 rfl ?_
 intro B31 w31 hB31 hU31 hzz31 hb31
 refine Za ?_
 intro w32 hS32
 replace hW := (hW.Zb hU9).Zb hU31
 have hX32 : Upd _ w6 w32 := hW.Zb hS32.upd
 refine bF hX32 ?_
 have hU32 := hS32.upd
 have:=hU32.size
 refine Z8 ?_
 intro w33 hU33
 have:=hU33.size
 refine Wo 4 (#[true, true, true, true, true, false, false, false, false, false, true, false, false, false, false]) rfl ?_
 have hW : Upd (fun g => False) w6 w32 := hX32
 refine Zj (Zy rfl call88 (v1 := .agg (cxl X7).toArray) rfl (by rw [hX7]; rfl)) (wseqs (R := (fun g => (R g ∧ g < w.heap.size ∨ w3.heap.size ≤ g) ∧ g < w6.heap.size)) _ (((hT8.Zc hU31).Zc hU32).Zc hU33).any (ZL hb _) (by omega) (((hCx.Zc hU31).Zc hU32).Zc hU33) (by rw [hX7]; exact hXr)) ?_
 rintro v w34 ⟨a34, m34, c34, xs34, Y34, qz34, e34, rfl, hO34, hC34, hu_34, hk9_34, hq2_34, hYr_34, hU34⟩
 have:=hU34.size
 replace hO34 := hO34.tight
 have hl_hO34 := Ya ZP (by decide) hO34.sl
 have hc_hO34 := hO34.sl.cap.1
 have hYr := hYr_34
 refine Za ?_
 intro w35 hS35
 replace hW := (hW.Zb hU33).Zb hU34
 have hX35 : Upd _ w6 w35 := hW.Zb hS35.upd
 refine bF hX35 ?_
 have hU35 := hS35.upd
 have:=hU35.size
 refine Z8 (Yp (i := 5) (listed' := #[true, true, true, true, true, true, false, false, false, false, true, false, false, false, false]) hX35 (by kernel_rfl) rfl (by kernel_rfl) (by kernel_rfl) (by kernel_rfl) (by kernel_rfl) (YS_v (v := .tuple #[.slice a34 m34 c34, .agg (cxl Y34).toArray, .int .i64 qz34, .int .i64 e34]) rfl (fun w' hw' => r_mv (v := .tuple #[.slice a34 m34 c34, .agg (cxl Y34).toArray, .int .i64 qz34, .int .i64 e34]) rfl)) (Yp (i := 6) (listed' := #[true, true, true, true, true, true, true, false, false, false, true, false, false, false, false]) hX35 (by kernel_rfl) rfl (by kernel_rfl) (by kernel_rfl) (by kernel_rfl) (by kernel_rfl) (YS_v (v := .slice a34 m34 c34) rfl (fun w' hw' => r_ext (v := .slice a34 m34 c34) rfl rfl)) (Yp (i := 7) (listed' := #[true, true, true, true, true, true, true, true, false, false, true, false, false, false, false]) hX35 (by kernel_rfl) rfl (by kernel_rfl) (by kernel_rfl) (by kernel_rfl) (by kernel_rfl) (YS_v (v := .agg (cxl Y34).toArray) rfl (fun w' hw' => r_ext (v := .agg (cxl Y34).toArray) rfl rfl)) (Yp (i := 8) (listed' := #[true, true, true, true, true, true, true, true, true, false, true, false, false, false, false]) hX35 (by kernel_rfl) rfl (by kernel_rfl) (by kernel_rfl) (by kernel_rfl) (by kernel_rfl) (YS_v (v := .int .i64 qz34) rfl (fun w' hw' => r_ext (v := .int .i64 qz34) rfl rfl)) ?_))))
 refine Yp (i := 9) (listed' := tf 11 15) hX35 (by kernel_rfl) rfl (by kernel_rfl) (by kernel_rfl) (by kernel_rfl) (by kernel_rfl) (YS_v (v := .int .i64 e34) rfl (fun w' hw' => r_ext (v := .int .i64 e34) rfl rfl)) (Sq hX35 rfl ?_)
 intro w36 hU36
 have:=hU36.size
 refine Wo 12 (tf 13 15) rfl ?_
 have hW : Upd (fun g => False) w6 w35 := hX35
 replace hb31 := ((((hb31.Zc hU32).Zc hU33).Zc hU34).Zc hU35).Zc hU36
 refine Xa sizeOf56 rfl rfl rfl rfl hb31 rfl ?_
 intro w37 hU37 hzz37 hb31
 refine Za ?_
 intro w38 hS38
 replace hW := (hW.Zb hU36).Zr hU37
 have hX38 : Upd _ w6 w38 := hW.Zb hS38.upd
 refine bF hX38 ?_
 have hU38 := hS38.upd
 have:=hU38.size
 refine Z8 (Sq hX38 rfl (Sq hX38 rfl ?_))
 intro w39 hU39
 have:=hU39.size
 refine Wd (Sm (Qs 2 rfl (Za ?_)))
 replace HU := ((((((((HU.Zb hU31).Zb hU32).Zb hU33).Zb hU34).Zb hU35).Zb hU36).t1 hU37).Zb hU38).Zb hU39
 replace hb3 := ((((((((hb3.Zc hU31).Zc hU32).Zc hU33).Zc hU34).Zc hU35).Zc hU36).Zh hU37).Zc hU38).Zc hU39
 refine W_if rfl (fun q5 => ?_) fun q5 => ?_
 ·refine Sn (Qs 1 rfl (Zf (ZF (pl := #[(0, 1), (1, 1), (2, 10), (12, 3), (15, 1), (16, 1)]) (pv := [(5, .int .i64 e34)]) (cs := #[.slice none 0 0, .bool false, .slice none 0 0, .int .i64 0, .slice none 0 0, .int .i64 0, .slice none 0 0, .int .i64 0, .slice none 0 0, .int .i64 0, .int .i64 0, .int .i64 0, .int .i64 0, .slice none 0 0, .int .i64 0, .int .i64 0, .int .i64 e34]) zeroValue99 underlying99 (fun w => by kernel_rfl)) (Xa sizeOf99 rfl rfl rfl rfl hb3 rfl ?_)))
  intro w40 hU40 hzz40 hb3
  exact Za (Zn (Zg rfl (rc1 results60 rfl (Zu isAgg99 sizeOf99 rfl hb3)) ⟨_, rfl, none, 0, 0, [], false, cz 0 0 0, 0, none, 0, 0, [], 0, 0, e34, rfl, Sl.nil _ _ _, Cx.nil _ _ _ _ _, Sl.nil _ _ _, ZO, (by omega), (fun h => absurd h q5), ZO, (by omega), (by omega), (by omega), (HU.t1 hU40)⟩))
 refine Zi (Sm (Qs 2 rfl (Xd rfl rfl (Qs 1 rfl (Zf (ZM underlying22 rfl) (Qs 1 rfl (Za (W_if rfl (fun q6 => ?_) fun q6 => ?_))))))))
 ·refine Sn (Zf (ZF (pl := #[(0, 1), (1, 1), (2, 10), (12, 3), (15, 1), (16, 1)]) (pv := [(5, .int .i64 4)]) (cs := #[.slice none 0 0, .bool false, .slice none 0 0, .int .i64 0, .slice none 0 0, .int .i64 0, .slice none 0 0, .int .i64 0, .slice none 0 0, .int .i64 0, .int .i64 0, .int .i64 0, .int .i64 0, .slice none 0 0, .int .i64 0, .int .i64 0, .int .i64 4]) zeroValue99 underlying99 (fun w => by kernel_rfl)) (Xa sizeOf99 rfl rfl rfl rfl hb3 rfl ?_))
  intro w41 hU41 hzz41 hb3
  exact Za (Zn (Zg rfl (rc1 results60 rfl (Zu isAgg99 sizeOf99 rfl hb3)) ⟨_, rfl, none, 0, 0, [], false, cz 0 0 0, 0, none, 0, 0, [], 0, 0, 4, rfl, Sl.nil _ _ _, Cx.nil _ _ _ _ _, Sl.nil _ _ _, ZO, (by omega), (fun h => absurd h (by decide)), ZO, (by omega), (by omega), (by omega), (HU.t1 hU41)⟩))
 refine Zi (Sn (Xl isAgg95 sizeOf95 rfl (((((((((hb2.Zc hU31).Zc hU32).Zc hU33).Zc hU34).Zc hU35).Zc hU36).Zh hU37).Zc hU38).Zc hU39) rfl (Qs 3 rfl ?_)))
 refine Zj (r_call4 rfl call89 rfl rfl rfl rfl) (wrun (b := b2) (b2 := z4) _ (((((((((((hs2.Zc hU31).Zc hU32).Zc hU33).Zc hU34).Zc hU35).Zc hU36).Zh hU37).Zc hU38).Zc hU39).weak (R' := fun g => ((R g ∧ g < w.heap.size ∨ w3.heap.size ≤ g) ∧ g < w39.heap.size)) (by intro g hg; have h3 : ((R g) ∧ g < w.heap.size) := hg; show ((R g ∧ g < w.heap.size ∨ w3.heap.size ≤ g) ∧ g < w39.heap.size); refine ⟨?_, by omega⟩; first | exact .inl h3 | exact .inl h3.1 | exact (.inr (by omega)) | (rcases h3 with h4 | h4; exact .inl h4; exact .inr (by omega)) | (rcases h3 with ⟨h4 | h4, _⟩; exact .inl h4; exact .inr (by omega))))) (((((((((((hL4.Zc hU31).Zc hU32).Zc hU33).Zc hU34).Zc hU35).Zc hU36).Zh hU37).Zc hU38).Zc hU39).weak (R' := fun g => ((R g ∧ g < w.heap.size ∨ w3.heap.size ≤ g) ∧ g < w39.heap.size)) (by intro g hg; have h3 : (((((R g) ∧ g < w.heap.size)) ∨ w3.heap.size ≤ g) ∧ g < w4.heap.size) := hg; show ((R g ∧ g < w.heap.size ∨ w3.heap.size ≤ g) ∧ g < w39.heap.size); refine ⟨?_, by omega⟩; first | exact .inl h3 | exact .inl h3.1 | exact (.inr (by omega)) | (rcases h3 with h4 | h4; exact .inl h4; exact .inr (by omega)) | (rcases h3 with ⟨h4 | h4, _⟩; exact .inl h4; exact .inr (by omega))))) (((((hO34.Zc hU35).Zc hU36).Zh hU37).Zc hU38).Zc hU39).sl.any (by omega) (by omega) (by omega) hbz hz_4 (by omega) (by omega) (by omega) (by omega)) ?_
 rintro v w42 ⟨a42, m42, c42, z42, ty42, d42, s42, f42, vs42, e42, rfl, hO42, hX42, hP42, hz_42, hm9_42, hs9_42, ht0_42, ht1_42, hU42⟩
 have:=hU42.size
 have hl_hO42 := ZC hO42
 have hc_hO42 := hO42.cap.1
 replace hX42 := hX42.tight
 have hl_hX42 := Ya Yt (by decide) hX42.sl
 have hc_hX42 := hX42.sl.cap.1
 refine Qs 4 rfl (ZB zeroValue95 rfl ?_)
 intro B43 w43 hB43 hU43 hzz43 hb43
 refine Xa sizeOf95 rfl rfl rfl rfl hb43 rfl ?_
 intro w44 hU44 hzz44 hb43
 refine Qs 2 rfl (Za (Sm (Qs 2 rfl (Za ?_))))
 replace HU := ((HU.Zb hU42).Zb hU43).t1 hU44
 replace hb3 := ((hb3.Zc hU42).Zc hU43).Zh hU44
 refine W_if rfl (fun q7 => ?_) fun q7 => ?_
 ·refine Sn (Qs 1 rfl (Zf (ZF (pl := #[(0, 1), (1, 1), (2, 10), (12, 3), (15, 1), (16, 1)]) (pv := [(5, .int .i64 e42)]) (cs := #[.slice none 0 0, .bool false, .slice none 0 0, .int .i64 0, .slice none 0 0, .int .i64 0, .slice none 0 0, .int .i64 0, .slice none 0 0, .int .i64 0, .int .i64 0, .int .i64 0, .int .i64 0, .slice none 0 0, .int .i64 0, .int .i64 0, .int .i64 e42]) zeroValue99 underlying99 (fun w => by kernel_rfl)) (Xa sizeOf99 rfl rfl rfl rfl hb3 rfl ?_)))
  intro w45 hU45 hzz45 hb3
  exact Za (Zn (Zg rfl (rc1 results60 rfl (Zu isAgg99 sizeOf99 rfl hb3)) ⟨_, rfl, none, 0, 0, [], false, cz 0 0 0, 0, none, 0, 0, [], 0, 0, e42, rfl, Sl.nil _ _ _, Cx.nil _ _ _ _ _, Sl.nil _ _ _, ZO, (by omega), (fun h => absurd h q7), ZO, (by omega), (by omega), (by omega), (HU.t1 hU45)⟩))
 refine Zi (Zz (Yk (T := fun g => g = B3) rfl (l0 := tf 0 6) (by kernel_rfl) (Sq (Upd.refl _ _) rfl (Yp (i := 2) (listed' := #[true, false, true, false, false, false]) (Upd.refl _ _) (by kernel_rfl) rfl (by kernel_rfl) (by kernel_rfl) (by kernel_rfl) (by kernel_rfl) (YS_v (v := .agg (cxl Y34).toArray) rfl (fun w' hw' => YE (b := B31) (off := 0) (cs := (cxl Y34)) isAgg56 sizeOf56 rfl rfl (fun j hj => by rw [((((((hb31.Zc hU38).Zc hU39).Zc hU42).Zc hU43).Zh hU44).Zh hw').cell]; match j, hj with | 0, _ => rfl | 1, _ => rfl | 2, _ => rfl | 3, _ => rfl | 4, _ => rfl | 5, _ => rfl | 6, _ => rfl | 7, _ => rfl | 8, _ => rfl | 9, _ => rfl))) (Yp (i := 3) (listed' := #[true, false, true, true, false, false]) (Upd.refl _ _) (by kernel_rfl) rfl (by kernel_rfl) (by kernel_rfl) (by kernel_rfl) (by kernel_rfl) (YS_v (v := .agg #[.int .i64 sz, .slice a42 m42 c42, .int .i64 ty42]) rfl (fun w' hw' => YE (b := B43) (off := 0) (cs := [.int .i64 sz, .slice a42 m42 c42, .int .i64 ty42]) isAgg95 sizeOf95 rfl rfl (fun j hj => by rw [(hb43.Zh hw').cell]; match j, hj with | 0, _ => rfl | 1, _ => rfl | 2, _ => rfl))) ?_)))))
 intro w46 hU46
 have:=hU46.size
 refine Wo 1 (tf 4 6) rfl ?_
 have hW : Upd (fun g => g = B3) w44 w44 := (Upd.refl _ _)
 refine Zj (Zv rfl call90 rfl) (wjoined _ (((hX42.Zc hU43).Zh hU44).Zc hU46).sl.any (((hP42.Zc hU43).Zh hU44).Zc hU46) (by omega) (by omega)) ?_
 rintro v w47 ⟨a47, m47, c47, z47, rfl, hO47, hz_47, hm9_47, hU47⟩
 have:=hU47.size
 replace hO47 := hO47.tight
 have hl_hO47 := ZC hO47.sl
 have hc_hO47 := hO47.sl.cap.1
 refine Za ?_
 intro w48 hS48
 replace hW := (hW.Zb hU46).Zb hU47
 have hX48 : Upd _ w44 w48 := hW.Zb hS48.upd
 refine bF hX48 ?_
 have hU48 := hS48.upd
 have:=hU48.size
 refine Z8 (Sv hX48 rfl (v := .agg #[.slice a47 m47 c47, .bool false, .slice Y34.tr.1 Y34.tr.2.1 Y34.tr.2.2, .int .i64 Y34.l0, .slice Y34.t0.1 Y34.t0.2.1 Y34.t0.2.2, .int .i64 Y34.l1, .slice Y34.t1.1 Y34.t1.2.1 Y34.t1.2.2, .int .i64 Y34.l2, .slice Y34.t2.1 Y34.t2.2.1 Y34.t2.2.2, .int .i64 Y34.r0, .int .i64 Y34.r1, .int .i64 Y34.r2, .int .i64 sz, .slice a42 m42 c42, .int .i64 ty42, .int .i64 0, .int .i64 0]) (fun _ _ => ZF (pl := #[(0, 1), (1, 1), (2, 10), (12, 3), (15, 1), (16, 1)]) (pv := [(0, .slice a47 m47 c47), (2, .agg (cxl Y34).toArray), (3, .agg #[.int .i64 sz, .slice a42 m42 c42, .int .i64 ty42])]) (cs := #[.slice a47 m47 c47, .bool false, .slice Y34.tr.1 Y34.tr.2.1 Y34.tr.2.2, .int .i64 Y34.l0, .slice Y34.t0.1 Y34.t0.2.1 Y34.t0.2.2, .int .i64 Y34.l1, .slice Y34.t1.1 Y34.t1.2.1 Y34.t1.2.2, .int .i64 Y34.l2, .slice Y34.t2.1 Y34.t2.2.1 Y34.t2.2.2, .int .i64 Y34.r0, .int .i64 Y34.r1, .int .i64 Y34.r2, .int .i64 sz, .slice a42 m42 c42, .int .i64 ty42, .int .i64 0, .int .i64 0]) zeroValue99 underlying99 (fun w => by kernel_rfl)) ?_)
 intro w49 hU49
 have:=hU49.size
 refine Wo 5 (tf 6 6) rfl ?_
 have hW : Upd No w48 w49 := hU49
 replace hb3 := (((hb3.Zc hU46).Zc hU47).Zc hU48).Zc hU49
 refine Xa sizeOf99 rfl rfl rfl rfl hb3 rfl ?_
 intro w50 hU50 hzz50 hb3
 refine Za ?_
 intro w51 hS51
 refine bT (Upd No w51) ?_
 have hU51 := hS51.upd
 have:=hU51.size
 try replace hW := hW.Zb hU51
 exact Wd (Zn (Zg rfl (rc1 results60 rfl (Zu isAgg99 sizeOf99 rfl (hb3.Zc hU51))) ⟨_, rfl, a47, m47, c47, z47, false, Y34, sz, a42, m42, c42, z42, ty42, 0, 0, rfl, (((((hO47.Zc hU48).Zc hU49).Zh hU50).Zc hU51).sl.weak (fun g h => .inr (Nat.le_trans (by omega) h.1))), ((((((((((((((((hC34.tight).Zc hU35).Zc hU36).Zh hU37).Zc hU38).Zc hU39).Zc hU42).Zc hU43).Zh hU44).Zc hU46).Zc hU47).Zc hU48).Zc hU49).Zh hU50).Zc hU51).weak (fun g h => h.1.elim (fun h => h.1.imp And.left (Nat.le_trans (by omega))) fun h => .inr (Nat.le_trans (by omega) h))), ((((((((((hO42.tight).Zc hU43).Zh hU44).Zc hU46).Zc hU47).Zc hU48).Zc hU49).Zh hU50).Zc hU51).weak (fun g h => h.1.elim (fun h => h.1.imp And.left (Nat.le_trans (by omega))) fun h => .inr (Nat.le_trans (by omega) h))), hz_47, (by omega), (fun _ => ⟨hYr (Classical.not_not.1 q5), rfl⟩), hz_42, (by omega), (by omega), (by omega), ((((((HU.Zb hU46).Zb hU47).Zb hU48).Zb hU49).t1 hU50).Zb hU51)⟩))
theorem vagg {a b : Array Value} (h : a = b) : Value.agg a = .agg b := by rw [h]
theorem wblock {a : Option Addr} {m c : Nat} {b : List Int} {X : CV} {sz n2 c2 : Nat} {a2 : Option Addr} {b2 : List Int} {tt : Int} {R : Nat → Prop} {p : Nat} {wz : Int} (w : World) (hs : Sl w R 1 (.slice a m c) m (ints .u8 b)) (hb : Byt b) (hm : m ≤ 1000000) (hC : Cx w R X) (hXr : okR X) (hs2 : Sl w R 1 (.slice a2 n2 c2) n2 (ints .u8 b2)) (hbz : Byt b2) (hsz : 1 ≤ sz ∧ sz ≤ 134217728) (hn2 : n2 ≤ 134217728) (htt : 0 ≤ tt ∧ tt ≤ 100000000000000) (hp : p ≤ m) (hwz : -9223372036854775808 ≤ wz ∧ wz ≤ 9223372036854775807) :
  Calls Tryz.prog 34 #[.slice a m c, .int .i64 p, .agg (cxl X).toArray, .agg #[.int .i64 sz, .slice a2 n2 c2, .int .i64 tt], .int .i64 wz] w (Ret fun v w' => ∃ (xa : Option Addr) (xm : Nat) (xc : Nat) (xs : List Int) (la : Bool) (Y : CV) (sy : Nat) (ya : Option Addr) (ym : Nat) (yc : Nat) (ys : List Int) (ty : Int) (nx : Nat) (e : Int), v = .agg #[.slice xa xm xc, .bool (decide (la = true)), .slice Y.tr.1 Y.tr.2.1 Y.tr.2.2, .int .i64 Y.l0, .slice Y.t0.1 Y.t0.2.1 Y.t0.2.2, .int .i64 Y.l1, .slice Y.t1.1 Y.t1.2.1 Y.t1.2.2, .int .i64 Y.l2, .slice Y.t2.1 Y.t2.2.1 Y.t2.2.2, .int .i64 Y.r0, .int .i64 Y.r1, .int .i64 Y.r2, .int .i64 sy, .slice ya ym yc, .int .i64 ty, .int .i64 nx, .int .i64 e] ∧ Sl w' (fun g => R g ∨ w.heap.size ≤ g) 1 (.slice xa xm xc) xm (ints .u8 xs) ∧ Cx w' (fun g => R g ∨ w.heap.size ≤ g) Y ∧ Sl w' (fun g => R g ∨ w.heap.size ≤ g) 1 (.slice ya ym yc) ym (ints .u8 ys) ∧ Byt xs ∧ xm ≤ 100000000000 ∧ (e = 0 → okR Y ∧ sy = sz) ∧ Byt ys ∧ ym ≤ 134217728 ∧ 0 ≤ ty ∧ ty ≤ tt + 30000000000 ∧ (e = 0 → berr b p = 0 ∧ la = bla b p ∧ nx = bnx b p) ∧ Upd No w w') := by
 have HU := Upd.Yo w
 have hl_hs := ZC hs
 have hc_hs := hs.cap.1
 have hl_hs2 := ZC hs2
 have hc_hs2 := hs2.cap.1
 refine Zq func34 rfl ntmps34 (by simp) (Sn (Xb rfl ?_))
 intro B1 w1 hB1 hU1 hzz1 hb1
 refine Xb rfl ?_
 intro B2 w2 hB2 hU2 hzz2 hb2
 refine ZB zeroValue99 rfl ?_
 intro B3 w3 hB3 hU3 hzz3 hb3
 refine Za (Sm (Qs 3 rfl ?_))
 replace HU := ((HU.Zb hU1).Zb hU2).Zb hU3
 by_cases q1 : wz < 1024
 ·rw [decide_eq_true q1]
  refine Gf (Gf (Zf (Zx (v := .bool true) rfl rfl) (Za (Ct (Sn (Zf (ZF (pl := #[(0, 1), (1, 1), (2, 10), (12, 3), (15, 1), (16, 1)]) (pv := [(5, .int .i64 2)]) (cs := #[.slice none 0 0, .bool false, .slice none 0 0, .int .i64 0, .slice none 0 0, .int .i64 0, .slice none 0 0, .int .i64 0, .slice none 0 0, .int .i64 0, .int .i64 0, .int .i64 0, .int .i64 0, .slice none 0 0, .int .i64 0, .int .i64 0, .int .i64 2]) zeroValue99 underlying99 (fun w => by kernel_rfl)) (Xa sizeOf99 rfl rfl rfl rfl hb3 rfl ?_)))))))
  intro w4 hU4 hzz4 hb3
  exact Za (Zn (Zg rfl (rc1 results34 rfl (Zu isAgg99 sizeOf99 rfl hb3)) ⟨_, rfl, none, 0, 0, [], false, cz 0 0 0, 0, none, 0, 0, [], 0, 0, 2, rfl, Sl.nil _ _ _, Cx.nil _ _ _ _ _, Sl.nil _ _ _, ZO, (by omega), (fun h => absurd h (by decide)), ZO, (by omega), (by omega), (by omega), (fun h => absurd h (by decide)), (HU.t1 hU4)⟩))
 rw [decide_eq_false q1]
 refine Gt (Qs 1 rfl (Gt (Qs 1 rfl (Zf (Zw (v := .bool (decide (134217728 < wz))) rfl rfl) (Za (W_if rfl (fun q2 => ?_) fun q2 => ?_))))))
 ·refine Sn (Zf (ZF (pl := #[(0, 1), (1, 1), (2, 10), (12, 3), (15, 1), (16, 1)]) (pv := [(5, .int .i64 2)]) (cs := #[.slice none 0 0, .bool false, .slice none 0 0, .int .i64 0, .slice none 0 0, .int .i64 0, .slice none 0 0, .int .i64 0, .slice none 0 0, .int .i64 0, .int .i64 0, .int .i64 0, .int .i64 0, .slice none 0 0, .int .i64 0, .int .i64 0, .int .i64 2]) zeroValue99 underlying99 (fun w => by kernel_rfl)) (Xa sizeOf99 rfl rfl rfl rfl hb3 rfl ?_))
  intro w5 hU5 hzz5 hb3
  exact Za (Zn (Zg rfl (rc1 results34 rfl (Zu isAgg99 sizeOf99 rfl hb3)) ⟨_, rfl, none, 0, 0, [], false, cz 0 0 0, 0, none, 0, 0, [], 0, 0, 2, rfl, Sl.nil _ _ _, Cx.nil _ _ _ _ _, Sl.nil _ _ _, ZO, (by omega), (fun h => absurd h (by decide)), ZO, (by omega), (by omega), (by omega), (fun h => absurd h (by decide)), (HU.t1 hU5)⟩))
 refine Zi (Sn (Qs 2 rfl ?_))
 replace hs := (((hs.tight).Zc hU1).Zc hU2).Zc hU3
 by_cases q3 : m < p + 3
 ·refine Zj (Zy rfl call57 rfl rfl) (rkind_short (p := p) _ hs.any hb (by omega) (by omega) (by omega)) ?_
  rintro v w6 ⟨rfl, hU6⟩
  have:=hU6.size
  refine Qs 9 rfl (Za (Sm (Qs 1 rfl (Zf (YX (b := false) rfl) (Za (Ct (Sn (Zf (ZF (pl := #[(0, 1), (1, 1), (2, 10), (12, 3), (15, 1), (16, 1)]) (pv := [(5, .int .i64 3)]) (cs := #[.slice none 0 0, .bool false, .slice none 0 0, .int .i64 0, .slice none 0 0, .int .i64 0, .slice none 0 0, .int .i64 0, .slice none 0 0, .int .i64 0, .int .i64 0, .int .i64 0, .int .i64 0, .slice none 0 0, .int .i64 0, .int .i64 0, .int .i64 3]) zeroValue99 underlying99 (fun w => by kernel_rfl)) ?_))))))))
  replace hb3 := hb3.Zc hU6
  refine Xa sizeOf99 rfl rfl rfl rfl hb3 rfl ?_
  intro w7 hU7 hzz7 hb3
  exact Za (Zn (Zg rfl (rc1 results34 rfl (Zu isAgg99 sizeOf99 rfl hb3)) ⟨_, rfl, none, 0, 0, [], false, cz 0 0 0, 0, none, 0, 0, [], 0, 0, 3, rfl, Sl.nil _ _ _, Cx.nil _ _ _ _ _, Sl.nil _ _ _, ZO, (by omega), (fun h => absurd h (by decide)), ZO, (by omega), (by omega), (by omega), (fun h => absurd h (by decide)), ((HU.Zb hU6).t1 hU7)⟩))
 refine Zj (Zy rfl call57 rfl rfl) (rkind_ok (p := p) _ hs.any hb (by omega) (by omega) (by omega)) ?_
 rintro v w8 ⟨rfl, hU8⟩
 have:=hU8.size
 have hkb := bk_bd hb p
 have hsb := bst_bd hb p
 refine Qs 9 rfl (Za (Sm (Qs 1 rfl (Zf (YX (b := true) rfl) (Za (Cf (Zi (Sn (Qs 1 rfl (Xd rfl rfl (Qs 1 rfl (Za (Sm (Qs 3 rfl ?_))))))))))))))
 replace HU := HU.Zb hU8
 replace hb3 := hb3.Zc hU8
 by_cases q4 : (bkd b p) = 3
 ·rw [decide_eq_true q4]
  refine Gf (Gf (Gf (Z6 rfl (Z6 rfl (Z6 rfl (Z6 rfl (Gf (Zf (Zx (v := .bool true) rfl rfl) (Za (Ct (Sn (Zf (ZF (pl := #[(0, 1), (1, 1), (2, 10), (12, 3), (15, 1), (16, 1)]) (pv := [(5, .int .i64 10)]) (cs := #[.slice none 0 0, .bool false, .slice none 0 0, .int .i64 0, .slice none 0 0, .int .i64 0, .slice none 0 0, .int .i64 0, .slice none 0 0, .int .i64 0, .int .i64 0, .int .i64 0, .int .i64 0, .slice none 0 0, .int .i64 0, .int .i64 0, .int .i64 10]) zeroValue99 underlying99 (fun w => by kernel_rfl)) (Xa sizeOf99 rfl rfl rfl rfl hb3 rfl ?_)))))))))))))
  intro w9 hU9 hzz9 hb3
  exact Za (Zn (Zg rfl (rc1 results34 rfl (Zu isAgg99 sizeOf99 rfl hb3)) ⟨_, rfl, none, 0, 0, [], false, cz 0 0 0, 0, none, 0, 0, [], 0, 0, 10, rfl, Sl.nil _ _ _, Cx.nil _ _ _ _ _, Sl.nil _ _ _, ZO, (by omega), (fun h => absurd h (by decide)), ZO, (by omega), (by omega), (by omega), (fun h => absurd h (by decide)), (HU.t1 hU9)⟩))
 rw [decide_eq_false q4]
 refine Gt (Qs 1 rfl (Gt (Qs 1 rfl (Gt (Qs 1 rfl ?_)))))
 replace hs2 := ((((hs2.tight).Zc hU1).Zc hU2).Zc hU3).Zc hU8
 replace hC := ((((hC.tight).Zc hU1).Zc hU2).Zc hU3).Zc hU8
 replace hb1 := ((hb1.Zc hU2).Zc hU3).Zc hU8
 replace hb2 := (hb2.Zc hU3).Zc hU8
 replace hs := hs.Zc hU8
 by_cases q5 : (bkd b p) < 2
 ·rw [decide_eq_true q5]
  refine Gt (Qs 1 rfl (Gt (Qs 1 rfl (Gt (Zj (Zv rfl call58 (v0 := .int .i64 ((wz.toNat : Nat) : Int)) Zt) (wbound _ (by omega)) ?_)))))
  rintro v w10 ⟨y10, rfl, hy_10, hU10⟩
  have:=hU10.size
  refine Gt (Qs 1 rfl (Gt (Zf (Zx (v := .bool (decide ((y10 : Int) < (bsz b p)))) rfl rfl) (Zf (Zw (v := .bool (decide ((y10 : Int) < (bsz b p)))) rfl rfl) (Za ?_)))))
  replace HU := HU.Zb hU10
  replace hb3 := hb3.Zc hU10
  refine W_if rfl (fun q6 => ?_) fun q6 => ?_
  ·refine Sn (Zf (ZF (pl := #[(0, 1), (1, 1), (2, 10), (12, 3), (15, 1), (16, 1)]) (pv := [(5, .int .i64 10)]) (cs := #[.slice none 0 0, .bool false, .slice none 0 0, .int .i64 0, .slice none 0 0, .int .i64 0, .slice none 0 0, .int .i64 0, .slice none 0 0, .int .i64 0, .int .i64 0, .int .i64 0, .int .i64 0, .slice none 0 0, .int .i64 0, .int .i64 0, .int .i64 10]) zeroValue99 underlying99 (fun w => by kernel_rfl)) (Xa sizeOf99 rfl rfl rfl rfl hb3 rfl ?_))
   intro w11 hU11 hzz11 hb3
   exact Za (Zn (Zg rfl (rc1 results34 rfl (Zu isAgg99 sizeOf99 rfl hb3)) ⟨_, rfl, none, 0, 0, [], false, cz 0 0 0, 0, none, 0, 0, [], 0, 0, 10, rfl, Sl.nil _ _ _, Cx.nil _ _ _ _ _, Sl.nil _ _ _, ZO, (by omega), (fun h => absurd h (by decide)), ZO, (by omega), (by omega), (by omega), (fun h => absurd h (by decide)), (HU.t1 hU11)⟩))
  refine Zi (Sn (Qs 2 rfl (Za (Sm (Qs 2 rfl (Za ?_))))))
  replace hs := hs.Zc hU10
  replace hC := hC.Zc hU10
  replace hs2 := hs2.Zc hU10
  replace hb1 := hb1.Zc hU10
  replace hb2 := hb2.Zc hU10
  refine W_if rfl (fun q7 => ?_) fun q7 => ?_
  ·refine Zl (Qs 1 rfl (Za (Sm (Qs 2 rfl (Zf (ZM underlying22 rfl) (Qs 1 rfl (Xs rfl rfl (Qs 1 rfl (Za (W_if rfl (fun q8 => ?_) fun q8 => ?_))))))))))
   ·refine Sn (Zf (ZF (pl := #[(0, 1), (1, 1), (2, 10), (12, 3), (15, 1), (16, 1)]) (pv := [(5, .int .i64 3)]) (cs := #[.slice none 0 0, .bool false, .slice none 0 0, .int .i64 0, .slice none 0 0, .int .i64 0, .slice none 0 0, .int .i64 0, .slice none 0 0, .int .i64 0, .int .i64 0, .int .i64 0, .int .i64 0, .slice none 0 0, .int .i64 0, .int .i64 0, .int .i64 3]) zeroValue99 underlying99 (fun w => by kernel_rfl)) (Xa sizeOf99 rfl rfl rfl rfl hb3 rfl ?_))
    intro w12 hU12 hzz12 hb3
    exact Za (Zn (Zg rfl (rc1 results34 rfl (Zu isAgg99 sizeOf99 rfl hb3)) ⟨_, rfl, none, 0, 0, [], false, cz 0 0 0, 0, none, 0, 0, [], 0, 0, 3, rfl, Sl.nil _ _ _, Cx.nil _ _ _ _ _, Sl.nil _ _ _, ZO, (by omega), (fun h => absurd h (by decide)), ZO, (by omega), (by omega), (by omega), (fun h => absurd h (by decide)), (HU.t1 hU12)⟩))
   refine Zi (Sn (Xl isAgg56 sizeOf56 rfl hb1 rfl (Zf (ZF (pl := #[(0, 1), (1, 1), (2, 10), (12, 3), (15, 1), (16, 1)]) (pv := [(2, .agg (cxl X).toArray)]) (cs := #[.slice none 0 0, .bool false, .slice X.tr.1 X.tr.2.1 X.tr.2.2, .int .i64 X.l0, .slice X.t0.1 X.t0.2.1 X.t0.2.2, .int .i64 X.l1, .slice X.t1.1 X.t1.2.1 X.t1.2.2, .int .i64 X.l2, .slice X.t2.1 X.t2.2.1 X.t2.2.2, .int .i64 X.r0, .int .i64 X.r1, .int .i64 X.r2, .int .i64 0, .slice none 0 0, .int .i64 0, .int .i64 0, .int .i64 0]) zeroValue99 underlying99 (fun w => by kernel_rfl)) (ZB zeroValue99 rfl ?_))))
   intro B13 w13 hB13 hU13 hzz13 hb13
   refine Xa sizeOf99 rfl rfl rfl rfl hb13 rfl ?_
   intro w14 hU14 hzz14 hb13
   refine Za (Sm (Qs 1 rfl (Za (Zs (Sn (Qs 2 rfl (Za ?_)))))))
   replace hs := (hs.Zc hU13).Zh hU14
   replace hC := (hC.Zc hU13).Zh hU14
   replace hs2 := (hs2.Zc hU13).Zh hU14
   replace HU := (HU.Zb hU13).t1 hU14
   replace hb2 := (hb2.Zc hU13).Zh hU14
   replace hb3 := (hb3.Zc hU13).Zh hU14
   refine W_if rfl (fun q9 => ?_) fun q9 => ?_
   ·refine Sn (Qs 4 rfl (Xd rfl rfl (Zf (YY (l' := (p + 3)) (h' := (p + 3 + (bsz b p).toNat)) (n' := (bsz b p).toNat) underlying22 sizeOf5 rfl rfl rfl (by omega) (by omega) (by omega) (by omega) (by omega)) ?_)))
    have hT15 := Sl.cutn (l := (p + 3)) (n := (bsz b p).toNat) hs (by omega)
    have hl_hT15 := ZC hT15
    have hc_hT15 := hT15.cap.1
    refine Zf (Zo underlying99 rfl sizeOf22 rfl rfl) (Xc [.slice (if c = (p + 3) then a else a.map (·.add ((p + 3) * 1))) ((bsz b p).toNat) (c - (p + 3)), .bool false, .slice X.tr.1 X.tr.2.1 X.tr.2.2, .int .i64 X.l0, .slice X.t0.1 X.t0.2.1 X.t0.2.2, .int .i64 X.l1, .slice X.t1.1 X.t1.2.1 X.t1.2.2, .int .i64 X.l2, .slice X.t2.1 X.t2.2.1 X.t2.2.2, .int .i64 X.r0, .int .i64 X.r1, .int .i64 X.r2, .int .i64 0, .slice none 0 0, .int .i64 0, .int .i64 0, .int .i64 0] sizeOf22 rfl hb13 rfl rfl rfl rfl rfl ?_)
    intro w16 hU16 hzz16 hb13
    refine Za (Zl (Xl isAgg95 sizeOf95 rfl (hb2.Zh hU16) rfl (Zf (Zo underlying99 rfl sizeOf22 rfl rfl) (Zk isAgg22 rfl hb13 rfl ?_))))
    replace hT15 := hT15.Zh hU16
    refine Zj (Zy rfl call59 rfl rfl) (wadd _ (hs2.Zh hU16).any hT15.any (by omega) (by omega) hbz (ZU (ZL hb _) _) (by omega) (by omega)) ?_
    rintro v w17 ⟨a17, m17, c17, z17, rfl, hO17, hz_17, hm9_17, hU17⟩
    have:=hU17.size
    have hl_hO17 := ZC hO17
    have hc_hO17 := hO17.cap.1
    refine Zf (Zo underlying99 rfl sizeOf95 rfl rfl) ?_
    replace hb13 := hb13.Zc hU17
    refine Xp [.slice (if c = (p + 3) then a else a.map (·.add ((p + 3) * 1))) ((bsz b p).toNat) (c - (p + 3)), .bool false, .slice X.tr.1 X.tr.2.1 X.tr.2.2, .int .i64 X.l0, .slice X.t0.1 X.t0.2.1 X.t0.2.2, .int .i64 X.l1, .slice X.t1.1 X.t1.2.1 X.t1.2.2, .int .i64 X.l2, .slice X.t2.1 X.t2.2.1 X.t2.2.2, .int .i64 X.r0, .int .i64 X.r1, .int .i64 X.r2, .int .i64 sz, .slice a17 m17 c17, .int .i64 (tt + ((((bsz b p).toNat) : Nat) : Int)), .int .i64 0, .int .i64 0] sizeOf95 rfl rfl rfl rfl hb13 rfl rfl ?_
    intro w18 hU18 hzz18 hb13
    refine Za (Sn (Qs 3 rfl (Xd rfl rfl (Zf (Zo underlying99 rfl sizeOf4 rfl rfl) (Xc [.slice (if c = (p + 3) then a else a.map (·.add ((p + 3) * 1))) ((bsz b p).toNat) (c - (p + 3)), .bool (decide (bla b p = true)), .slice X.tr.1 X.tr.2.1 X.tr.2.2, .int .i64 X.l0, .slice X.t0.1 X.t0.2.1 X.t0.2.2, .int .i64 X.l1, .slice X.t1.1 X.t1.2.1 X.t1.2.2, .int .i64 X.l2, .slice X.t2.1 X.t2.2.1 X.t2.2.2, .int .i64 X.r0, .int .i64 X.r1, .int .i64 X.r2, .int .i64 sz, .slice a17 m17 c17, .int .i64 (tt + ((((bsz b p).toNat) : Nat) : Int)), .int .i64 0, .int .i64 0] sizeOf4 rfl hb13 rfl rfl rfl rfl rfl ?_)))))
    intro w19 hU19 hzz19 hb13
    refine Zf (Zo underlying99 rfl sizeOf3 rfl rfl) (Xc [.slice (if c = (p + 3) then a else a.map (·.add ((p + 3) * 1))) ((bsz b p).toNat) (c - (p + 3)), .bool (decide (bla b p = true)), .slice X.tr.1 X.tr.2.1 X.tr.2.2, .int .i64 X.l0, .slice X.t0.1 X.t0.2.1 X.t0.2.2, .int .i64 X.l1, .slice X.t1.1 X.t1.2.1 X.t1.2.2, .int .i64 X.l2, .slice X.t2.1 X.t2.2.1 X.t2.2.2, .int .i64 X.r0, .int .i64 X.r1, .int .i64 X.r2, .int .i64 sz, .slice a17 m17 c17, .int .i64 (tt + ((((bsz b p).toNat) : Nat) : Int)), .int .i64 (((p : Int) + 3) + 1), .int .i64 0] sizeOf3 rfl hb13 rfl rfl rfl rfl rfl ?_)
    intro w20 hU20 hzz20 hb13
    refine Za (Sn (Xl isAgg99 sizeOf99 rfl hb13 rfl ?_))
    replace hb3 := ((((hb3.Zh hU16).Zc hU17).Zh hU18).Zh hU19).Zh hU20
    refine Xa sizeOf99 rfl rfl rfl rfl hb3 rfl ?_
    intro w21 hU21 hzz21 hb3
    refine Za (Zn (Zg rfl (rc1 results34 rfl (Zu isAgg99 sizeOf99 rfl hb3)) ?_))
    have hst : bst b p = 1 := by unfold bst; rw [if_pos (by omega)]
    have hbe : berr b p = 0 := berr_ok (by omega) (by omega) (by omega)
    have hnx : p + 3 + (bst b p).toNat = bnx b p := rfl
    exact ⟨_, rfl, (if c = (p + 3) then a else a.map (·.add ((p + 3) * 1))), ((bsz b p).toNat), (c - (p + 3)), ((b.drop (p + 3)).take ((bsz b p).toNat)), bla b p, X, sz, a17, m17, c17, z17, (tt + ((((bsz b p).toNat) : Nat) : Int)), bnx b p, 0, (vagg (by rw [show ((p : Int) + 3) + 1 = ((bnx b p : Nat) : Int) from by omega])), ((((((hT15.Zc hU17).Zh hU18).Zh hU19).Zh hU20).Zh hU21).weak (fun g h => .inl h.1)), (((((((hC.Zh hU16).Zc hU17).Zh hU18).Zh hU19).Zh hU20).Zh hU21).weak (fun g h => .inl h.1)), (((((hO17.Zh hU18).Zh hU19).Zh hU20).Zh hU21).weak (fun g h => .inr (Nat.le_trans (by omega) h))), (ZU (ZL hb _) _), (by omega), (fun _ => ⟨hXr, rfl⟩), hz_17, (by omega), (by omega), (by omega), (fun _ => ⟨hbe, rfl, rfl⟩), ((((((HU.t1 hU16).Zb hU17).t1 hU18).t1 hU19).t1 hU20).t1 hU21)⟩
   refine Sn (Qs 2 rfl (Za ?_))
   have q10 : (bkd b p) = 1 := q7
   rw [decide_eq_true q10]
   refine Ct (Sm (Qs 1 rfl (Za (Zs (ZS (fun mu ρ ds w' => ∃ (i : Nat) (xs : List Int) (a9 : Option Addr) (c9 : Nat), (bsz b p).toNat - i = mu ∧ ds = [] ∧ Liv ρ [(0, .slice a m c), (1, .int .i64 ((p : Int) + 3)), (8, .pointer (some ⟨B2, 0, none⟩)), (10, .pointer (some ⟨B3, 0, none⟩)), (12, .int .i64 (bsz b p)), (13, .bool (decide (bla b p = true))), (15, .int .i64 1), (16, .pointer (some ⟨B13, 0, none⟩)), (17, .int .i64 i)] ∧ (i : Int) ≤ bsz b p ∧ Byt xs ∧ Blk w' B13 [.slice a9 i c9, .bool false, .slice X.tr.1 X.tr.2.1 X.tr.2.2, .int .i64 X.l0, .slice X.t0.1 X.t0.2.1 X.t0.2.2, .int .i64 X.l1, .slice X.t1.1 X.t1.2.1 X.t1.2.2, .int .i64 X.l2, .slice X.t2.1 X.t2.2.1 X.t2.2.2, .int .i64 X.r0, .int .i64 X.r1, .int .i64 X.r2, .int .i64 0, .slice none 0 0, .int .i64 0, .int .i64 0, .int .i64 0] ∧ Own w' (fun g => w14.heap.size ≤ g) 5 1 (.slice a9 i c9) i (ints .u8 xs) ∧ Upd (fun g => g = B13 ∨ w14.heap.size ≤ g) w14 w') _ ⟨0, [], none, 0, rfl, rfl, ⟨rfl, rfl, rfl, rfl, rfl, rfl, rfl, rfl, (by first | rfl | exact Zt (by omega) | exact Zt (by simp)), trivial⟩, (by omega), ZO, hb13, (by exact Own.nil _ _ _ _), Upd.refl _ _⟩ ?_)))))
   rintro m22 ρ22 ds22 w22 ⟨i, xs, a9, c9, rfl, rfl, hl22, hi, hby, hb13, hO, hU22⟩
   obtain ⟨ρ22x, rfl⟩ : ∃ ρx, ρ22 = upds ρx [(0, .slice a m c), (1, .int .i64 ((p : Int) + 3)), (8, .pointer (some ⟨B2, 0, none⟩)), (10, .pointer (some ⟨B3, 0, none⟩)), (12, .int .i64 (bsz b p)), (13, .bool (decide (bla b p = true))), (15, .int .i64 1), (16, .pointer (some ⟨B13, 0, none⟩)), (17, .int .i64 i)] := ⟨_, ZD hl22⟩
   clear hl22
   have:=hU22.size
   replace hO := hO.tight
   have hl_hO := ZC hO.sl
   have hc_hO := hO.sl.cap.1
   have hbq := Yi hb ((p : Int) + 3).toNat
   have HL22 := hU22
   refine Sm (Qs 3 rfl (Za (W_if rfl (fun q11 => ?_) fun q11 => ?_)))
   ·refine Zi (Zz (Zs (ZJ rfl (l0 := tf 0 10) (by kernel_rfl) (Tv rfl (fun _ _ => Zo underlying99 rfl sizeOf22 rfl rfl) (Tl rfl isAgg22 rfl hb13 rfl (Tq rfl (Tq rfl ?_)))))))
    obtain ⟨ib23, io23, ha23, hib23, hc23⟩ := ((hs.upd hU22)).iat (i := ((p : Int) + 3).toNat) (by omega)
    replace hib23 : ((R ib23) ∧ ib23 < w.heap.size) := hib23
    refine Tv rfl (fun _ _ => Yl (b := ib23) (off := io23) (m := m) (c := c) (o' := io23 + ((p : Int) + 3).toNat) underlying22 sizeOf5 (by rw [← ha23]; rfl) rfl (by omega) (by omega) (by omega)) (Tv rfl (v := .int .u8 (b.getD ((p : Int) + 3).toNat 0)) (fun w' hw' => Yd isAgg5 rfl (hw'.Y8 hc23)) ?_)
    intro w24 hU24
    have:=hU24.size
    replace hc23 := ZG hU24 hc23
    refine Wo 6 (tf 7 10) rfl ?_
    have hW : Upd No w22 w24 := hU24
    refine Xz [.int .u8 (b.getD ((p : Int) + 3).toNat 0)] underlying22 sizeOf5 zeroValue5 ?_
    intro B25 w25 hB25 hU25 hzz25 hs25
    replace hc23 := ZG hU25 hc23
    try replace hW := hW.Zb hU25
    replace hs25 : Own w25 (Is B25) 5 1 (.slice (some ⟨B25, 0, none⟩) 1 1) 1 (ints .u8 [b.getD ((p : Int) + 3).toNat 0]) := hs25
    refine Za ?_
    intro w26 hS26
    have hX : Upd No w22 w26 := hW.Zb hS26.upd
    refine bF hX ?_
    have hU26 := hS26.upd
    have:=hU26.size
    replace hc23 := ZG hU26 hc23
    try replace hW := hW.Zb hU26
    refine ZQ hX ?_
    intro w27 hU27
    have:=hU27.size
    replace hc23 := ZG hU27 hc23
    try replace hW := hW.Zb hU27
    refine Wo 7 (tf 8 10) rfl ?_
    have hW : Upd No w26 w27 := hU27
    replace hO := (((hO.Zc hU24).Zc hU25).Zc hU26).Zc hU27
    refine Z1 (xs := xs) (ys := [b.getD ((p : Int) + 3).toNat 0]) (zs := xs ++ [b.getD ((p : Int) + 3).toNat 0]) (k' := .u8) (tot := i + 1) (by first | rfl | exact (ZR _ _).symm | simp) underlying22 (ti := Tryz.t5) (z := .int .u8 0) (sz := 1) (by' := 1) rfl rfl rfl rfl rfl (by decide) rfl hO rfl ((hs25.Zc hU26).Zc hU27).sl  (by omega) (by simp only [maxLen]; omega) (by omega) ?_
    intro a28 c28 w28 hU28 hzz28 hO28
    replace hC := hC.upd hU22
    replace hs2 := hs2.upd hU22
    replace HU := HU.trans hU22
    replace hb2 := hb2.upd hU22
    replace hb3 := hb3.upd hU22
    replace hb13 := (((hb13.Zc hU24).Zc hU25).Zc hU26).Zc hU27
    replace HL22 := (((HL22.Zb hU24).Zb hU25).Zb hU26).Zb hU27
    clear hO
    have:=hU28.size
    replace hO28 := hO28.tight
    have hl_hO28 := ZC hO28.sl
    have hc_hO28 := hO28.sl.cap.1
    refine Za ?_
    intro w29 hS29
    refine bT (Upd No w29) ?_
    have hU29 := hS29.upd
    have:=hU29.size
    try replace hW := hW.Zb hU29
    refine ZQ (Upd.refl _ _) (Tv rfl (fun _ _ => Zo underlying99 rfl sizeOf22 rfl rfl) ?_)
    intro w30 hU30
    have:=hU30.size
    try replace hW := hW.Zb hU30
    refine Wo 9 (tf 10 10) rfl ?_
    have hW : Upd No w29 w30 := hU30
    replace hb13 := ((hb13.upd hU28).Zc hU29).Zc hU30
    refine Xc [.slice a28 (i + 1) c28, .bool false, .slice X.tr.1 X.tr.2.1 X.tr.2.2, .int .i64 X.l0, .slice X.t0.1 X.t0.2.1 X.t0.2.2, .int .i64 X.l1, .slice X.t1.1 X.t1.2.1 X.t1.2.2, .int .i64 X.l2, .slice X.t2.1 X.t2.2.1 X.t2.2.2, .int .i64 X.r0, .int .i64 X.r1, .int .i64 X.r2, .int .i64 0, .slice none 0 0, .int .i64 0, .int .i64 0, .int .i64 0] sizeOf22 rfl hb13 rfl rfl rfl rfl rfl ?_
    intro w31 hU31 hzz31 hb13
    refine Za ?_
    intro w32 hS32
    refine bT (Upd No w32) ?_
    have hU32 := hS32.upd
    have:=hU32.size
    try replace hW := hW.Zb hU32
    refine Wd (Zl (Qs 1 rfl (Xd rfl rfl (Qs 1 rfl (Za ?_)))))
    refine ⟨_, ?_, (i + 1), (xs ++ [b.getD ((p : Int) + 3).toNat 0]), a28, c28, rfl, rfl, ⟨rfl, rfl, rfl, rfl, rfl, rfl, rfl, rfl, Zt, trivial⟩, (by omega), (Yq hby (fun x hx => by rw [List.mem_singleton.1 hx]; exact hbq)), (hb13.Zc hU32), (((((hO28.Zc hU29).Zc hU30).Zh hU31).Zc hU32).weak), (((((HL22.trans hU28).Zb hU29).Zb hU30).Zr hU31).Zb hU32)⟩
    omega
   refine ZI (Zl (Xl isAgg95 sizeOf95 rfl (hb2.upd hU22) rfl (Zf (Zo underlying99 rfl sizeOf22 rfl rfl) (Zk isAgg22 rfl hb13 rfl (Zj (Zy rfl call59 rfl rfl) (wadd _ (hs2.upd hU22).any hO.sl.any (by omega) (by omega) hbz hby (by omega) (by omega)) ?_)))))
   rintro v w33 ⟨a33, m33, c33, z33, rfl, hO33, hz_33, hm9_33, hU33⟩
   have:=hU33.size
   have hl_hO33 := ZC hO33
   have hc_hO33 := hO33.cap.1
   refine Zf (Zo underlying99 rfl sizeOf95 rfl rfl) ?_
   replace hb13 := hb13.Zc hU33
   refine Xp [.slice a9 i c9, .bool false, .slice X.tr.1 X.tr.2.1 X.tr.2.2, .int .i64 X.l0, .slice X.t0.1 X.t0.2.1 X.t0.2.2, .int .i64 X.l1, .slice X.t1.1 X.t1.2.1 X.t1.2.2, .int .i64 X.l2, .slice X.t2.1 X.t2.2.1 X.t2.2.2, .int .i64 X.r0, .int .i64 X.r1, .int .i64 X.r2, .int .i64 sz, .slice a33 m33 c33, .int .i64 (tt + (i : Int)), .int .i64 0, .int .i64 0] sizeOf95 rfl rfl rfl rfl hb13 rfl rfl ?_
   intro w34 hU34 hzz34 hb13
   refine Za (Sn (Qs 3 rfl (Xd rfl rfl (Zf (Zo underlying99 rfl sizeOf4 rfl rfl) (Xc [.slice a9 i c9, .bool (decide (bla b p = true)), .slice X.tr.1 X.tr.2.1 X.tr.2.2, .int .i64 X.l0, .slice X.t0.1 X.t0.2.1 X.t0.2.2, .int .i64 X.l1, .slice X.t1.1 X.t1.2.1 X.t1.2.2, .int .i64 X.l2, .slice X.t2.1 X.t2.2.1 X.t2.2.2, .int .i64 X.r0, .int .i64 X.r1, .int .i64 X.r2, .int .i64 sz, .slice a33 m33 c33, .int .i64 (tt + (i : Int)), .int .i64 0, .int .i64 0] sizeOf4 rfl hb13 rfl rfl rfl rfl rfl ?_)))))
   intro w35 hU35 hzz35 hb13
   refine Zf (Zo underlying99 rfl sizeOf3 rfl rfl) (Xc [.slice a9 i c9, .bool (decide (bla b p = true)), .slice X.tr.1 X.tr.2.1 X.tr.2.2, .int .i64 X.l0, .slice X.t0.1 X.t0.2.1 X.t0.2.2, .int .i64 X.l1, .slice X.t1.1 X.t1.2.1 X.t1.2.2, .int .i64 X.l2, .slice X.t2.1 X.t2.2.1 X.t2.2.2, .int .i64 X.r0, .int .i64 X.r1, .int .i64 X.r2, .int .i64 sz, .slice a33 m33 c33, .int .i64 (tt + (i : Int)), .int .i64 (((p : Int) + 3) + 1), .int .i64 0] sizeOf3 rfl hb13 rfl rfl rfl rfl rfl ?_)
   intro w36 hU36 hzz36 hb13
   refine Za (Sn (Xl isAgg99 sizeOf99 rfl hb13 rfl ?_))
   replace hb3 := ((((hb3.upd hU22).Zc hU33).Zh hU34).Zh hU35).Zh hU36
   refine Xa sizeOf99 rfl rfl rfl rfl hb3 rfl ?_
   intro w37 hU37 hzz37 hb3
   refine Za (Zn (Zg rfl (rc1 results34 rfl (Zu isAgg99 sizeOf99 rfl hb3)) ?_))
   have hst : bst b p = 1 := by unfold bst; rw [if_pos (by omega)]
   have hbe : berr b p = 0 := berr_ok (by omega) (by omega) (by omega)
   have hnx : p + 3 + (bst b p).toNat = bnx b p := rfl
   exact ⟨_, rfl, a9, i, c9, xs, bla b p, X, sz, a33, m33, c33, z33, (tt + (i : Int)), bnx b p, 0, (vagg (by rw [show ((p : Int) + 3) + 1 = ((bnx b p : Nat) : Int) from by omega])), ((((((hO.Zc hU33).Zh hU34).Zh hU35).Zh hU36).Zh hU37).sl.weak (fun g h => .inr (Nat.le_trans (by omega) h.1))), (((((((hC.upd hU22).Zc hU33).Zh hU34).Zh hU35).Zh hU36).Zh hU37).weak (fun g h => .inl h.1)), (((((hO33.Zh hU34).Zh hU35).Zh hU36).Zh hU37).weak (fun g h => .inr (Nat.le_trans (by omega) h))), hby, (by omega), (fun _ => ⟨hXr, rfl⟩), hz_33, (by omega), (by omega), (by omega), (fun _ => ⟨hbe, rfl, rfl⟩), ((((((HU.trans hU22).Zb hU33).t1 hU34).t1 hU35).t1 hU36).t1 hU37)⟩
  refine Zi (Sm (Qs 2 rfl (Zf (ZM underlying22 rfl) (Qs 1 rfl (Xs rfl rfl (Qs 1 rfl (Za (W_if rfl (fun q12 => ?_) fun q12 => ?_))))))))
  ·refine Sn (Zf (ZF (pl := #[(0, 1), (1, 1), (2, 10), (12, 3), (15, 1), (16, 1)]) (pv := [(5, .int .i64 3)]) (cs := #[.slice none 0 0, .bool false, .slice none 0 0, .int .i64 0, .slice none 0 0, .int .i64 0, .slice none 0 0, .int .i64 0, .slice none 0 0, .int .i64 0, .int .i64 0, .int .i64 0, .int .i64 0, .slice none 0 0, .int .i64 0, .int .i64 0, .int .i64 3]) zeroValue99 underlying99 (fun w => by kernel_rfl)) (Xa sizeOf99 rfl rfl rfl rfl hb3 rfl ?_))
   intro w38 hU38 hzz38 hb3
   exact Za (Zn (Zg rfl (rc1 results34 rfl (Zu isAgg99 sizeOf99 rfl hb3)) ⟨_, rfl, none, 0, 0, [], false, cz 0 0 0, 0, none, 0, 0, [], 0, 0, 3, rfl, Sl.nil _ _ _, Cx.nil _ _ _ _ _, Sl.nil _ _ _, ZO, (by omega), (fun h => absurd h (by decide)), ZO, (by omega), (by omega), (by omega), (fun h => absurd h (by decide)), (HU.t1 hU38)⟩))
  refine Zi (Sn (Xl isAgg56 sizeOf56 rfl hb1 rfl (Zf (ZF (pl := #[(0, 1), (1, 1), (2, 10), (12, 3), (15, 1), (16, 1)]) (pv := [(2, .agg (cxl X).toArray)]) (cs := #[.slice none 0 0, .bool false, .slice X.tr.1 X.tr.2.1 X.tr.2.2, .int .i64 X.l0, .slice X.t0.1 X.t0.2.1 X.t0.2.2, .int .i64 X.l1, .slice X.t1.1 X.t1.2.1 X.t1.2.2, .int .i64 X.l2, .slice X.t2.1 X.t2.2.1 X.t2.2.2, .int .i64 X.r0, .int .i64 X.r1, .int .i64 X.r2, .int .i64 0, .slice none 0 0, .int .i64 0, .int .i64 0, .int .i64 0]) zeroValue99 underlying99 (fun w => by kernel_rfl)) (ZB zeroValue99 rfl ?_))))
  intro B39 w39 hB39 hU39 hzz39 hb39
  refine Xa sizeOf99 rfl rfl rfl rfl hb39 rfl ?_
  intro w40 hU40 hzz40 hb39
  refine Za (Sm (Qs 1 rfl (Za (Zs (Sn (Qs 2 rfl (Za ?_)))))))
  replace hs := (hs.Zc hU39).Zh hU40
  replace hC := (hC.Zc hU39).Zh hU40
  replace hs2 := (hs2.Zc hU39).Zh hU40
  replace HU := (HU.Zb hU39).t1 hU40
  replace hb2 := (hb2.Zc hU39).Zh hU40
  replace hb3 := (hb3.Zc hU39).Zh hU40
  refine W_if rfl (fun q13 => ?_) fun q13 => ?_
  ·refine Sn (Qs 4 rfl (Xd rfl rfl (Zf (YY (l' := (p + 3)) (h' := (p + 3 + (bsz b p).toNat)) (n' := (bsz b p).toNat) underlying22 sizeOf5 rfl rfl rfl (by omega) (by omega) (by omega) (by omega) (by omega)) ?_)))
   have hT41 := Sl.cutn (l := (p + 3)) (n := (bsz b p).toNat) hs (by omega)
   have hl_hT41 := ZC hT41
   have hc_hT41 := hT41.cap.1
   refine Zf (Zo underlying99 rfl sizeOf22 rfl rfl) (Xc [.slice (if c = (p + 3) then a else a.map (·.add ((p + 3) * 1))) ((bsz b p).toNat) (c - (p + 3)), .bool false, .slice X.tr.1 X.tr.2.1 X.tr.2.2, .int .i64 X.l0, .slice X.t0.1 X.t0.2.1 X.t0.2.2, .int .i64 X.l1, .slice X.t1.1 X.t1.2.1 X.t1.2.2, .int .i64 X.l2, .slice X.t2.1 X.t2.2.1 X.t2.2.2, .int .i64 X.r0, .int .i64 X.r1, .int .i64 X.r2, .int .i64 0, .slice none 0 0, .int .i64 0, .int .i64 0, .int .i64 0] sizeOf22 rfl hb39 rfl rfl rfl rfl rfl ?_)
   intro w42 hU42 hzz42 hb39
   refine Za (Zl (Xl isAgg95 sizeOf95 rfl (hb2.Zh hU42) rfl (Zf (Zo underlying99 rfl sizeOf22 rfl rfl) (Zk isAgg22 rfl hb39 rfl ?_))))
   replace hT41 := hT41.Zh hU42
   refine Zj (Zy rfl call59 rfl rfl) (wadd _ (hs2.Zh hU42).any hT41.any (by omega) (by omega) hbz (ZU (ZL hb _) _) (by omega) (by omega)) ?_
   rintro v w43 ⟨a43, m43, c43, z43, rfl, hO43, hz_43, hm9_43, hU43⟩
   have:=hU43.size
   have hl_hO43 := ZC hO43
   have hc_hO43 := hO43.cap.1
   refine Zf (Zo underlying99 rfl sizeOf95 rfl rfl) ?_
   replace hb39 := hb39.Zc hU43
   refine Xp [.slice (if c = (p + 3) then a else a.map (·.add ((p + 3) * 1))) ((bsz b p).toNat) (c - (p + 3)), .bool false, .slice X.tr.1 X.tr.2.1 X.tr.2.2, .int .i64 X.l0, .slice X.t0.1 X.t0.2.1 X.t0.2.2, .int .i64 X.l1, .slice X.t1.1 X.t1.2.1 X.t1.2.2, .int .i64 X.l2, .slice X.t2.1 X.t2.2.1 X.t2.2.2, .int .i64 X.r0, .int .i64 X.r1, .int .i64 X.r2, .int .i64 sz, .slice a43 m43 c43, .int .i64 (tt + ((((bsz b p).toNat) : Nat) : Int)), .int .i64 0, .int .i64 0] sizeOf95 rfl rfl rfl rfl hb39 rfl rfl ?_
   intro w44 hU44 hzz44 hb39
   refine Za (Sn (Qs 3 rfl (Xd rfl rfl (Zf (Zo underlying99 rfl sizeOf4 rfl rfl) (Xc [.slice (if c = (p + 3) then a else a.map (·.add ((p + 3) * 1))) ((bsz b p).toNat) (c - (p + 3)), .bool (decide (bla b p = true)), .slice X.tr.1 X.tr.2.1 X.tr.2.2, .int .i64 X.l0, .slice X.t0.1 X.t0.2.1 X.t0.2.2, .int .i64 X.l1, .slice X.t1.1 X.t1.2.1 X.t1.2.2, .int .i64 X.l2, .slice X.t2.1 X.t2.2.1 X.t2.2.2, .int .i64 X.r0, .int .i64 X.r1, .int .i64 X.r2, .int .i64 sz, .slice a43 m43 c43, .int .i64 (tt + ((((bsz b p).toNat) : Nat) : Int)), .int .i64 0, .int .i64 0] sizeOf4 rfl hb39 rfl rfl rfl rfl rfl ?_)))))
   intro w45 hU45 hzz45 hb39
   refine Zf (Zo underlying99 rfl sizeOf3 rfl rfl) (Xc [.slice (if c = (p + 3) then a else a.map (·.add ((p + 3) * 1))) ((bsz b p).toNat) (c - (p + 3)), .bool (decide (bla b p = true)), .slice X.tr.1 X.tr.2.1 X.tr.2.2, .int .i64 X.l0, .slice X.t0.1 X.t0.2.1 X.t0.2.2, .int .i64 X.l1, .slice X.t1.1 X.t1.2.1 X.t1.2.2, .int .i64 X.l2, .slice X.t2.1 X.t2.2.1 X.t2.2.2, .int .i64 X.r0, .int .i64 X.r1, .int .i64 X.r2, .int .i64 sz, .slice a43 m43 c43, .int .i64 (tt + ((((bsz b p).toNat) : Nat) : Int)), .int .i64 (((p : Int) + 3) + (bsz b p)), .int .i64 0] sizeOf3 rfl hb39 rfl rfl rfl rfl rfl ?_)
   intro w46 hU46 hzz46 hb39
   refine Za (Sn (Xl isAgg99 sizeOf99 rfl hb39 rfl ?_))
   replace hb3 := ((((hb3.Zh hU42).Zc hU43).Zh hU44).Zh hU45).Zh hU46
   refine Xa sizeOf99 rfl rfl rfl rfl hb3 rfl ?_
   intro w47 hU47 hzz47 hb3
   refine Za (Zn (Zg rfl (rc1 results34 rfl (Zu isAgg99 sizeOf99 rfl hb3)) ?_))
   have hst : bst b p = bsz b p := by unfold bst; rw [if_neg (by omega)]
   have hbe : berr b p = 0 := berr_ok (by omega) (by omega) (by omega)
   have hnx : p + 3 + (bst b p).toNat = bnx b p := rfl
   exact ⟨_, rfl, (if c = (p + 3) then a else a.map (·.add ((p + 3) * 1))), ((bsz b p).toNat), (c - (p + 3)), ((b.drop (p + 3)).take ((bsz b p).toNat)), bla b p, X, sz, a43, m43, c43, z43, (tt + ((((bsz b p).toNat) : Nat) : Int)), bnx b p, 0, (vagg (by rw [show ((p : Int) + 3) + (bsz b p) = ((bnx b p : Nat) : Int) from by omega])), ((((((hT41.Zc hU43).Zh hU44).Zh hU45).Zh hU46).Zh hU47).weak (fun g h => .inl h.1)), (((((((hC.Zh hU42).Zc hU43).Zh hU44).Zh hU45).Zh hU46).Zh hU47).weak (fun g h => .inl h.1)), (((((hO43.Zh hU44).Zh hU45).Zh hU46).Zh hU47).weak (fun g h => .inr (Nat.le_trans (by omega) h))), (ZU (ZL hb _) _), (by omega), (fun _ => ⟨hXr, rfl⟩), hz_43, (by omega), (by omega), (by omega), (fun _ => ⟨hbe, rfl, rfl⟩), ((((((HU.t1 hU42).Zb hU43).t1 hU44).t1 hU45).t1 hU46).t1 hU47)⟩
  refine Sn (Qs 2 rfl (Za ?_))
  have q14 : ¬ ((bkd b p) = 1) := q7
  rw [decide_eq_false q14]
  refine Cf (Yk (T := fun g => g = B39) rfl (l0 := tf 0 12) (by kernel_rfl) (Sq (Upd.refl _ _) rfl (Sq (Upd.refl _ _) rfl (Sq (Upd.refl _ _) rfl (Sq (Upd.refl _ _) rfl (Sv (Upd.refl _ _) rfl (fun _ _ => Yf rfl rfl ZY) (Sv (Upd.refl _ _) rfl (fun _ _ => YY (l' := (p + 3)) (h' := (p + 3 + (bsz b p).toNat)) (n' := (bsz b p).toNat) underlying22 sizeOf5 rfl rfl rfl (by omega) (by omega) (by omega) (by omega) (by omega)) ?_)))))))
  have hT48 := Sl.cutn (l := (p + 3)) (n := (bsz b p).toNat) hs (by omega)
  have hl_hT48 := ZC hT48
  have hc_hT48 := hT48.cap.1
  refine Sv (Upd.refl _ _) rfl (fun w' hw' => Xt (cs := (cxl X)) isAgg56 sizeOf56 rfl (((hb1.Zc hU39).Zh hU40).Zh hw') rfl rfl) (Sv (Upd.refl _ _) rfl (fun w' hw' => Xt (cs := [.int .i64 sz, .slice a2 n2 c2, .int .i64 tt]) isAgg95 sizeOf95 rfl (hb2.Zh hw') rfl rfl) (Sq (Upd.refl _ _) rfl ?_))
  intro w49 hU49
  have:=hU49.size
  refine Wo 9 (tf 10 12) rfl ?_
  have hW : Upd (fun g => g = B39) w40 w40 := (Upd.refl _ _)
  refine Zj (Zv rfl call58 (v0 := .int .i64 ((wz.toNat : Nat) : Int)) Zt) (wbound _ (by omega)) ?_
  rintro v w50 ⟨y50, rfl, hy_50, hU50⟩
  have:=hU50.size
  refine Za ?_
  intro w51 hS51
  replace hW := (hW.Zb hU49).Zb hU50
  have hX51 : Upd _ w40 w51 := hW.Zb hS51.upd
  refine bF hX51 ?_
  have hU51 := hS51.upd
  have:=hU51.size
  refine Z8 ?_
  intro w52 hU52
  have:=hU52.size
  refine Wo 10 (tf 11 12) rfl ?_
  have hW : Upd No w51 w52 := hU52
  refine Zj (r_call4 rfl call60 rfl rfl rfl rfl) (wcoded35 (R := (fun g => (R g) ∧ g < w.heap.size)) _ ((((hT48.Zc hU49).Zc hU50).Zc hU51).Zc hU52) (ZU (ZL hb _) _) (by omega) ((((hC.Zc hU49).Zc hU50).Zc hU51).Zc hU52) (by omega) ((((hs2.Zc hU49).Zc hU50).Zc hU51).Zc hU52) hbz (by omega) (by omega) (by omega) (by omega)) ?_
  rintro v w53 ⟨xa53, xm53, xc53, xs53, la53, Y53, sy53, ya53, ym53, yc53, ys53, ty53, nx53, e53, rfl, hB53, hC53, hO53, hx_53, hxm_53, hY_53, hy_53, hym_53, ht0_53, ht1_53, hU53⟩
  have:=hU53.size
  try replace hW := hW.Zb hU53
  have hl_hB53 := ZC hB53
  have hc_hB53 := hB53.cap.1
  have hl_hO53 := ZC hO53
  have hc_hO53 := hO53.cap.1
  have hYk := hY_53
  refine Za ?_
  intro w54 hS54
  refine bT (Upd No w54) ?_
  have hU54 := hS54.upd
  have:=hU54.size
  try replace hW := hW.Zb hU54
  refine ZQ (Upd.refl _ _) ?_
  intro w55 hU55
  have:=hU55.size
  try replace hW := hW.Zb hU55
  refine Wo 11 (tf 12 12) rfl ?_
  have hW : Upd No w54 w55 := hU55
  replace hb39 := ((((((hb39.Zc hU49).Zc hU50).Zc hU51).Zc hU52).Zc hU53).Zc hU54).Zc hU55
  refine Xa sizeOf99 rfl rfl rfl rfl hb39 rfl ?_
  intro w56 hU56 hzz56 hb39
  refine Za ?_
  intro w57 hS57
  refine bT (Upd No w57) ?_
  have hU57 := hS57.upd
  have:=hU57.size
  try replace hW := hW.Zb hU57
  refine Wd (Sn (Qs 3 rfl (Xd rfl rfl (Zf (Zo underlying99 rfl sizeOf4 rfl rfl) ?_))))
  replace hb39 := hb39.Zc hU57
  refine Xc [.slice xa53 xm53 xc53, .bool (decide (bla b p = true)), .slice Y53.tr.1 Y53.tr.2.1 Y53.tr.2.2, .int .i64 Y53.l0, .slice Y53.t0.1 Y53.t0.2.1 Y53.t0.2.2, .int .i64 Y53.l1, .slice Y53.t1.1 Y53.t1.2.1 Y53.t1.2.2, .int .i64 Y53.l2, .slice Y53.t2.1 Y53.t2.2.1 Y53.t2.2.2, .int .i64 Y53.r0, .int .i64 Y53.r1, .int .i64 Y53.r2, .int .i64 sy53, .slice ya53 ym53 yc53, .int .i64 ty53, .int .i64 nx53, .int .i64 e53] sizeOf4 rfl hb39 rfl rfl rfl rfl rfl ?_
  intro w58 hU58 hzz58 hb39
  refine Zf (Zo underlying99 rfl sizeOf3 rfl rfl) (Xc [.slice xa53 xm53 xc53, .bool (decide (bla b p = true)), .slice Y53.tr.1 Y53.tr.2.1 Y53.tr.2.2, .int .i64 Y53.l0, .slice Y53.t0.1 Y53.t0.2.1 Y53.t0.2.2, .int .i64 Y53.l1, .slice Y53.t1.1 Y53.t1.2.1 Y53.t1.2.2, .int .i64 Y53.l2, .slice Y53.t2.1 Y53.t2.2.1 Y53.t2.2.2, .int .i64 Y53.r0, .int .i64 Y53.r1, .int .i64 Y53.r2, .int .i64 sy53, .slice ya53 ym53 yc53, .int .i64 ty53, .int .i64 (((p : Int) + 3) + (bsz b p)), .int .i64 e53] sizeOf3 rfl hb39 rfl rfl rfl rfl rfl ?_)
  intro w59 hU59 hzz59 hb39
  refine Za (Sn (Xl isAgg99 sizeOf99 rfl hb39 rfl ?_))
  replace hb3 := ((((((((((hb3.Zc hU49).Zc hU50).Zc hU51).Zc hU52).Zc hU53).Zc hU54).Zc hU55).Zh hU56).Zc hU57).Zh hU58).Zh hU59
  refine Xa sizeOf99 rfl rfl rfl rfl hb3 rfl ?_
  intro w60 hU60 hzz60 hb3
  refine Za (Zn (Zg rfl (rc1 results34 rfl (Zu isAgg99 sizeOf99 rfl hb3)) ?_))
  have hst : bst b p = bsz b p := by unfold bst; rw [if_neg (by omega)]
  have hbe : berr b p = 0 := berr_ok (by omega) (by omega) (by omega)
  have hnx : p + 3 + (bst b p).toNat = bnx b p := rfl
  exact ⟨_, rfl, xa53, xm53, xc53, xs53, bla b p, Y53, sy53, ya53, ym53, yc53, ys53, ty53, bnx b p, e53, (vagg (by rw [show ((p : Int) + 3) + (bsz b p) = ((bnx b p : Nat) : Int) from by omega])), (((((((((hB53.tight).Zc hU54).Zc hU55).Zh hU56).Zc hU57).Zh hU58).Zh hU59).Zh hU60).weak (fun g h => h.1.imp And.left (Nat.le_trans (by omega)))), (((((((((hC53.tight).Zc hU54).Zc hU55).Zh hU56).Zc hU57).Zh hU58).Zh hU59).Zh hU60).weak (fun g h => h.1.imp And.left (Nat.le_trans (by omega)))), (((((((((hO53.tight).Zc hU54).Zc hU55).Zh hU56).Zc hU57).Zh hU58).Zh hU59).Zh hU60).weak (fun g h => h.1.imp And.left (Nat.le_trans (by omega)))), hx_53, (by omega), hYk, hy_53, (by omega), (by omega), (by omega), (fun _ => ⟨hbe, rfl, rfl⟩), ((((((((((((HU.Zb hU49).Zb hU50).Zb hU51).Zb hU52).Zb hU53).Zb hU54).Zb hU55).t1 hU56).Zb hU57).t1 hU58).t1 hU59).t1 hU60)⟩
 rw [decide_eq_false q5]
 refine Gf (Gf (Gf (Gf (Gt (Zf (Zw (v := .bool false) rfl rfl) (Zf (Zw (v := .bool false) rfl rfl) (Za (Cf (Zi (Sn (Qs 2 rfl (Za (Sm (Qs 2 rfl (Za (W_if rfl (fun q15 => ?_) fun q15 => ?_))))))))))))))))
 ·refine Zl (Qs 1 rfl (Za (Sm (Qs 2 rfl (Zf (ZM underlying22 rfl) (Qs 1 rfl (Xs rfl rfl (Qs 1 rfl (Za (W_if rfl (fun q16 => ?_) fun q16 => ?_))))))))))
  ·refine Sn (Zf (ZF (pl := #[(0, 1), (1, 1), (2, 10), (12, 3), (15, 1), (16, 1)]) (pv := [(5, .int .i64 3)]) (cs := #[.slice none 0 0, .bool false, .slice none 0 0, .int .i64 0, .slice none 0 0, .int .i64 0, .slice none 0 0, .int .i64 0, .slice none 0 0, .int .i64 0, .int .i64 0, .int .i64 0, .int .i64 0, .slice none 0 0, .int .i64 0, .int .i64 0, .int .i64 3]) zeroValue99 underlying99 (fun w => by kernel_rfl)) (Xa sizeOf99 rfl rfl rfl rfl hb3 rfl ?_))
   intro w61 hU61 hzz61 hb3
   exact Za (Zn (Zg rfl (rc1 results34 rfl (Zu isAgg99 sizeOf99 rfl hb3)) ⟨_, rfl, none, 0, 0, [], false, cz 0 0 0, 0, none, 0, 0, [], 0, 0, 3, rfl, Sl.nil _ _ _, Cx.nil _ _ _ _ _, Sl.nil _ _ _, ZO, (by omega), (fun h => absurd h (by decide)), ZO, (by omega), (by omega), (by omega), (fun h => absurd h (by decide)), (HU.t1 hU61)⟩))
  refine Zi (Sn (Xl isAgg56 sizeOf56 rfl hb1 rfl (Zf (ZF (pl := #[(0, 1), (1, 1), (2, 10), (12, 3), (15, 1), (16, 1)]) (pv := [(2, .agg (cxl X).toArray)]) (cs := #[.slice none 0 0, .bool false, .slice X.tr.1 X.tr.2.1 X.tr.2.2, .int .i64 X.l0, .slice X.t0.1 X.t0.2.1 X.t0.2.2, .int .i64 X.l1, .slice X.t1.1 X.t1.2.1 X.t1.2.2, .int .i64 X.l2, .slice X.t2.1 X.t2.2.1 X.t2.2.2, .int .i64 X.r0, .int .i64 X.r1, .int .i64 X.r2, .int .i64 0, .slice none 0 0, .int .i64 0, .int .i64 0, .int .i64 0]) zeroValue99 underlying99 (fun w => by kernel_rfl)) (ZB zeroValue99 rfl ?_))))
  intro B62 w62 hB62 hU62 hzz62 hb62
  refine Xa sizeOf99 rfl rfl rfl rfl hb62 rfl ?_
  intro w63 hU63 hzz63 hb62
  refine Za (Sm (Qs 1 rfl (Za (Zs (Sn (Qs 2 rfl (Za ?_)))))))
  replace hs := (hs.Zc hU62).Zh hU63
  replace hC := (hC.Zc hU62).Zh hU63
  replace hs2 := (hs2.Zc hU62).Zh hU63
  replace HU := (HU.Zb hU62).t1 hU63
  replace hb2 := (hb2.Zc hU62).Zh hU63
  replace hb3 := (hb3.Zc hU62).Zh hU63
  refine W_if rfl (fun q17 => ?_) fun q17 => ?_
  ·refine Sn (Qs 4 rfl (Xd rfl rfl (Zf (YY (l' := (p + 3)) (h' := (p + 3 + (bsz b p).toNat)) (n' := (bsz b p).toNat) underlying22 sizeOf5 rfl rfl rfl (by omega) (by omega) (by omega) (by omega) (by omega)) ?_)))
   have hT64 := Sl.cutn (l := (p + 3)) (n := (bsz b p).toNat) hs (by omega)
   have hl_hT64 := ZC hT64
   have hc_hT64 := hT64.cap.1
   refine Zf (Zo underlying99 rfl sizeOf22 rfl rfl) (Xc [.slice (if c = (p + 3) then a else a.map (·.add ((p + 3) * 1))) ((bsz b p).toNat) (c - (p + 3)), .bool false, .slice X.tr.1 X.tr.2.1 X.tr.2.2, .int .i64 X.l0, .slice X.t0.1 X.t0.2.1 X.t0.2.2, .int .i64 X.l1, .slice X.t1.1 X.t1.2.1 X.t1.2.2, .int .i64 X.l2, .slice X.t2.1 X.t2.2.1 X.t2.2.2, .int .i64 X.r0, .int .i64 X.r1, .int .i64 X.r2, .int .i64 0, .slice none 0 0, .int .i64 0, .int .i64 0, .int .i64 0] sizeOf22 rfl hb62 rfl rfl rfl rfl rfl ?_)
   intro w65 hU65 hzz65 hb62
   refine Za (Zl (Xl isAgg95 sizeOf95 rfl (hb2.Zh hU65) rfl (Zf (Zo underlying99 rfl sizeOf22 rfl rfl) (Zk isAgg22 rfl hb62 rfl ?_))))
   replace hT64 := hT64.Zh hU65
   refine Zj (Zy rfl call59 rfl rfl) (wadd _ (hs2.Zh hU65).any hT64.any (by omega) (by omega) hbz (ZU (ZL hb _) _) (by omega) (by omega)) ?_
   rintro v w66 ⟨a66, m66, c66, z66, rfl, hO66, hz_66, hm9_66, hU66⟩
   have:=hU66.size
   have hl_hO66 := ZC hO66
   have hc_hO66 := hO66.cap.1
   refine Zf (Zo underlying99 rfl sizeOf95 rfl rfl) ?_
   replace hb62 := hb62.Zc hU66
   refine Xp [.slice (if c = (p + 3) then a else a.map (·.add ((p + 3) * 1))) ((bsz b p).toNat) (c - (p + 3)), .bool false, .slice X.tr.1 X.tr.2.1 X.tr.2.2, .int .i64 X.l0, .slice X.t0.1 X.t0.2.1 X.t0.2.2, .int .i64 X.l1, .slice X.t1.1 X.t1.2.1 X.t1.2.2, .int .i64 X.l2, .slice X.t2.1 X.t2.2.1 X.t2.2.2, .int .i64 X.r0, .int .i64 X.r1, .int .i64 X.r2, .int .i64 sz, .slice a66 m66 c66, .int .i64 (tt + ((((bsz b p).toNat) : Nat) : Int)), .int .i64 0, .int .i64 0] sizeOf95 rfl rfl rfl rfl hb62 rfl rfl ?_
   intro w67 hU67 hzz67 hb62
   refine Za (Sn (Qs 3 rfl (Xd rfl rfl (Zf (Zo underlying99 rfl sizeOf4 rfl rfl) (Xc [.slice (if c = (p + 3) then a else a.map (·.add ((p + 3) * 1))) ((bsz b p).toNat) (c - (p + 3)), .bool (decide (bla b p = true)), .slice X.tr.1 X.tr.2.1 X.tr.2.2, .int .i64 X.l0, .slice X.t0.1 X.t0.2.1 X.t0.2.2, .int .i64 X.l1, .slice X.t1.1 X.t1.2.1 X.t1.2.2, .int .i64 X.l2, .slice X.t2.1 X.t2.2.1 X.t2.2.2, .int .i64 X.r0, .int .i64 X.r1, .int .i64 X.r2, .int .i64 sz, .slice a66 m66 c66, .int .i64 (tt + ((((bsz b p).toNat) : Nat) : Int)), .int .i64 0, .int .i64 0] sizeOf4 rfl hb62 rfl rfl rfl rfl rfl ?_)))))
   intro w68 hU68 hzz68 hb62
   refine Zf (Zo underlying99 rfl sizeOf3 rfl rfl) (Xc [.slice (if c = (p + 3) then a else a.map (·.add ((p + 3) * 1))) ((bsz b p).toNat) (c - (p + 3)), .bool (decide (bla b p = true)), .slice X.tr.1 X.tr.2.1 X.tr.2.2, .int .i64 X.l0, .slice X.t0.1 X.t0.2.1 X.t0.2.2, .int .i64 X.l1, .slice X.t1.1 X.t1.2.1 X.t1.2.2, .int .i64 X.l2, .slice X.t2.1 X.t2.2.1 X.t2.2.2, .int .i64 X.r0, .int .i64 X.r1, .int .i64 X.r2, .int .i64 sz, .slice a66 m66 c66, .int .i64 (tt + ((((bsz b p).toNat) : Nat) : Int)), .int .i64 (((p : Int) + 3) + 1), .int .i64 0] sizeOf3 rfl hb62 rfl rfl rfl rfl rfl ?_)
   intro w69 hU69 hzz69 hb62
   refine Za (Sn (Xl isAgg99 sizeOf99 rfl hb62 rfl ?_))
   replace hb3 := ((((hb3.Zh hU65).Zc hU66).Zh hU67).Zh hU68).Zh hU69
   refine Xa sizeOf99 rfl rfl rfl rfl hb3 rfl ?_
   intro w70 hU70 hzz70 hb3
   refine Za (Zn (Zg rfl (rc1 results34 rfl (Zu isAgg99 sizeOf99 rfl hb3)) ?_))
   have hst : bst b p = 1 := by unfold bst; rw [if_pos (by omega)]
   have hbe : berr b p = 0 := berr_ok (by omega) (by omega) (by omega)
   have hnx : p + 3 + (bst b p).toNat = bnx b p := rfl
   exact ⟨_, rfl, (if c = (p + 3) then a else a.map (·.add ((p + 3) * 1))), ((bsz b p).toNat), (c - (p + 3)), ((b.drop (p + 3)).take ((bsz b p).toNat)), bla b p, X, sz, a66, m66, c66, z66, (tt + ((((bsz b p).toNat) : Nat) : Int)), bnx b p, 0, (vagg (by rw [show ((p : Int) + 3) + 1 = ((bnx b p : Nat) : Int) from by omega])), ((((((hT64.Zc hU66).Zh hU67).Zh hU68).Zh hU69).Zh hU70).weak (fun g h => .inl h.1)), (((((((hC.Zh hU65).Zc hU66).Zh hU67).Zh hU68).Zh hU69).Zh hU70).weak (fun g h => .inl h.1)), (((((hO66.Zh hU67).Zh hU68).Zh hU69).Zh hU70).weak (fun g h => .inr (Nat.le_trans (by omega) h))), (ZU (ZL hb _) _), (by omega), (fun _ => ⟨hXr, rfl⟩), hz_66, (by omega), (by omega), (by omega), (fun _ => ⟨hbe, rfl, rfl⟩), ((((((HU.t1 hU65).Zb hU66).t1 hU67).t1 hU68).t1 hU69).t1 hU70)⟩
  refine Sn (Qs 2 rfl (Za ?_))
  have q18 : (bkd b p) = 1 := q15
  rw [decide_eq_true q18]
  refine Ct (Sm (Qs 1 rfl (Za (Zs (ZS (fun mu ρ ds w' => ∃ (i : Nat) (xs : List Int) (a9 : Option Addr) (c9 : Nat), (bsz b p).toNat - i = mu ∧ ds = [] ∧ Liv ρ [(0, .slice a m c), (1, .int .i64 ((p : Int) + 3)), (8, .pointer (some ⟨B2, 0, none⟩)), (10, .pointer (some ⟨B3, 0, none⟩)), (12, .int .i64 (bsz b p)), (13, .bool (decide (bla b p = true))), (15, .int .i64 1), (16, .pointer (some ⟨B62, 0, none⟩)), (17, .int .i64 i)] ∧ (i : Int) ≤ bsz b p ∧ Byt xs ∧ Blk w' B62 [.slice a9 i c9, .bool false, .slice X.tr.1 X.tr.2.1 X.tr.2.2, .int .i64 X.l0, .slice X.t0.1 X.t0.2.1 X.t0.2.2, .int .i64 X.l1, .slice X.t1.1 X.t1.2.1 X.t1.2.2, .int .i64 X.l2, .slice X.t2.1 X.t2.2.1 X.t2.2.2, .int .i64 X.r0, .int .i64 X.r1, .int .i64 X.r2, .int .i64 0, .slice none 0 0, .int .i64 0, .int .i64 0, .int .i64 0] ∧ Own w' (fun g => w63.heap.size ≤ g) 5 1 (.slice a9 i c9) i (ints .u8 xs) ∧ Upd (fun g => g = B62 ∨ w63.heap.size ≤ g) w63 w') _ ⟨0, [], none, 0, rfl, rfl, ⟨rfl, rfl, rfl, rfl, rfl, rfl, rfl, rfl, (by first | rfl | exact Zt (by omega) | exact Zt (by simp)), trivial⟩, (by omega), ZO, hb62, (by exact Own.nil _ _ _ _), Upd.refl _ _⟩ ?_)))))
  rintro m71 ρ71 ds71 w71 ⟨i, xs, a9, c9, rfl, rfl, hl71, hi, hby, hb62, hO, hU71⟩
  obtain ⟨ρ71x, rfl⟩ : ∃ ρx, ρ71 = upds ρx [(0, .slice a m c), (1, .int .i64 ((p : Int) + 3)), (8, .pointer (some ⟨B2, 0, none⟩)), (10, .pointer (some ⟨B3, 0, none⟩)), (12, .int .i64 (bsz b p)), (13, .bool (decide (bla b p = true))), (15, .int .i64 1), (16, .pointer (some ⟨B62, 0, none⟩)), (17, .int .i64 i)] := ⟨_, ZD hl71⟩
  clear hl71
  have:=hU71.size
  replace hO := hO.tight
  have hl_hO := ZC hO.sl
  have hc_hO := hO.sl.cap.1
  have hbq := Yi hb ((p : Int) + 3).toNat
  have HL71 := hU71
  refine Sm (Qs 3 rfl (Za (W_if rfl (fun q19 => ?_) fun q19 => ?_)))
  ·refine Zi (Zz (Zs (ZJ rfl (l0 := tf 0 10) (by kernel_rfl) (Tv rfl (fun _ _ => Zo underlying99 rfl sizeOf22 rfl rfl) (Tl rfl isAgg22 rfl hb62 rfl (Tq rfl (Tq rfl ?_)))))))
   obtain ⟨ib72, io72, ha72, hib72, hc72⟩ := ((hs.upd hU71)).iat (i := ((p : Int) + 3).toNat) (by omega)
   replace hib72 : ((R ib72) ∧ ib72 < w.heap.size) := hib72
   refine Tv rfl (fun _ _ => Yl (b := ib72) (off := io72) (m := m) (c := c) (o' := io72 + ((p : Int) + 3).toNat) underlying22 sizeOf5 (by rw [← ha72]; rfl) rfl (by omega) (by omega) (by omega)) (Tv rfl (v := .int .u8 (b.getD ((p : Int) + 3).toNat 0)) (fun w' hw' => Yd isAgg5 rfl (hw'.Y8 hc72)) ?_)
   intro w73 hU73
   have:=hU73.size
   replace hc72 := ZG hU73 hc72
   refine Wo 6 (tf 7 10) rfl ?_
   have hW : Upd No w71 w73 := hU73
   refine Xz [.int .u8 (b.getD ((p : Int) + 3).toNat 0)] underlying22 sizeOf5 zeroValue5 ?_
   intro B74 w74 hB74 hU74 hzz74 hs74
   replace hc72 := ZG hU74 hc72
   try replace hW := hW.Zb hU74
   replace hs74 : Own w74 (Is B74) 5 1 (.slice (some ⟨B74, 0, none⟩) 1 1) 1 (ints .u8 [b.getD ((p : Int) + 3).toNat 0]) := hs74
   refine Za ?_
   intro w75 hS75
   have hX : Upd No w71 w75 := hW.Zb hS75.upd
   refine bF hX ?_
   have hU75 := hS75.upd
   have:=hU75.size
   replace hc72 := ZG hU75 hc72
   try replace hW := hW.Zb hU75
   refine ZQ hX ?_
   intro w76 hU76
   have:=hU76.size
   replace hc72 := ZG hU76 hc72
   try replace hW := hW.Zb hU76
   refine Wo 7 (tf 8 10) rfl ?_
   have hW : Upd No w75 w76 := hU76
   replace hO := (((hO.Zc hU73).Zc hU74).Zc hU75).Zc hU76
   refine Z1 (xs := xs) (ys := [b.getD ((p : Int) + 3).toNat 0]) (zs := xs ++ [b.getD ((p : Int) + 3).toNat 0]) (k' := .u8) (tot := i + 1) (by first | rfl | exact (ZR _ _).symm | simp) underlying22 (ti := Tryz.t5) (z := .int .u8 0) (sz := 1) (by' := 1) rfl rfl rfl rfl rfl (by decide) rfl hO rfl ((hs74.Zc hU75).Zc hU76).sl  (by omega) (by simp only [maxLen]; omega) (by omega) ?_
   intro a77 c77 w77 hU77 hzz77 hO77
   replace hC := hC.upd hU71
   replace hs2 := hs2.upd hU71
   replace HU := HU.trans hU71
   replace hb2 := hb2.upd hU71
   replace hb3 := hb3.upd hU71
   replace hb62 := (((hb62.Zc hU73).Zc hU74).Zc hU75).Zc hU76
   replace HL71 := (((HL71.Zb hU73).Zb hU74).Zb hU75).Zb hU76
   clear hO
   have:=hU77.size
   replace hO77 := hO77.tight
   have hl_hO77 := ZC hO77.sl
   have hc_hO77 := hO77.sl.cap.1
   refine Za ?_
   intro w78 hS78
   refine bT (Upd No w78) ?_
   have hU78 := hS78.upd
   have:=hU78.size
   try replace hW := hW.Zb hU78
   refine ZQ (Upd.refl _ _) (Tv rfl (fun _ _ => Zo underlying99 rfl sizeOf22 rfl rfl) ?_)
   intro w79 hU79
   have:=hU79.size
   try replace hW := hW.Zb hU79
   refine Wo 9 (tf 10 10) rfl ?_
   have hW : Upd No w78 w79 := hU79
   replace hb62 := ((hb62.upd hU77).Zc hU78).Zc hU79
   refine Xc [.slice a77 (i + 1) c77, .bool false, .slice X.tr.1 X.tr.2.1 X.tr.2.2, .int .i64 X.l0, .slice X.t0.1 X.t0.2.1 X.t0.2.2, .int .i64 X.l1, .slice X.t1.1 X.t1.2.1 X.t1.2.2, .int .i64 X.l2, .slice X.t2.1 X.t2.2.1 X.t2.2.2, .int .i64 X.r0, .int .i64 X.r1, .int .i64 X.r2, .int .i64 0, .slice none 0 0, .int .i64 0, .int .i64 0, .int .i64 0] sizeOf22 rfl hb62 rfl rfl rfl rfl rfl ?_
   intro w80 hU80 hzz80 hb62
   refine Za ?_
   intro w81 hS81
   refine bT (Upd No w81) ?_
   have hU81 := hS81.upd
   have:=hU81.size
   try replace hW := hW.Zb hU81
   refine Wd (Zl (Qs 1 rfl (Xd rfl rfl (Qs 1 rfl (Za ?_)))))
   refine ⟨_, ?_, (i + 1), (xs ++ [b.getD ((p : Int) + 3).toNat 0]), a77, c77, rfl, rfl, ⟨rfl, rfl, rfl, rfl, rfl, rfl, rfl, rfl, Zt, trivial⟩, (by omega), (Yq hby (fun x hx => by rw [List.mem_singleton.1 hx]; exact hbq)), (hb62.Zc hU81), (((((hO77.Zc hU78).Zc hU79).Zh hU80).Zc hU81).weak), (((((HL71.trans hU77).Zb hU78).Zb hU79).Zr hU80).Zb hU81)⟩
   omega
  refine ZI (Zl (Xl isAgg95 sizeOf95 rfl (hb2.upd hU71) rfl (Zf (Zo underlying99 rfl sizeOf22 rfl rfl) (Zk isAgg22 rfl hb62 rfl (Zj (Zy rfl call59 rfl rfl) (wadd _ (hs2.upd hU71).any hO.sl.any (by omega) (by omega) hbz hby (by omega) (by omega)) ?_)))))
  rintro v w82 ⟨a82, m82, c82, z82, rfl, hO82, hz_82, hm9_82, hU82⟩
  have:=hU82.size
  have hl_hO82 := ZC hO82
  have hc_hO82 := hO82.cap.1
  refine Zf (Zo underlying99 rfl sizeOf95 rfl rfl) ?_
  replace hb62 := hb62.Zc hU82
  refine Xp [.slice a9 i c9, .bool false, .slice X.tr.1 X.tr.2.1 X.tr.2.2, .int .i64 X.l0, .slice X.t0.1 X.t0.2.1 X.t0.2.2, .int .i64 X.l1, .slice X.t1.1 X.t1.2.1 X.t1.2.2, .int .i64 X.l2, .slice X.t2.1 X.t2.2.1 X.t2.2.2, .int .i64 X.r0, .int .i64 X.r1, .int .i64 X.r2, .int .i64 sz, .slice a82 m82 c82, .int .i64 (tt + (i : Int)), .int .i64 0, .int .i64 0] sizeOf95 rfl rfl rfl rfl hb62 rfl rfl ?_
  intro w83 hU83 hzz83 hb62
  refine Za (Sn (Qs 3 rfl (Xd rfl rfl (Zf (Zo underlying99 rfl sizeOf4 rfl rfl) (Xc [.slice a9 i c9, .bool (decide (bla b p = true)), .slice X.tr.1 X.tr.2.1 X.tr.2.2, .int .i64 X.l0, .slice X.t0.1 X.t0.2.1 X.t0.2.2, .int .i64 X.l1, .slice X.t1.1 X.t1.2.1 X.t1.2.2, .int .i64 X.l2, .slice X.t2.1 X.t2.2.1 X.t2.2.2, .int .i64 X.r0, .int .i64 X.r1, .int .i64 X.r2, .int .i64 sz, .slice a82 m82 c82, .int .i64 (tt + (i : Int)), .int .i64 0, .int .i64 0] sizeOf4 rfl hb62 rfl rfl rfl rfl rfl ?_)))))
  intro w84 hU84 hzz84 hb62
  refine Zf (Zo underlying99 rfl sizeOf3 rfl rfl) (Xc [.slice a9 i c9, .bool (decide (bla b p = true)), .slice X.tr.1 X.tr.2.1 X.tr.2.2, .int .i64 X.l0, .slice X.t0.1 X.t0.2.1 X.t0.2.2, .int .i64 X.l1, .slice X.t1.1 X.t1.2.1 X.t1.2.2, .int .i64 X.l2, .slice X.t2.1 X.t2.2.1 X.t2.2.2, .int .i64 X.r0, .int .i64 X.r1, .int .i64 X.r2, .int .i64 sz, .slice a82 m82 c82, .int .i64 (tt + (i : Int)), .int .i64 (((p : Int) + 3) + 1), .int .i64 0] sizeOf3 rfl hb62 rfl rfl rfl rfl rfl ?_)
  intro w85 hU85 hzz85 hb62
  refine Za (Sn (Xl isAgg99 sizeOf99 rfl hb62 rfl ?_))
  replace hb3 := ((((hb3.upd hU71).Zc hU82).Zh hU83).Zh hU84).Zh hU85
  refine Xa sizeOf99 rfl rfl rfl rfl hb3 rfl ?_
  intro w86 hU86 hzz86 hb3
  refine Za (Zn (Zg rfl (rc1 results34 rfl (Zu isAgg99 sizeOf99 rfl hb3)) ?_))
  have hst : bst b p = 1 := by unfold bst; rw [if_pos (by omega)]
  have hbe : berr b p = 0 := berr_ok (by omega) (by omega) (by omega)
  have hnx : p + 3 + (bst b p).toNat = bnx b p := rfl
  exact ⟨_, rfl, a9, i, c9, xs, bla b p, X, sz, a82, m82, c82, z82, (tt + (i : Int)), bnx b p, 0, (vagg (by rw [show ((p : Int) + 3) + 1 = ((bnx b p : Nat) : Int) from by omega])), ((((((hO.Zc hU82).Zh hU83).Zh hU84).Zh hU85).Zh hU86).sl.weak (fun g h => .inr (Nat.le_trans (by omega) h.1))), (((((((hC.upd hU71).Zc hU82).Zh hU83).Zh hU84).Zh hU85).Zh hU86).weak (fun g h => .inl h.1)), (((((hO82.Zh hU83).Zh hU84).Zh hU85).Zh hU86).weak (fun g h => .inr (Nat.le_trans (by omega) h))), hby, (by omega), (fun _ => ⟨hXr, rfl⟩), hz_82, (by omega), (by omega), (by omega), (fun _ => ⟨hbe, rfl, rfl⟩), ((((((HU.trans hU71).Zb hU82).t1 hU83).t1 hU84).t1 hU85).t1 hU86)⟩
 refine Zi (Sm (Qs 2 rfl (Zf (ZM underlying22 rfl) (Qs 1 rfl (Xs rfl rfl (Qs 1 rfl (Za (W_if rfl (fun q20 => ?_) fun q20 => ?_))))))))
 ·refine Sn (Zf (ZF (pl := #[(0, 1), (1, 1), (2, 10), (12, 3), (15, 1), (16, 1)]) (pv := [(5, .int .i64 3)]) (cs := #[.slice none 0 0, .bool false, .slice none 0 0, .int .i64 0, .slice none 0 0, .int .i64 0, .slice none 0 0, .int .i64 0, .slice none 0 0, .int .i64 0, .int .i64 0, .int .i64 0, .int .i64 0, .slice none 0 0, .int .i64 0, .int .i64 0, .int .i64 3]) zeroValue99 underlying99 (fun w => by kernel_rfl)) (Xa sizeOf99 rfl rfl rfl rfl hb3 rfl ?_))
  intro w87 hU87 hzz87 hb3
  exact Za (Zn (Zg rfl (rc1 results34 rfl (Zu isAgg99 sizeOf99 rfl hb3)) ⟨_, rfl, none, 0, 0, [], false, cz 0 0 0, 0, none, 0, 0, [], 0, 0, 3, rfl, Sl.nil _ _ _, Cx.nil _ _ _ _ _, Sl.nil _ _ _, ZO, (by omega), (fun h => absurd h (by decide)), ZO, (by omega), (by omega), (by omega), (fun h => absurd h (by decide)), (HU.t1 hU87)⟩))
 refine Zi (Sn (Xl isAgg56 sizeOf56 rfl hb1 rfl (Zf (ZF (pl := #[(0, 1), (1, 1), (2, 10), (12, 3), (15, 1), (16, 1)]) (pv := [(2, .agg (cxl X).toArray)]) (cs := #[.slice none 0 0, .bool false, .slice X.tr.1 X.tr.2.1 X.tr.2.2, .int .i64 X.l0, .slice X.t0.1 X.t0.2.1 X.t0.2.2, .int .i64 X.l1, .slice X.t1.1 X.t1.2.1 X.t1.2.2, .int .i64 X.l2, .slice X.t2.1 X.t2.2.1 X.t2.2.2, .int .i64 X.r0, .int .i64 X.r1, .int .i64 X.r2, .int .i64 0, .slice none 0 0, .int .i64 0, .int .i64 0, .int .i64 0]) zeroValue99 underlying99 (fun w => by kernel_rfl)) (ZB zeroValue99 rfl ?_))))
 intro B88 w88 hB88 hU88 hzz88 hb88
 refine Xa sizeOf99 rfl rfl rfl rfl hb88 rfl ?_
 intro w89 hU89 hzz89 hb88
 refine Za (Sm (Qs 1 rfl (Za (Zs (Sn (Qs 2 rfl (Za ?_)))))))
 replace hs := (hs.Zc hU88).Zh hU89
 replace hC := (hC.Zc hU88).Zh hU89
 replace hs2 := (hs2.Zc hU88).Zh hU89
 replace HU := (HU.Zb hU88).t1 hU89
 replace hb2 := (hb2.Zc hU88).Zh hU89
 replace hb3 := (hb3.Zc hU88).Zh hU89
 refine W_if rfl (fun q21 => ?_) fun q21 => ?_
 ·refine Sn (Qs 4 rfl (Xd rfl rfl (Zf (YY (l' := (p + 3)) (h' := (p + 3 + (bsz b p).toNat)) (n' := (bsz b p).toNat) underlying22 sizeOf5 rfl rfl rfl (by omega) (by omega) (by omega) (by omega) (by omega)) ?_)))
  have hT90 := Sl.cutn (l := (p + 3)) (n := (bsz b p).toNat) hs (by omega)
  have hl_hT90 := ZC hT90
  have hc_hT90 := hT90.cap.1
  refine Zf (Zo underlying99 rfl sizeOf22 rfl rfl) (Xc [.slice (if c = (p + 3) then a else a.map (·.add ((p + 3) * 1))) ((bsz b p).toNat) (c - (p + 3)), .bool false, .slice X.tr.1 X.tr.2.1 X.tr.2.2, .int .i64 X.l0, .slice X.t0.1 X.t0.2.1 X.t0.2.2, .int .i64 X.l1, .slice X.t1.1 X.t1.2.1 X.t1.2.2, .int .i64 X.l2, .slice X.t2.1 X.t2.2.1 X.t2.2.2, .int .i64 X.r0, .int .i64 X.r1, .int .i64 X.r2, .int .i64 0, .slice none 0 0, .int .i64 0, .int .i64 0, .int .i64 0] sizeOf22 rfl hb88 rfl rfl rfl rfl rfl ?_)
  intro w91 hU91 hzz91 hb88
  refine Za (Zl (Xl isAgg95 sizeOf95 rfl (hb2.Zh hU91) rfl (Zf (Zo underlying99 rfl sizeOf22 rfl rfl) (Zk isAgg22 rfl hb88 rfl ?_))))
  replace hT90 := hT90.Zh hU91
  refine Zj (Zy rfl call59 rfl rfl) (wadd _ (hs2.Zh hU91).any hT90.any (by omega) (by omega) hbz (ZU (ZL hb _) _) (by omega) (by omega)) ?_
  rintro v w92 ⟨a92, m92, c92, z92, rfl, hO92, hz_92, hm9_92, hU92⟩
  have:=hU92.size
  have hl_hO92 := ZC hO92
  have hc_hO92 := hO92.cap.1
  refine Zf (Zo underlying99 rfl sizeOf95 rfl rfl) ?_
  replace hb88 := hb88.Zc hU92
  refine Xp [.slice (if c = (p + 3) then a else a.map (·.add ((p + 3) * 1))) ((bsz b p).toNat) (c - (p + 3)), .bool false, .slice X.tr.1 X.tr.2.1 X.tr.2.2, .int .i64 X.l0, .slice X.t0.1 X.t0.2.1 X.t0.2.2, .int .i64 X.l1, .slice X.t1.1 X.t1.2.1 X.t1.2.2, .int .i64 X.l2, .slice X.t2.1 X.t2.2.1 X.t2.2.2, .int .i64 X.r0, .int .i64 X.r1, .int .i64 X.r2, .int .i64 sz, .slice a92 m92 c92, .int .i64 (tt + ((((bsz b p).toNat) : Nat) : Int)), .int .i64 0, .int .i64 0] sizeOf95 rfl rfl rfl rfl hb88 rfl rfl ?_
  intro w93 hU93 hzz93 hb88
  refine Za (Sn (Qs 3 rfl (Xd rfl rfl (Zf (Zo underlying99 rfl sizeOf4 rfl rfl) (Xc [.slice (if c = (p + 3) then a else a.map (·.add ((p + 3) * 1))) ((bsz b p).toNat) (c - (p + 3)), .bool (decide (bla b p = true)), .slice X.tr.1 X.tr.2.1 X.tr.2.2, .int .i64 X.l0, .slice X.t0.1 X.t0.2.1 X.t0.2.2, .int .i64 X.l1, .slice X.t1.1 X.t1.2.1 X.t1.2.2, .int .i64 X.l2, .slice X.t2.1 X.t2.2.1 X.t2.2.2, .int .i64 X.r0, .int .i64 X.r1, .int .i64 X.r2, .int .i64 sz, .slice a92 m92 c92, .int .i64 (tt + ((((bsz b p).toNat) : Nat) : Int)), .int .i64 0, .int .i64 0] sizeOf4 rfl hb88 rfl rfl rfl rfl rfl ?_)))))
  intro w94 hU94 hzz94 hb88
  refine Zf (Zo underlying99 rfl sizeOf3 rfl rfl) (Xc [.slice (if c = (p + 3) then a else a.map (·.add ((p + 3) * 1))) ((bsz b p).toNat) (c - (p + 3)), .bool (decide (bla b p = true)), .slice X.tr.1 X.tr.2.1 X.tr.2.2, .int .i64 X.l0, .slice X.t0.1 X.t0.2.1 X.t0.2.2, .int .i64 X.l1, .slice X.t1.1 X.t1.2.1 X.t1.2.2, .int .i64 X.l2, .slice X.t2.1 X.t2.2.1 X.t2.2.2, .int .i64 X.r0, .int .i64 X.r1, .int .i64 X.r2, .int .i64 sz, .slice a92 m92 c92, .int .i64 (tt + ((((bsz b p).toNat) : Nat) : Int)), .int .i64 (((p : Int) + 3) + (bsz b p)), .int .i64 0] sizeOf3 rfl hb88 rfl rfl rfl rfl rfl ?_)
  intro w95 hU95 hzz95 hb88
  refine Za (Sn (Xl isAgg99 sizeOf99 rfl hb88 rfl ?_))
  replace hb3 := ((((hb3.Zh hU91).Zc hU92).Zh hU93).Zh hU94).Zh hU95
  refine Xa sizeOf99 rfl rfl rfl rfl hb3 rfl ?_
  intro w96 hU96 hzz96 hb3
  refine Za (Zn (Zg rfl (rc1 results34 rfl (Zu isAgg99 sizeOf99 rfl hb3)) ?_))
  have hst : bst b p = bsz b p := by unfold bst; rw [if_neg (by omega)]
  have hbe : berr b p = 0 := berr_ok (by omega) (by omega) (by omega)
  have hnx : p + 3 + (bst b p).toNat = bnx b p := rfl
  exact ⟨_, rfl, (if c = (p + 3) then a else a.map (·.add ((p + 3) * 1))), ((bsz b p).toNat), (c - (p + 3)), ((b.drop (p + 3)).take ((bsz b p).toNat)), bla b p, X, sz, a92, m92, c92, z92, (tt + ((((bsz b p).toNat) : Nat) : Int)), bnx b p, 0, (vagg (by rw [show ((p : Int) + 3) + (bsz b p) = ((bnx b p : Nat) : Int) from by omega])), ((((((hT90.Zc hU92).Zh hU93).Zh hU94).Zh hU95).Zh hU96).weak (fun g h => .inl h.1)), (((((((hC.Zh hU91).Zc hU92).Zh hU93).Zh hU94).Zh hU95).Zh hU96).weak (fun g h => .inl h.1)), (((((hO92.Zh hU93).Zh hU94).Zh hU95).Zh hU96).weak (fun g h => .inr (Nat.le_trans (by omega) h))), (ZU (ZL hb _) _), (by omega), (fun _ => ⟨hXr, rfl⟩), hz_92, (by omega), (by omega), (by omega), (fun _ => ⟨hbe, rfl, rfl⟩), ((((((HU.t1 hU91).Zb hU92).t1 hU93).t1 hU94).t1 hU95).t1 hU96)⟩
 refine Sn (Qs 2 rfl (Za ?_))
 have q22 : ¬ ((bkd b p) = 1) := q15
 rw [decide_eq_false q22]
 refine Cf (Yk (T := fun g => g = B88) rfl (l0 := tf 0 12) (by kernel_rfl) (Sq (Upd.refl _ _) rfl (Sq (Upd.refl _ _) rfl (Sq (Upd.refl _ _) rfl (Sq (Upd.refl _ _) rfl (Sv (Upd.refl _ _) rfl (fun _ _ => Yf rfl rfl ZY) (Sv (Upd.refl _ _) rfl (fun _ _ => YY (l' := (p + 3)) (h' := (p + 3 + (bsz b p).toNat)) (n' := (bsz b p).toNat) underlying22 sizeOf5 rfl rfl rfl (by omega) (by omega) (by omega) (by omega) (by omega)) ?_)))))))
 have hT97 := Sl.cutn (l := (p + 3)) (n := (bsz b p).toNat) hs (by omega)
 have hl_hT97 := ZC hT97
 have hc_hT97 := hT97.cap.1
 refine Sv (Upd.refl _ _) rfl (fun w' hw' => Xt (cs := (cxl X)) isAgg56 sizeOf56 rfl (((hb1.Zc hU88).Zh hU89).Zh hw') rfl rfl) (Sv (Upd.refl _ _) rfl (fun w' hw' => Xt (cs := [.int .i64 sz, .slice a2 n2 c2, .int .i64 tt]) isAgg95 sizeOf95 rfl (hb2.Zh hw') rfl rfl) (Sq (Upd.refl _ _) rfl ?_))
 intro w98 hU98
 have:=hU98.size
 refine Wo 9 (tf 10 12) rfl ?_
 have hW : Upd (fun g => g = B88) w89 w89 := (Upd.refl _ _)
 refine Zj (Zv rfl call58 (v0 := .int .i64 ((wz.toNat : Nat) : Int)) Zt) (wbound _ (by omega)) ?_
 rintro v w99 ⟨y99, rfl, hy_99, hU99⟩
 have:=hU99.size
 refine Za ?_
 intro w100 hS100
 replace hW := (hW.Zb hU98).Zb hU99
 have hX100 : Upd _ w89 w100 := hW.Zb hS100.upd
 refine bF hX100 ?_
 have hU100 := hS100.upd
 have:=hU100.size
 refine Z8 ?_
 intro w101 hU101
 have:=hU101.size
 refine Wo 10 (tf 11 12) rfl ?_
 have hW : Upd No w100 w101 := hU101
 refine Zj (r_call4 rfl call60 rfl rfl rfl rfl) (wcoded35 (R := (fun g => (R g) ∧ g < w.heap.size)) _ ((((hT97.Zc hU98).Zc hU99).Zc hU100).Zc hU101) (ZU (ZL hb _) _) (by omega) ((((hC.Zc hU98).Zc hU99).Zc hU100).Zc hU101) (by omega) ((((hs2.Zc hU98).Zc hU99).Zc hU100).Zc hU101) hbz (by omega) (by omega) (by omega) (by omega)) ?_
 rintro v w102 ⟨xa102, xm102, xc102, xs102, la102, Y102, sy102, ya102, ym102, yc102, ys102, ty102, nx102, e102, rfl, hB102, hC102, hO102, hx_102, hxm_102, hY_102, hy_102, hym_102, ht0_102, ht1_102, hU102⟩
 have:=hU102.size
 try replace hW := hW.Zb hU102
 have hl_hB102 := ZC hB102
 have hc_hB102 := hB102.cap.1
 have hl_hO102 := ZC hO102
 have hc_hO102 := hO102.cap.1
 have hYk := hY_102
 refine Za ?_
 intro w103 hS103
 refine bT (Upd No w103) ?_
 have hU103 := hS103.upd
 have:=hU103.size
 try replace hW := hW.Zb hU103
 refine ZQ (Upd.refl _ _) ?_
 intro w104 hU104
 have:=hU104.size
 try replace hW := hW.Zb hU104
 refine Wo 11 (tf 12 12) rfl ?_
 have hW : Upd No w103 w104 := hU104
 replace hb88 := ((((((hb88.Zc hU98).Zc hU99).Zc hU100).Zc hU101).Zc hU102).Zc hU103).Zc hU104
 refine Xa sizeOf99 rfl rfl rfl rfl hb88 rfl ?_
 intro w105 hU105 hzz105 hb88
 refine Za ?_
 intro w106 hS106
 refine bT (Upd No w106) ?_
 have hU106 := hS106.upd
 have:=hU106.size
 try replace hW := hW.Zb hU106
 refine Wd (Sn (Qs 3 rfl (Xd rfl rfl (Zf (Zo underlying99 rfl sizeOf4 rfl rfl) ?_))))
 replace hb88 := hb88.Zc hU106
 refine Xc [.slice xa102 xm102 xc102, .bool (decide (bla b p = true)), .slice Y102.tr.1 Y102.tr.2.1 Y102.tr.2.2, .int .i64 Y102.l0, .slice Y102.t0.1 Y102.t0.2.1 Y102.t0.2.2, .int .i64 Y102.l1, .slice Y102.t1.1 Y102.t1.2.1 Y102.t1.2.2, .int .i64 Y102.l2, .slice Y102.t2.1 Y102.t2.2.1 Y102.t2.2.2, .int .i64 Y102.r0, .int .i64 Y102.r1, .int .i64 Y102.r2, .int .i64 sy102, .slice ya102 ym102 yc102, .int .i64 ty102, .int .i64 nx102, .int .i64 e102] sizeOf4 rfl hb88 rfl rfl rfl rfl rfl ?_
 intro w107 hU107 hzz107 hb88
 refine Zf (Zo underlying99 rfl sizeOf3 rfl rfl) (Xc [.slice xa102 xm102 xc102, .bool (decide (bla b p = true)), .slice Y102.tr.1 Y102.tr.2.1 Y102.tr.2.2, .int .i64 Y102.l0, .slice Y102.t0.1 Y102.t0.2.1 Y102.t0.2.2, .int .i64 Y102.l1, .slice Y102.t1.1 Y102.t1.2.1 Y102.t1.2.2, .int .i64 Y102.l2, .slice Y102.t2.1 Y102.t2.2.1 Y102.t2.2.2, .int .i64 Y102.r0, .int .i64 Y102.r1, .int .i64 Y102.r2, .int .i64 sy102, .slice ya102 ym102 yc102, .int .i64 ty102, .int .i64 (((p : Int) + 3) + (bsz b p)), .int .i64 e102] sizeOf3 rfl hb88 rfl rfl rfl rfl rfl ?_)
 intro w108 hU108 hzz108 hb88
 refine Za (Sn (Xl isAgg99 sizeOf99 rfl hb88 rfl ?_))
 replace hb3 := ((((((((((hb3.Zc hU98).Zc hU99).Zc hU100).Zc hU101).Zc hU102).Zc hU103).Zc hU104).Zh hU105).Zc hU106).Zh hU107).Zh hU108
 refine Xa sizeOf99 rfl rfl rfl rfl hb3 rfl ?_
 intro w109 hU109 hzz109 hb3
 refine Za (Zn (Zg rfl (rc1 results34 rfl (Zu isAgg99 sizeOf99 rfl hb3)) ?_))
 have hst : bst b p = bsz b p := by unfold bst; rw [if_neg (by omega)]
 have hbe : berr b p = 0 := berr_ok (by omega) (by omega) (by omega)
 have hnx : p + 3 + (bst b p).toNat = bnx b p := rfl
 exact ⟨_, rfl, xa102, xm102, xc102, xs102, bla b p, Y102, sy102, ya102, ym102, yc102, ys102, ty102, bnx b p, e102, (vagg (by rw [show ((p : Int) + 3) + (bsz b p) = ((bnx b p : Nat) : Int) from by omega])), (((((((((hB102.tight).Zc hU103).Zc hU104).Zh hU105).Zc hU106).Zh hU107).Zh hU108).Zh hU109).weak (fun g h => h.1.imp And.left (Nat.le_trans (by omega)))), (((((((((hC102.tight).Zc hU103).Zc hU104).Zh hU105).Zc hU106).Zh hU107).Zh hU108).Zh hU109).weak (fun g h => h.1.imp And.left (Nat.le_trans (by omega)))), (((((((((hO102.tight).Zc hU103).Zc hU104).Zh hU105).Zc hU106).Zh hU107).Zh hU108).Zh hU109).weak (fun g h => h.1.imp And.left (Nat.le_trans (by omega)))), hx_102, (by omega), hYk, hy_102, (by omega), (by omega), (by omega), (fun _ => ⟨hbe, rfl, rfl⟩), ((((((((((((HU.Zb hU98).Zb hU99).Zb hU100).Zb hU101).Zb hU102).Zb hU103).Zb hU104).t1 hU105).Zb hU106).t1 hU107).t1 hU108).t1 hU109)⟩
end Go.Proofs.YtbjjhfoeckkacaaGreatDoor
