/-
  Several texts of this project, put together.
-/
import Derived.Test.YtbjjhfoeckkacaaGreatDoorFZ
import Derived.Test.YtbjjhfoeckkacaaGreatDoorDX
import Derived.Test.YtbjjhfoeckkacaaGreatDoorDA
set_option linter.unusedVariables false
set_option linter.unusedSimpArgs false
set_option maxRecDepth 100000
set_option maxHeartbeats 16000000
namespace Go.Proofs.YtbjjhfoeckkacaaGreatDoor
open Go.Fw _root_.Go.Proofs.Tryz
theorem wfind {x : Int} (w : World)  :
  Calls Tryz.prog 31 #[.int .u32 x, .slice none 0 0] w (Ret fun v w' => v = .pointer none ∧ Upd No w w') := by
 have HU := Upd.Yo w
 exact Zq func31 rfl ntmps31 (by simp) (Sn (Qs 1 rfl (Za (Sm (Qs 1 rfl (Za (Zs (W_unroll 1 (ZX (Sm (Qs 2 rfl (Zf (ZM underlying49 rfl) (Zf (v := .bool false) (YL (a := 0) (b := 0) rfl rfl) (Za (Cf (ZI (Sn (Qs 1 rfl (Za (Zn (Zg rfl (Z9 results31 rfl) ⟨_, rfl, rfl, HU⟩)))))))))))))))))))))
theorem wbegin  (w : World)  :
  Calls Tryz.prog 32 #[.pointer none] w (Ret fun v w' => v = .agg #[.slice none 0 0, .int .i64 0, .slice none 0 0, .int .i64 0, .slice none 0 0, .int .i64 0, .slice none 0 0, .int .i64 1, .int .i64 4, .int .i64 8] ∧ Upd No w w') := by
 have HU := Upd.Yo w
 refine Zq func32 rfl ntmps32 (by simp) (Sn (ZB zeroValue56 rfl ?_))
 intro B1 w1 hB1 hU1 hzz1 hb1
 refine Za (Sm (Qs 1 rfl (Zf (r_eqpn_n underlying91 rfl rfl) (Qs 1 rfl (Gf (Gf (Gf (Gf (Gf (Zf (Zx (v := .bool true) rfl rfl) (Za (Ct (Sn (Zf (YN (pv := [(0, .int .i64 1), (1, .int .i64 4), (2, .int .i64 8)]) (cs := #[.int .i64 1, .int .i64 4, .int .i64 8]) zeroValue54 underlying54 sizeOf3) (Zf (ZF (pl := #[(0, 1), (1, 2), (3, 2), (5, 2), (7, 3)]) (pv := [(4, .agg #[.int .i64 1, .int .i64 4, .int .i64 8])]) (cs := #[.slice none 0 0, .int .i64 0, .slice none 0 0, .int .i64 0, .slice none 0 0, .int .i64 0, .slice none 0 0, .int .i64 1, .int .i64 4, .int .i64 8]) zeroValue56 underlying56 (fun w => by kernel_rfl)) (Xa sizeOf56 rfl rfl rfl rfl hb1 rfl ?_))))))))))))))))
 intro w2 hU2 hzz2 hb1
 exact Za (Zn (Zg rfl (rc1 results32 rfl (Zu isAgg56 sizeOf56 rfl hb1)) ⟨_, rfl, rfl, ((HU.Zb hU1).t1 hU2)⟩))
theorem wframe39 {a : Option Addr} {m c p : Nat} {b : List Int} {wi li fr e0 : Int} {aT : Option Addr} {nT cT gT fT : Nat} {xT : List Int} (w : World) (hs : Sl w (fun g => (g < w.heap.size ∧ (g ≠ gT ∨ fT = 0))) 1 (.slice a m c) m (ints .u8 b)) (hO : Own w (fun g => (g = gT ∧ 0 < fT)) 5 1 (.slice aT nT cT) nT (ints .u8 xT)) (hb : Byt b) (hm : m ≤ 3000) (hp : p ≤ m) (hm1 : Hm b p) (hbT : Byt xT) (hnT : nT ≤ 100000) (hfr : 0 ≤ fr ∧ fr ≤ 100000) (hgs : (fT = 0 ∨ gT < w.heap.size)) (hli : 0 ≤ li ∧ li ≤ 100000) (he0 : e0 = 0) :
  Calls Tryz.prog 15 #[.slice a m c, .int .i64 p, .int .i64 wi, .int .i64 li, .slice none 0 0, .agg #[.slice aT nT cT, .int .i64 fr, .int .i64 e0]] w (Ret fun v w' => ∃ (q' : Nat) (a' : Option Addr) (n' : Nat) (c' : Nat) (x' : List Int) (fr' : Int) (e' : Int) (g' : Nat) (z' : Nat), v = .tuple #[.int .i64 ((q' : Nat) : Int), .agg #[.slice a' n' c', .int .i64 fr', .int .i64 e']] ∧ Own w' (fun g => (g = g' ∧ 0 < z')) 5 1 (.slice a' n' c') n' (ints .u8 x') ∧ Byt x' ∧ n' ≤ 100000 ∧ 0 ≤ fr' ∧ fr' ≤ fr + 1 ∧ q' ≤ m ∧ (z' = 0 ∨ (g' = gT ∧ 0 < fT) ∨ w.heap.size ≤ g') ∧ (z' = 0 ∨ g' < w'.heap.size) ∧ (e' = 0 → (ZK b p).2.2 = 0 ∧ q' = (ZK b p).2.1) ∧ Upd (fun g => (g = gT ∧ 0 < fT)) w w') := by
 have HU : Upd (fun b => (b = gT ∧ 0 < fT)) w w := Upd.refl _ _
 have hl_hs := ZC hs
 have hc_hs := hs.cap.1
 have hl_hO := ZC hO.sl
 have hc_hO := hO.sl.cap.1
 have hghl := ghead_le (bs := b) (p := p) (by omega)
 refine Zq func15 rfl ntmps15 (by simp) (Sn (Xb rfl ?_))
 intro B1 w1 hB1 hU1 hzz1 hb1
 refine Qs 1 rfl (ZB zeroValue30 rfl ?_)
 intro B2 w2 hB2 hU2 hzz2 hb2
 refine Za (Sn (Qs 2 rfl ?_))
 replace hs := ((hs.tight).Zc hU1).Zc hU2
 refine Zj (Zy rfl call30 rfl rfl) (rget38 _ hs.any hb (by omega) (by omega)) ?_
 rintro v w3 ⟨rfl, hU3⟩
 have:=hU3.size
 refine Qs 4 rfl (ZB zeroValue34 rfl ?_)
 intro B4 w4 hB4 hU4 hzz4 hb4
 refine Xa sizeOf34 rfl rfl rfl rfl hb4 rfl ?_
 intro w5 hU5 hzz5 hb4
 refine Qs 2 rfl (Za (Sm (Qs 3 rfl ?_)))
 replace hO := (((((hO.tight).Zc hU1).Zc hU2).Zc hU3).Zc hU4).Zh hU5
 replace HU := ((((HU.Zb hU1).Zb hU2).Zb hU3).Zb hU4).Zr hU5
 replace hb1 := (((hb1.Zc hU2).Zc hU3).Zc hU4).Zh hU5
 replace hb2 := ((hb2.Zc hU3).Zc hU4).Zh hU5
 by_cases q1 : ((ZA b p).2.2) = 0
 ·have hgg := ghead_ge q1
  rw [decide_eq_true q1]
  refine Gt (Zf (Zo underlying34 rfl sizeOf3 rfl rfl) (Gt (Zk isAgg3 rfl hb4 rfl (Gt (Qs 1 rfl (Gt (Qs 1 rfl (Zf (Zx (v := .bool (decide (wi < ((ZA b p).1.1)))) rfl rfl) (Za (W_if rfl (fun q2 => ?_) fun q2 => ?_))))))))))
  ·refine Zl (Qs 1 rfl (Za (Sn (Zf (Zo underlying34 rfl sizeOf32 rfl rfl) (Zk isAgg32 rfl hb4 rfl (Qs 1 rfl (Zj (Zy rfl call31 rfl rfl) (wfind _ ) ?_)))))))
   rintro v w6 ⟨rfl, hU6⟩
   have:=hU6.size
   refine Qs 1 rfl (Za (Sm (Qs 1 rfl (Zf (v := .bool false) (YK (a := 8) (b := 0) rfl rfl) (Qs 1 rfl (Gf (Gf (Gf (Zf (Zw (v := .bool false) rfl rfl) (Qs 1 rfl (Gf (Gf (Zf (Zw (v := .bool false) rfl rfl) (Za (Cf (Zi (Sm (Qs 1 rfl (Zf (v := .bool true) (Yh (a := 8) (b := 0) rfl rfl) (Za (Ct (Sn (Qs 1 rfl (Zf (Zo underlying30 rfl sizeOf3 rfl rfl) ?_))))))))))))))))))))))))
   replace hb1 := hb1.Zc hU6
   refine Xc [.slice aT nT cT, .int .i64 fr, .int .i64 8] sizeOf3 rfl hb1 rfl rfl rfl rfl rfl ?_
   intro w7 hU7 hzz7 hb1
   refine Za (Zz (Yk (T := fun g => g = B2) rfl (l0 := tf 0 4) (by kernel_rfl) (Sq (Upd.refl _ _) rfl (Sv (Upd.refl _ _) rfl (fun w' hw' => Xt (cs := [.slice aT nT cT, .int .i64 fr, .int .i64 8]) isAgg30 sizeOf30 rfl (hb1.Zh hw') rfl rfl) (Sq (Upd.refl _ _) rfl ?_)))))
   intro w8 hU8
   have:=hU8.size
   refine Wo 3 (tf 4 4) rfl ?_
   have hW : Upd No w7 w8 := hU8
   replace hb2 := ((hb2.Zc hU6).Zh hU7).Zc hU8
   refine Xa sizeOf30 rfl rfl rfl rfl hb2 rfl ?_
   intro w9 hU9 hzz9 hb2
   refine Za ?_
   intro w10 hS10
   refine bT (Upd No w10) ?_
   have hU10 := hS10.upd
   have:=hU10.size
   try replace hW := hW.Zb hU10
   exact Wd (Zn (Zg rfl (rm_tc results15 rfl rfl (Zu isAgg30 sizeOf30 rfl (hb2.Zc hU10))) ⟨_, rfl, ((ZA b p).2.1), aT, nT, cT, xT, fr, 8, gT, fT, rfl, ((((((hO.Zc hU6).Zh hU7).Zc hU8).Zh hU9).Zc hU10).weak (fun g hg => by have h3 : ((g = gT ∧ 0 < fT) ∧ g < w.heap.size) := hg; show g = gT ∧ 0 < fT; omega)), hbT, (by omega), (by omega), (by omega), (by omega), (by omega), (by omega), (fun h => absurd h (by decide)), (((((HU.Zb hU6).Zr hU7).Zb hU8).Zr hU9).Zb hU10)⟩))
  refine Zi (Sn (Zf (Zo underlying34 rfl sizeOf32 rfl rfl) (Zk isAgg32 rfl hb4 rfl (Qs 1 rfl (Zj (Zy rfl call31 rfl rfl) (wfind _ ) ?_)))))
  rintro v w11 ⟨rfl, hU11⟩
  have:=hU11.size
  refine Qs 1 rfl (Za (Sm (Qs 3 rfl ?_)))
  have q3 : ((ZA b p).2.2) = 0 := q1
  have hgg := ghead_ge q3
  rw [decide_eq_true q3]
  refine Gt (Zf (Zo underlying34 rfl sizeOf32 rfl rfl) (Gt ?_))
  replace hb4 := hb4.Zc hU11
  refine Zk isAgg32 rfl hb4 rfl (Gt (Qs 1 rfl (Zf (Zx (v := .bool (decide (((ZA b p).1.2.2.1) ≠ 0))) rfl rfl) (Qs 1 rfl ?_))))
  replace hO := hO.Zc hU11
  replace HU := HU.Zb hU11
  replace hb1 := hb1.Zc hU11
  replace hb2 := hb2.Zc hU11
  by_cases q4 : ((ZA b p).1.2.2.1) ≠ 0
  ·rw [decide_eq_true q4]
   refine Gt (Qs 1 rfl (Gt (Zf (r_eqpn_n underlying91 rfl rfl) (Zf (Zx (v := .bool true) rfl rfl) (Za (Ct (Zl (Qs 1 rfl (Za (Sm (Qs 1 rfl (Zf (v := .bool true) (Yh (a := 9) (b := 0) rfl rfl) (Za (Ct (Sn (Qs 1 rfl (Zf (Zo underlying30 rfl sizeOf3 rfl rfl) (Xc [.slice aT nT cT, .int .i64 fr, .int .i64 9] sizeOf3 rfl hb1 rfl rfl rfl rfl rfl ?_))))))))))))))))))
   intro w12 hU12 hzz12 hb1
   refine Za (Zz (Yk (T := fun g => g = B2) rfl (l0 := tf 0 4) (by kernel_rfl) (Sq (Upd.refl _ _) rfl (Sv (Upd.refl _ _) rfl (fun w' hw' => Xt (cs := [.slice aT nT cT, .int .i64 fr, .int .i64 9]) isAgg30 sizeOf30 rfl (hb1.Zh hw') rfl rfl) (Sq (Upd.refl _ _) rfl ?_)))))
   intro w13 hU13
   have:=hU13.size
   refine Wo 3 (tf 4 4) rfl ?_
   have hW : Upd No w12 w13 := hU13
   replace hb2 := (hb2.Zh hU12).Zc hU13
   refine Xa sizeOf30 rfl rfl rfl rfl hb2 rfl ?_
   intro w14 hU14 hzz14 hb2
   refine Za ?_
   intro w15 hS15
   refine bT (Upd No w15) ?_
   have hU15 := hS15.upd
   have:=hU15.size
   try replace hW := hW.Zb hU15
   exact Wd (Zn (Zg rfl (rm_tc results15 rfl rfl (Zu isAgg30 sizeOf30 rfl (hb2.Zc hU15))) ⟨_, rfl, ((ZA b p).2.1), aT, nT, cT, xT, fr, 9, gT, fT, rfl, (((((hO.Zh hU12).Zc hU13).Zh hU14).Zc hU15).weak (fun g hg => by have h3 : ((g = gT ∧ 0 < fT) ∧ g < w.heap.size) := hg; show g = gT ∧ 0 < fT; omega)), hbT, (by omega), (by omega), (by omega), (by omega), (by omega), (by omega), (fun h => absurd h (by decide)), ((((HU.Zr hU12).Zb hU13).Zr hU14).Zb hU15)⟩))
  rw [decide_eq_false q4]
  refine Gf (Gf (Zf (Zw (v := .bool false) rfl rfl) (Za (Cf (Zi (Sm (Qs 2 rfl (Za ?_))))))))
  have q5 : ¬ (((ZA b p).2.2) ≠ 0) := (fun h2 => h2 q3)
  rw [decide_eq_false q5]
  refine Cf (Zi (Sn (Qs 1 rfl (Za (Sm (Qs 1 rfl (Zf (r_nepn_n underlying91 rfl rfl) (Za (Cf (Zi (Sn (Qs 1 rfl (Zj (Zv rfl call32 rfl) (wbegin _ ) ?_)))))))))))))
  rintro v w16 ⟨rfl, hU16⟩
  have:=hU16.size
  refine ZB zeroValue56 rfl ?_
  intro B17 w17 hB17 hU17 hzz17 hb17
  refine Xa sizeOf56 rfl rfl rfl rfl hb17 rfl ?_
  intro w18 hU18 hzz18 hb17
  refine Za (Sn (Zf (Zo underlying34 rfl sizeOf3 rfl rfl) ?_))
  replace hb4 := ((hb4.Zc hU16).Zc hU17).Zh hU18
  refine Zk isAgg3 rfl hb4 rfl (Qs 1 rfl ?_)
  have hgb := ghead_bd hb q3
  have hgb1 := hgb.1
  have hgb2 := hgb.2.1
  obtain ⟨wn, hwn⟩ : ∃ n : Nat, (n : Int) = (ZA b p).1.1 := ⟨((ZA b p).1.1).toNat, by omega⟩
  refine Zj (Zy rfl call33 (v0 := .int .i64 wn) Zt rfl) (wrnew (b := []) _ (Sl.nil _ _ _) (by omega) (by omega) ZO) ?_
  rintro v w19 ⟨a19, m19, c19, z19, rfl, hO19, hz_19, hm9_19, hU19⟩
  have:=hU19.size
  have hl_hO19 := ZC hO19
  have hc_hO19 := hO19.cap.1
  refine Qs 3 rfl (ZB zeroValue95 rfl ?_)
  intro B20 w20 hB20 hU20 hzz20 hb20
  refine Xa sizeOf95 rfl rfl rfl rfl hb20 rfl ?_
  intro w21 hU21 hzz21 hb20
  refine Qs 1 rfl (Za (Sn (Zf (Zo underlying30 rfl sizeOf22 rfl rfl) ?_)))
  replace hb1 := (((((hb1.Zc hU16).Zc hU17).Zh hU18).Zc hU19).Zc hU20).Zh hU21
  refine Zk isAgg22 rfl hb1 rfl (Zf (ZM underlying22 rfl) (Qs 1 rfl (Za (Sn (Qs 1 rfl (Za (Zz (Zs ?_))))))))
  replace hO := (((((hO.Zc hU16).Zc hU17).Zh hU18).Zc hU19).Zc hU20).Zh hU21
  replace hb17 := ((hb17.Zc hU19).Zc hU20).Zh hU21
  refine ZS (fun mu ρ ds w' => ∃ (q : Nat) (lb : Bool) (aB : Option Addr) (nB : Nat) (cB : Nat) (xB : List Int) (g1 : Nat) (f1 : Nat) (Y : CV) (aR : Option Addr) (nR : Nat) (cR : Nat) (zR : List Int) (tR : Int), m - q = mu ∧ ds = [] ∧ Liv ρ [(0, .slice a m c), (1, .int .i64 q), (3, .int .i64 li), (11, .pointer (some ⟨B1, 0, none⟩)), (13, .pointer (some ⟨B2, 0, none⟩)), (14, .pointer (some ⟨B4, 0, none⟩)), (18, .pointer (some ⟨B17, 0, none⟩)), (19, .pointer (some ⟨B20, 0, none⟩)), (21, .int .i64 nT), (22, .bool (decide (lb = true)))] ∧ q ≤ m ∧ p ≤ q ∧ Byt xB ∧ nB ≤ 100000 ∧ nT ≤ nB ∧ okR Y ∧ Byt zR ∧ nR ≤ 134217728 ∧ 0 ≤ tR ∧ tR ≤ (q : Int) * 30000000000 ∧ ((f1 = 0 ∨ (g1 = gT ∧ 0 < fT) ∨ w21.heap.size ≤ g1) ∧ (f1 = 0 ∨ g1 < w'.heap.size)) ∧ (lb = true → (gb b (ZA b p).2.1).2 = (q, 0)) ∧ (¬ lb = true → (gb b (ZA b p).2.1).2 = (gb b q).2) ∧ Blk w' B1 [.slice aB nB cB, .int .i64 fr, .int .i64 e0] ∧ Own w' (fun g => (g = g1 ∧ 0 < f1)) 5 1 (.slice aB nB cB) nB (ints .u8 xB) ∧ Blk w' B17 (cxl Y) ∧ Cx w' (fun g => ((g < w.heap.size ∨ w18.heap.size ≤ g) ∧ g ≠ B20 ∧ g < w'.heap.size ∧ (g ≠ g1 ∨ f1 = 0))) Y ∧ Blk w' B20 [.int .i64 wn, .slice aR nR cR, .int .i64 tR] ∧ Sl w' (fun g => ((g < w.heap.size ∨ w18.heap.size ≤ g) ∧ g ≠ B20 ∧ g < w'.heap.size ∧ (g ≠ g1 ∨ f1 = 0))) 1 (.slice aR nR cR) nR (ints .u8 zR) ∧ Upd (fun g => (g = gT ∧ 0 < fT) ∨ g = B1 ∨ g = B17 ∨ g = B20 ∨ w21.heap.size ≤ g) w21 w') _ ⟨(ZA b p).2.1, false, aT, nT, cT, xT, gT, fT, (cz 1 4 8), a19, m19, c19, z19, 0, rfl, rfl, ⟨rfl, rfl, rfl, rfl, rfl, rfl, rfl, rfl, rfl, rfl, trivial⟩, (by omega), (by omega), hbT, (by omega), (by omega), ⟨by decide, by decide, by decide⟩, hz_19, (by omega), (by omega), (by omega), (by omega), (fun h => by cases h), (fun _ => rfl), hb1, (hO.weak (fun g hg => hg.1)), hb17, (Cx.nil _ _ _ _ _), hb20, ((((hO19.tight).Zc hU20).Zh hU21).weak), Upd.refl _ _⟩ ?_
  rintro m22 ρ22 ds22 w22 ⟨q, lb, aB, nB, cB, xB, g1, f1, Y, aR, nR, cR, zR, tR, rfl, rfl, hl22, hq, hpq, hbB, hnB, hnT, hYr, hbR, hnR, ht0, ht1, hgf, hga, hgb, hb1, hO, hb17, hC, hb20, hRg, hU22⟩
  obtain ⟨ρ22x, rfl⟩ : ∃ ρx, ρ22 = upds ρx [(0, .slice a m c), (1, .int .i64 q), (3, .int .i64 li), (11, .pointer (some ⟨B1, 0, none⟩)), (13, .pointer (some ⟨B2, 0, none⟩)), (14, .pointer (some ⟨B4, 0, none⟩)), (18, .pointer (some ⟨B17, 0, none⟩)), (19, .pointer (some ⟨B20, 0, none⟩)), (21, .int .i64 nT), (22, .bool (decide (lb = true)))] := ⟨_, ZD hl22⟩
  replace hs := (((((((((hs.Zc hU3).Zc hU4).Zh hU5).Zc hU11).Zc hU16).Zc hU17).Zh hU18).Zc hU19).Zc hU20).Zh hU21
  replace HU := (((((HU.Zb hU16).Zb hU17).Zr hU18).Zb hU19).Zb hU20).Zr hU21
  replace hb2 := (((((hb2.Zc hU16).Zc hU17).Zh hU18).Zc hU19).Zc hU20).Zh hU21
  replace hb4 := ((hb4.Zc hU19).Zc hU20).Zh hU21
  clear hl22
  have:=hU22.size
  have hl_hO := ZC hO.sl
  have hc_hO := hO.sl.cap.1
  have hl_hRg := ZC hRg
  have hc_hRg := hRg.cap.1
  have HL22 := hU22
  refine Sm (Qs 1 rfl (Zf (YX rfl) (Za ?_)))
  replace hs := hs.upd hU22
  replace HU := HU.trans hU22
  replace hb2 := hb2.upd hU22
  replace hb4 := hb4.upd hU22
  by_cases q6 : lb = true
  ·have hgl := hga q6
   rw [decide_eq_true q6]
   simp only [Bool.not_true, Bool.not_false]
   refine Cf (ZI (Sm (Zf (Zo underlying34 rfl sizeOf4 rfl rfl) (Zk isAgg4 rfl hb4 rfl (Za (W_if rfl (fun q7 => ?_) fun q7 => ?_))))))
   ·refine Sn (Qs 2 rfl (Zj (Zy rfl call28 rfl rfl) (rgetword_spec _ hs.any hb (by omega) (by omega)) ?_))
    rintro v w23 ⟨rfl, hU23⟩
    have:=hU23.size
    have hgwl := gword_props hb (p := q) (by omega)
    refine Qs 7 rfl (Za (Sm (Qs 3 rfl ?_)))
    replace HU := HU.Zb hU23
    replace hb2 := hb2.Zc hU23
    replace hb1 := hb1.Zc hU23
    replace hO := hO.Zc hU23
    by_cases q8 : ((ZE b q).2.2) = 0
    ·have hgi := YD (bs := b) q8
     rw [decide_eq_true q8]
     refine Gt (Qs 1 rfl (Gt (Zf (Zo underlying30 rfl sizeOf22 rfl rfl) (Gt (Zk isAgg22 rfl hb1 rfl (Gt (Qs 1 rfl (Gt (Zf (Ym (l' := nT) (n' := nB - nT) underlying22 sizeOf5 rfl rfl (by omega) (by omega) (by omega)) ?_)))))))))
     have hT24 := Sl.cutl (l := nT) (n := nB - nT) hO.sl (by omega) (by omega)
     have hl_hT24 := ZC hT24
     have hc_hT24 := hT24.cap.1
     refine Gt (Zj (Zv rfl call35 rfl) (wsum _ hT24.any (ZL hbB _) (by omega)) ?_)
     rintro v w25 ⟨y25, rfl, hy_25, hy2_25, hU25⟩
     have:=hU25.size
     refine Gt (Zf (ZZ underlying101 underlying32 rfl (mu32 _)) (Gt (Qs 1 rfl (Zf (Zx (v := .bool (decide (((ZE b q).1) ≠ (y25 % 4294967296)))) rfl rfl) (Za ?_)))))
     replace HU := HU.Zb hU25
     replace hb2 := hb2.Zc hU25
     replace hb1 := hb1.Zc hU25
     replace hO := hO.Zc hU25
     refine W_if rfl (fun q9 => ?_) fun q9 => ?_
     ·refine Zl (Qs 1 rfl (Za (Zl (Qs 3 rfl (Zf (Zo underlying30 rfl sizeOf3 rfl rfl) (Xc [.slice aB nB cB, .int .i64 fr, .int .i64 17] sizeOf3 rfl hb1 rfl rfl rfl rfl rfl ?_))))))
      intro w26 hU26 hzz26 hb1
      refine Za (Sm (Zf (Zo underlying30 rfl sizeOf3 rfl rfl) (Zk isAgg3 rfl hb1 rfl (Zf (v := .bool false) (YK (a := 17) (b := 0) rfl rfl) (Za (Cf (Zi (Zz (Yk (T := fun g => g = B2) rfl (l0 := tf 0 4) (by kernel_rfl) (Sq (Upd.refl _ _) rfl (Sv (Upd.refl _ _) rfl (fun w' hw' => Xt (cs := [.slice aB nB cB, .int .i64 fr, .int .i64 17]) isAgg30 sizeOf30 rfl (hb1.Zh hw') rfl rfl) (Sq (Upd.refl _ _) rfl ?_))))))))))))
      intro w27 hU27
      have:=hU27.size
      refine Wo 3 (tf 4 4) rfl ?_
      have hW : Upd No w26 w27 := hU27
      replace hb2 := (hb2.Zh hU26).Zc hU27
      refine Xa sizeOf30 rfl rfl rfl rfl hb2 rfl ?_
      intro w28 hU28 hzz28 hb2
      refine Za ?_
      intro w29 hS29
      refine bT (Upd No w29) ?_
      have hU29 := hS29.upd
      have:=hU29.size
      try replace hW := hW.Zb hU29
      exact Wd (Zn (Zg rfl (rm_tc results15 rfl rfl (Zu isAgg30 sizeOf30 rfl (hb2.Zc hU29))) ⟨_, rfl, ((ZE b q).2.1), aB, nB, cB, xB, fr, 17, g1, f1, rfl, (((((hO.Zh hU26).Zc hU27).Zh hU28).Zc hU29).weak (fun g hg => by have h3 : (g = g1 ∧ 0 < f1) := hg; show g = g1 ∧ 0 < f1; omega)), hbB, (by omega), (by omega), (by omega), (by omega), (by omega), (by omega), (fun h => absurd h (by decide)), ((((HU.Zr hU26).Zb hU27).Zr hU28).Zb hU29)⟩))
     refine Zi (Zl (Qs 3 rfl (Zf (Zo underlying30 rfl sizeOf3 rfl rfl) (Xc [.slice aB nB cB, .int .i64 fr, .int .i64 ((ZE b q).2.2)] sizeOf3 rfl hb1 rfl rfl rfl rfl rfl ?_))))
     intro w30 hU30 hzz30 hb1
     refine Za (Sm (Zf (Zo underlying30 rfl sizeOf3 rfl rfl) (Zk isAgg3 rfl hb1 rfl (Qs 1 rfl (Za ?_)))))
     have q10 : ((ZE b q).2.2) = 0 := q8
     have hgi := YD (bs := b) q10
     rw [decide_eq_true q10]
     refine Ct (Zl (Zf (Zo underlying30 rfl sizeOf3 rfl rfl) (Zk isAgg3 rfl hb1 rfl (Xd rfl rfl (Zf (Zo underlying30 rfl sizeOf3 rfl rfl) (Xc [.slice aB nB cB, .int .i64 (fr + 1), .int .i64 ((ZE b q).2.2)] sizeOf3 rfl hb1 rfl rfl rfl rfl rfl ?_))))))
     intro w31 hU31 hzz31 hb1
     refine Za (Zz (Yk (T := fun g => g = B2) rfl (l0 := tf 0 4) (by kernel_rfl) (Sq (Upd.refl _ _) rfl (Sv (Upd.refl _ _) rfl (fun w' hw' => Xt (cs := [.slice aB nB cB, .int .i64 (fr + 1), .int .i64 ((ZE b q).2.2)]) isAgg30 sizeOf30 rfl (hb1.Zh hw') rfl rfl) (Sq (Upd.refl _ _) rfl ?_)))))
     intro w32 hU32
     have:=hU32.size
     refine Wo 3 (tf 4 4) rfl ?_
     have hW : Upd No w31 w32 := hU32
     replace hb2 := ((hb2.Zh hU30).Zh hU31).Zc hU32
     refine Xa sizeOf30 rfl rfl rfl rfl hb2 rfl ?_
     intro w33 hU33 hzz33 hb2
     refine Za ?_
     intro w34 hS34
     refine bT (Upd No w34) ?_
     have hU34 := hS34.upd
     have:=hU34.size
     try replace hW := hW.Zb hU34
     exact Wd (Zn (Zg rfl (rm_tc results15 rfl rfl (Zu isAgg30 sizeOf30 rfl (hb2.Zc hU34))) ⟨_, rfl, ((ZE b q).2.1), aB, nB, cB, xB, (fr + 1), (ZE b q).2.2, g1, f1, rfl, ((((((hO.Zh hU30).Zh hU31).Zc hU32).Zh hU33).Zc hU34).weak (fun g hg => by have h3 : (g = g1 ∧ 0 < f1) := hg; show g = g1 ∧ 0 < f1; omega)), hbB, (by omega), (by omega), (by omega), (by omega), (by omega), (by omega), (fun _ => gp_wsum hm1 q3 hgl q7 q10), (((((HU.Zr hU30).Zr hU31).Zb hU32).Zr hU33).Zb hU34)⟩))
    rw [decide_eq_false q8]
    refine Gf (Gf (Gf (Gf (Gf (Gf (Gf (Gf (Zf (Zw (v := .bool false) rfl rfl) (Za (Cf (Zi (Zl (Qs 3 rfl (Zf (Zo underlying30 rfl sizeOf3 rfl rfl) (Xc [.slice aB nB cB, .int .i64 fr, .int .i64 ((ZE b q).2.2)] sizeOf3 rfl hb1 rfl rfl rfl rfl rfl ?_)))))))))))))))
    intro w35 hU35 hzz35 hb1
    refine Za (Sm (Zf (Zo underlying30 rfl sizeOf3 rfl rfl) (Zk isAgg3 rfl hb1 rfl (Qs 1 rfl (Za ?_)))))
    have q11 : ¬ (((ZE b q).2.2) = 0) := q8
    rw [decide_eq_false q11]
    refine Cf (Zi (Zz (Yk (T := fun g => g = B2) rfl (l0 := tf 0 4) (by kernel_rfl) (Sq (Upd.refl _ _) rfl (Sv (Upd.refl _ _) rfl (fun w' hw' => Xt (cs := [.slice aB nB cB, .int .i64 fr, .int .i64 ((ZE b q).2.2)]) isAgg30 sizeOf30 rfl (hb1.Zh hw') rfl rfl) (Sq (Upd.refl _ _) rfl ?_))))))
    intro w36 hU36
    have:=hU36.size
    refine Wo 3 (tf 4 4) rfl ?_
    have hW : Upd No w35 w36 := hU36
    replace hb2 := (hb2.Zh hU35).Zc hU36
    refine Xa sizeOf30 rfl rfl rfl rfl hb2 rfl ?_
    intro w37 hU37 hzz37 hb2
    refine Za ?_
    intro w38 hS38
    refine bT (Upd No w38) ?_
    have hU38 := hS38.upd
    have:=hU38.size
    try replace hW := hW.Zb hU38
    exact Wd (Zn (Zg rfl (rm_tc results15 rfl rfl (Zu isAgg30 sizeOf30 rfl (hb2.Zc hU38))) ⟨_, rfl, ((ZE b q).2.1), aB, nB, cB, xB, fr, (ZE b q).2.2, g1, f1, rfl, (((((hO.Zh hU35).Zc hU36).Zh hU37).Zc hU38).weak (fun g hg => by have h3 : (g = g1 ∧ 0 < f1) := hg; show g = g1 ∧ 0 < f1; omega)), hbB, (by omega), (by omega), (by omega), (by omega), (by omega), (by omega), (fun h => absurd h q11), ((((HU.Zr hU35).Zb hU36).Zr hU37).Zb hU38)⟩))
   refine Zi (Sm (Zf (Zo underlying30 rfl sizeOf3 rfl rfl) (Zk isAgg3 rfl hb1 rfl (Qs 1 rfl (Za ?_)))))
   have q12 : e0 = 0 := he0
   rw [decide_eq_true q12]
   refine Ct (Zl (Zf (Zo underlying30 rfl sizeOf3 rfl rfl) (Zk isAgg3 rfl hb1 rfl (Xd rfl rfl (Zf (Zo underlying30 rfl sizeOf3 rfl rfl) (Xc [.slice aB nB cB, .int .i64 (fr + 1), .int .i64 e0] sizeOf3 rfl hb1 rfl rfl rfl rfl rfl ?_))))))
   intro w39 hU39 hzz39 hb1
   refine Za (Zz (Yk (T := fun g => g = B2) rfl (l0 := tf 0 4) (by kernel_rfl) (Sq (Upd.refl _ _) rfl (Sv (Upd.refl _ _) rfl (fun w' hw' => Xt (cs := [.slice aB nB cB, .int .i64 (fr + 1), .int .i64 e0]) isAgg30 sizeOf30 rfl (hb1.Zh hw') rfl rfl) (Sq (Upd.refl _ _) rfl ?_)))))
   intro w40 hU40
   have:=hU40.size
   refine Wo 3 (tf 4 4) rfl ?_
   have hW : Upd No w39 w40 := hU40
   replace hb2 := (hb2.Zh hU39).Zc hU40
   refine Xa sizeOf30 rfl rfl rfl rfl hb2 rfl ?_
   intro w41 hU41 hzz41 hb2
   refine Za ?_
   intro w42 hS42
   refine bT (Upd No w42) ?_
   have hU42 := hS42.upd
   have:=hU42.size
   try replace hW := hW.Zb hU42
   exact Wd (Zn (Zg rfl (rm_tc results15 rfl rfl (Zu isAgg30 sizeOf30 rfl (hb2.Zc hU42))) ⟨_, rfl, q, aB, nB, cB, xB, (fr + 1), e0, g1, f1, rfl, (((((hO.Zh hU39).Zc hU40).Zh hU41).Zc hU42).weak (fun g hg => by have h3 : (g = g1 ∧ 0 < f1) := hg; show g = g1 ∧ 0 < f1; omega)), hbB, (by omega), (by omega), (by omega), (by omega), (by omega), (by omega), (fun _ => gp_nosum hm1 q3 hgl q7), ((((HU.Zr hU39).Zb hU40).Zr hU41).Zb hU42)⟩))
  have hlb := q6
  rw [decide_eq_false q6]
  simp only [Bool.not_true, Bool.not_false]
  refine Ct (Zi (Zs (Sn (Qs 2 rfl (Xq (cxl Y) isAgg56 sizeOf56 rfl hb17 rfl rfl (Xl isAgg95 sizeOf95 rfl hb20 rfl (Zf (Zo underlying34 rfl sizeOf3 rfl rfl) (Zk isAgg3 rfl hb4 rfl (Zj (r_call5 rfl call34 rfl rfl rfl rfl rfl) (wblock (b := b) (X := Y) (m := m) _ ((hs.weak (R' := (fun g => ((g < w.heap.size ∨ w18.heap.size ≤ g) ∧ g ≠ B20 ∧ g < w22.heap.size ∧ (g ≠ g1 ∨ f1 = 0)))) (by intro g hg; have h3 : (((g < w.heap.size ∧ (g ≠ gT ∨ fT = 0))) ∧ g < w.heap.size) := hg; show ((g < w.heap.size ∨ w18.heap.size ≤ g) ∧ g ≠ B20 ∧ g < w22.heap.size ∧ (g ≠ g1 ∨ f1 = 0)); omega))) hb (by omega) (hC.weak (R' := (fun g => ((g < w.heap.size ∨ w18.heap.size ≤ g) ∧ g ≠ B20 ∧ g < w22.heap.size ∧ (g ≠ g1 ∨ f1 = 0)))) (by intro g hg; have h3 : ((g < w.heap.size ∨ w18.heap.size ≤ g) ∧ g ≠ B20 ∧ g < w22.heap.size ∧ (g ≠ g1 ∨ f1 = 0)) := hg; show ((g < w.heap.size ∨ w18.heap.size ≤ g) ∧ g ≠ B20 ∧ g < w22.heap.size ∧ (g ≠ g1 ∨ f1 = 0)); omega)) hYr ((hRg.weak (R' := (fun g => ((g < w.heap.size ∨ w18.heap.size ≤ g) ∧ g ≠ B20 ∧ g < w22.heap.size ∧ (g ≠ g1 ∨ f1 = 0)))) (by intro g hg; have h3 : ((g < w.heap.size ∨ w18.heap.size ≤ g) ∧ g ≠ B20 ∧ g < w22.heap.size ∧ (g ≠ g1 ∨ f1 = 0)) := hg; show ((g < w.heap.size ∨ w18.heap.size ≤ g) ∧ g ≠ B20 ∧ g < w22.heap.size ∧ (g ≠ g1 ∨ f1 = 0)); omega))) hbR (by omega) (by omega) (by omega) (by omega) ⟨by omega, by omega⟩) ?_)))))))))
  rintro v w43 ⟨xa43, xm43, xc43, xs43, la43, Y43, sy43, ya43, ym43, yc43, ys43, ty43, nx43, e43, rfl, hB43, hC43, hO43, hx_43, hxm_43, hY_43, hy_43, hym_43, ht0_43, ht1_43, he_43, hU43⟩
  have:=hU43.size
  have hl_hB43 := ZC hB43
  have hc_hB43 := hB43.cap.1
  have hl_hO43 := ZC hO43
  have hc_hO43 := hO43.cap.1
  have hke := he_43
  have hkY := hY_43
  refine ZB zeroValue99 rfl ?_
  intro B44 w44 hB44 hU44 hzz44 hb44
  refine Xa sizeOf99 rfl rfl rfl rfl hb44 rfl ?_
  intro w45 hU45 hzz45 hb44
  refine Za (Sn (Zf (Zo underlying30 rfl sizeOf22 rfl rfl) ?_))
  replace hb1 := ((hb1.Zc hU43).Zc hU44).Zh hU45
  refine Zk isAgg22 rfl hb1 rfl (Zf (ZM underlying22 rfl) (Zf (Zo underlying99 rfl sizeOf22 rfl rfl) (Zk isAgg22 rfl hb44 rfl (Zf (ZM underlying22 rfl) (Xd rfl rfl (Qs 1 rfl (Xs rfl rfl (Qs 1 rfl (Za (Zz (Zs (Sn (Zf (Zo underlying99 rfl sizeOf3 rfl rfl) (Zk isAgg3 rfl hb44 rfl (Qs 2 rfl (Za ?_))))))))))))))))
  replace HU := ((HU.Zb hU43).Zb hU44).Zr hU45
  replace hb2 := ((hb2.Zc hU43).Zc hU44).Zh hU45
  replace hO := ((hO.Zc hU43).Zc hU44).Zh hU45
  refine W_if rfl (fun q13 => ?_) fun q13 => ?_
  ·refine Zl (Zf (Zo underlying99 rfl sizeOf3 rfl rfl) (Zk isAgg3 rfl hb44 rfl (Zf (Zo underlying30 rfl sizeOf3 rfl rfl) (Xc [.slice aB nB cB, .int .i64 fr, .int .i64 e43] sizeOf3 rfl hb1 rfl rfl rfl rfl rfl ?_))))
   intro w46 hU46 hzz46 hb1
   refine Za (Sm (Zf (Zo underlying30 rfl sizeOf3 rfl rfl) (Zk isAgg3 rfl hb1 rfl (Qs 1 rfl (Za ?_)))))
   have q14 : e43 ≠ 0 := q13
   rw [decide_eq_true q14]
   refine Ct (Zz (Yk (T := fun g => g = B2) rfl (l0 := tf 0 4) (by kernel_rfl) (Sq (Upd.refl _ _) rfl (Sv (Upd.refl _ _) rfl (fun w' hw' => Xt (cs := [.slice aB nB cB, .int .i64 fr, .int .i64 e43]) isAgg30 sizeOf30 rfl (hb1.Zh hw') rfl rfl) (Sq (Upd.refl _ _) rfl ?_)))))
   intro w47 hU47
   have:=hU47.size
   refine Wo 3 (tf 4 4) rfl ?_
   have hW : Upd No w46 w47 := hU47
   replace hb2 := (hb2.Zh hU46).Zc hU47
   refine Xa sizeOf30 rfl rfl rfl rfl hb2 rfl ?_
   intro w48 hU48 hzz48 hb2
   refine Za ?_
   intro w49 hS49
   refine bT (Upd No w49) ?_
   have hU49 := hS49.upd
   have:=hU49.size
   try replace hW := hW.Zb hU49
   exact Wd (Zn (Zg rfl (rm_tc results15 rfl rfl (Zu isAgg30 sizeOf30 rfl (hb2.Zc hU49))) ⟨_, rfl, q, aB, nB, cB, xB, fr, e43, g1, f1, rfl, (((((hO.Zh hU46).Zc hU47).Zh hU48).Zc hU49).weak (fun g hg => by have h3 : (g = g1 ∧ 0 < f1) := hg; show g = g1 ∧ 0 < f1; omega)), hbB, (by omega), (by omega), (by omega), (by omega), (by omega), (by omega), (fun h => absurd h q14), ((((HU.Zr hU46).Zb hU47).Zr hU48).Zb hU49)⟩))
  refine Sn (Zf (Zo underlying34 rfl sizeOf3 rfl rfl) ?_)
  replace hb4 := ((hb4.Zc hU43).Zc hU44).Zh hU45
  refine Zk isAgg3 rfl hb4 rfl (Qs 2 rfl ?_)
  replace hb17 := ((hb17.Zc hU43).Zc hU44).Zh hU45
  replace hb20 := ((hb20.Zc hU43).Zc hU44).Zh hU45
  replace HL22 := ((HL22.Zb hU43).Zb hU44).Zr hU45
  replace hB43 := ((hB43.tight).Zc hU44).Zh hU45
  replace hC43 := ((hC43.tight).Zc hU44).Zh hU45
  replace hO43 := ((hO43.tight).Zc hU44).Zh hU45
  by_cases q15 : 0 ≤ ((ZA b p).1.2.1)
  ·rw [decide_eq_true q15]
   refine Gt (Qs 1 rfl (Gt (Zf (Zo underlying34 rfl sizeOf3 rfl rfl) (Gt (Zk isAgg3 rfl hb4 rfl (Gt (Qs 1 rfl (Gt (Qs 1 rfl ?_)))))))))
   by_cases q16 : ((ZA b p).1.2.1) < (((nB : Int) + (xm43 : Int)) - (nT : Int))
   ·rw [decide_eq_true q16]
    refine Gf (Gf (Gf (Z6 rfl (Z6 rfl (Z6 rfl (Z6 rfl (Gf (Gt (Zf (Zx (v := .bool true) rfl rfl) (Zf (Zx (v := .bool true) rfl rfl) (Qs 1 rfl (Za (Ct (Zl (Zf (Zo underlying30 rfl sizeOf3 rfl rfl) (Xc [.slice aB nB cB, .int .i64 fr, .int .i64 16] sizeOf3 rfl hb1 rfl rfl rfl rfl rfl ?_))))))))))))))))
    intro w50 hU50 hzz50 hb1
    refine Za (Sm (Zf (Zo underlying30 rfl sizeOf3 rfl rfl) (Zk isAgg3 rfl hb1 rfl (Zf (v := .bool true) (Yh (a := 16) (b := 0) rfl rfl) (Za (Ct (Zz (Yk (T := fun g => g = B2) rfl (l0 := tf 0 4) (by kernel_rfl) (Sq (Upd.refl _ _) rfl (Sv (Upd.refl _ _) rfl (fun w' hw' => Xt (cs := [.slice aB nB cB, .int .i64 fr, .int .i64 16]) isAgg30 sizeOf30 rfl (hb1.Zh hw') rfl rfl) (Sq (Upd.refl _ _) rfl ?_)))))))))))
    intro w51 hU51
    have:=hU51.size
    refine Wo 3 (tf 4 4) rfl ?_
    have hW : Upd No w50 w51 := hU51
    replace hb2 := (hb2.Zh hU50).Zc hU51
    refine Xa sizeOf30 rfl rfl rfl rfl hb2 rfl ?_
    intro w52 hU52 hzz52 hb2
    refine Za ?_
    intro w53 hS53
    refine bT (Upd No w53) ?_
    have hU53 := hS53.upd
    have:=hU53.size
    try replace hW := hW.Zb hU53
    exact Wd (Zn (Zg rfl (rm_tc results15 rfl rfl (Zu isAgg30 sizeOf30 rfl (hb2.Zc hU53))) ⟨_, rfl, q, aB, nB, cB, xB, fr, 16, g1, f1, rfl, (((((hO.Zh hU50).Zc hU51).Zh hU52).Zc hU53).weak (fun g hg => by have h3 : (g = g1 ∧ 0 < f1) := hg; show g = g1 ∧ 0 < f1; omega)), hbB, (by omega), (by omega), (by omega), (by omega), (by omega), (by omega), (fun h => absurd h (by decide)), ((((HU.Zr hU50).Zb hU51).Zr hU52).Zb hU53)⟩))
   rw [decide_eq_false q16]
   refine Gt (Zf (Zo underlying99 rfl sizeOf4 rfl rfl) (Gt (Zk isAgg4 rfl hb44 rfl (Gt (Qs 1 rfl ?_)))))
   by_cases q17 : la43 = true
   ·rw [decide_eq_true q17]
    refine Gt (Qs 1 rfl (Gt (Zf (Zo underlying34 rfl sizeOf3 rfl rfl) (Gt (Zk isAgg3 rfl hb4 rfl (Gt (Qs 1 rfl (Gt (Zf (Zx (v := .bool (decide ((((nB : Int) + (xm43 : Int)) - (nT : Int)) < ((ZA b p).1.2.1)))) rfl rfl) (Gt (Zf (Zw (v := .bool (decide ((((nB : Int) + (xm43 : Int)) - (nT : Int)) < ((ZA b p).1.2.1)))) rfl rfl) (Zf (Zx (v := .bool (decide ((((nB : Int) + (xm43 : Int)) - (nT : Int)) < ((ZA b p).1.2.1)))) rfl rfl) (Qs 1 rfl (Za (W_if rfl (fun q18 => ?_) fun q18 => ?_)))))))))))))))
    ·refine Zl (Zf (Zo underlying30 rfl sizeOf3 rfl rfl) (Xc [.slice aB nB cB, .int .i64 fr, .int .i64 16] sizeOf3 rfl hb1 rfl rfl rfl rfl rfl ?_))
     intro w54 hU54 hzz54 hb1
     refine Za (Sm (Zf (Zo underlying30 rfl sizeOf3 rfl rfl) (Zk isAgg3 rfl hb1 rfl (Zf (v := .bool true) (Yh (a := 16) (b := 0) rfl rfl) (Za (Ct (Zz (Yk (T := fun g => g = B2) rfl (l0 := tf 0 4) (by kernel_rfl) (Sq (Upd.refl _ _) rfl (Sv (Upd.refl _ _) rfl (fun w' hw' => Xt (cs := [.slice aB nB cB, .int .i64 fr, .int .i64 16]) isAgg30 sizeOf30 rfl (hb1.Zh hw') rfl rfl) (Sq (Upd.refl _ _) rfl ?_)))))))))))
     intro w55 hU55
     have:=hU55.size
     refine Wo 3 (tf 4 4) rfl ?_
     have hW : Upd No w54 w55 := hU55
     replace hb2 := (hb2.Zh hU54).Zc hU55
     refine Xa sizeOf30 rfl rfl rfl rfl hb2 rfl ?_
     intro w56 hU56 hzz56 hb2
     refine Za ?_
     intro w57 hS57
     refine bT (Upd No w57) ?_
     have hU57 := hS57.upd
     have:=hU57.size
     try replace hW := hW.Zb hU57
     exact Wd (Zn (Zg rfl (rm_tc results15 rfl rfl (Zu isAgg30 sizeOf30 rfl (hb2.Zc hU57))) ⟨_, rfl, q, aB, nB, cB, xB, fr, 16, g1, f1, rfl, (((((hO.Zh hU54).Zc hU55).Zh hU56).Zc hU57).weak (fun g hg => by have h3 : (g = g1 ∧ 0 < f1) := hg; show g = g1 ∧ 0 < f1; omega)), hbB, (by omega), (by omega), (by omega), (by omega), (by omega), (by omega), (fun h => absurd h (by decide)), ((((HU.Zr hU54).Zb hU55).Zr hU56).Zb hU57)⟩))
    refine Sn (Zf (Zo underlying30 rfl sizeOf22 rfl rfl) (Zk isAgg22 rfl hb1 rfl (Zf (ZM underlying22 rfl) (Zf (Zo underlying99 rfl sizeOf22 rfl rfl) (Zk isAgg22 rfl hb44 rfl (Zf (ZM underlying22 rfl) (Xd rfl rfl (Qs 3 rfl (Za (W_if rfl (fun q19 => ?_) fun q19 => ?_))))))))))
    ·refine Zl (Zf (Zo underlying30 rfl sizeOf3 rfl rfl) (Xc [.slice aB nB cB, .int .i64 fr, .int .i64 18] sizeOf3 rfl hb1 rfl rfl rfl rfl rfl ?_))
     intro w58 hU58 hzz58 hb1
     refine Za (Sm (Zf (Zo underlying30 rfl sizeOf3 rfl rfl) (Zk isAgg3 rfl hb1 rfl (Zf (v := .bool true) (Yh (a := 18) (b := 0) rfl rfl) (Za (Ct (Zz (Yk (T := fun g => g = B2) rfl (l0 := tf 0 4) (by kernel_rfl) (Sq (Upd.refl _ _) rfl (Sv (Upd.refl _ _) rfl (fun w' hw' => Xt (cs := [.slice aB nB cB, .int .i64 fr, .int .i64 18]) isAgg30 sizeOf30 rfl (hb1.Zh hw') rfl rfl) (Sq (Upd.refl _ _) rfl ?_)))))))))))
     intro w59 hU59
     have:=hU59.size
     refine Wo 3 (tf 4 4) rfl ?_
     have hW : Upd No w58 w59 := hU59
     replace hb2 := (hb2.Zh hU58).Zc hU59
     refine Xa sizeOf30 rfl rfl rfl rfl hb2 rfl ?_
     intro w60 hU60 hzz60 hb2
     refine Za ?_
     intro w61 hS61
     refine bT (Upd No w61) ?_
     have hU61 := hS61.upd
     have:=hU61.size
     try replace hW := hW.Zb hU61
     exact Wd (Zn (Zg rfl (rm_tc results15 rfl rfl (Zu isAgg30 sizeOf30 rfl (hb2.Zc hU61))) ⟨_, rfl, q, aB, nB, cB, xB, fr, 18, g1, f1, rfl, (((((hO.Zh hU58).Zc hU59).Zh hU60).Zc hU61).weak (fun g hg => by have h3 : (g = g1 ∧ 0 < f1) := hg; show g = g1 ∧ 0 < f1; omega)), hbB, (by omega), (by omega), (by omega), (by omega), (by omega), (by omega), (fun h => absurd h (by decide)), ((((HU.Zr hU58).Zb hU59).Zr hU60).Zb hU61)⟩))
    refine Zi (Sm (Zf (Zo underlying30 rfl sizeOf3 rfl rfl) (Zk isAgg3 rfl hb1 rfl (Qs 1 rfl (Za ?_)))))
    have q20 : ¬ (e0 ≠ 0) := (fun h => h he0)
    rw [decide_eq_false q20]
    refine Cf (Zi (Sn (Zf (Zo underlying30 rfl sizeOf22 rfl rfl) (Zk isAgg22 rfl hb1 rfl (Zf (Zo underlying99 rfl sizeOf22 rfl rfl) (Zk isAgg22 rfl hb44 rfl (Z1 (xs := xB) (ys := xs43) (zs := xB ++ xs43) (k' := .u8) (tot := nB + xm43) (by first | rfl | exact (ZR _ _).symm | simp) underlying22 (ti := Tryz.t5) (z := .int .u8 0) (sz := 1) (by' := 1) rfl rfl rfl rfl rfl (by decide) rfl hO rfl hB43  (by omega) (by simp only [maxLen]; omega) (by omega) ?_)))))))
    intro a62 c62 w62 hU62 hzz62 hO62
    clear hO
    have:=hU62.size
    replace hO62 := hO62.tight
    have hl_hO62 := ZC hO62.sl
    have hc_hO62 := hO62.sl.cap.1
    obtain ⟨gf63, ff63, hfl63, hOf63⟩ := hO62.flag
    replace hfl63 : ff63 = 0 ∨ (ff63 = 1 ∧ ((((((gf63 = g1 ∧ 0 < f1)) ∨ gf63 = w45.heap.size)) ∧ gf63 < w62.heap.size)) ∧ gf63 < w62.heap.size) := hfl63
    replace hb1 := hb1.upd hU62
    replace hb17 := hb17.upd hU62
    replace hb20 := hb20.upd hU62
    replace HL22 := HL22.trans hU62
    replace hC43 := hC43.upd hU62
    replace hO43 := hO43.upd hU62
    replace hb44 := hb44.upd hU62
    clear hO62
    refine Zf (Zo underlying30 rfl sizeOf22 rfl rfl) (Xc [.slice a62 (nB + xm43) c62, .int .i64 fr, .int .i64 e0] sizeOf22 rfl hb1 rfl rfl rfl rfl rfl ?_)
    intro w64 hU64 hzz64 hb1
    refine Za (Yk (T := fun g => g = B17 ∨ g = B20) rfl (l0 := tf 0 12) (by kernel_rfl) (Sv (Upd.refl _ _) rfl (fun _ _ => Zo underlying99 rfl sizeOf56 rfl rfl) ?_))
    replace hb44 := hb44.Zh hU64
    refine Sv (Upd.refl _ _) rfl (fun w' hw' => Xt (cs := (cxl Y43)) isAgg56 sizeOf56 rfl (hb44.upd hw') rfl rfl) (Sv (Upd.refl _ _) rfl (fun _ _ => Zo underlying99 rfl sizeOf95 rfl rfl) (Sv (Upd.refl _ _) rfl (fun w' hw' => Xt (cs := [.int .i64 sy43, .slice ya43 ym43 yc43, .int .i64 ty43]) isAgg95 sizeOf95 rfl (hb44.upd hw') rfl rfl) (Sv (Upd.refl _ _) rfl (fun _ _ => Zo underlying99 rfl sizeOf3 rfl rfl) (Sv (Upd.refl _ _) rfl (v := .int .i64 nx43) (fun w' hw' => Yd isAgg3 rfl (by rw [(hb44.upd hw').cell]; rfl)) (Sv (Upd.refl _ _) rfl (fun _ _ => Zo underlying99 rfl sizeOf4 rfl rfl) (Sv (Upd.refl _ _) rfl (v := .bool (decide (la43 = true))) (fun w' hw' => Yd isAgg4 rfl (by rw [(hb44.upd hw').cell]; rfl)) ?_))))))
    intro w65 hU65
    have:=hU65.size
    refine Wo 8 (tf 9 12) rfl ?_
    have hW : Upd (fun g => g = B17 ∨ g = B20) w64 w64 := (Upd.refl _ _)
    replace hb17 := (hb17.Zh hU64).Zc hU65
    refine Xa sizeOf56 rfl rfl rfl rfl hb17 rfl ?_
    intro w66 hU66 hzz66 hb17
    refine Za ?_
    intro w67 hS67
    replace hW := (hW.Zb hU65).Zr hU66
    have hX67 : Upd _ w64 w67 := hW.Zb hS67.upd
    refine bF hX67 ?_
    have hU67 := hS67.upd
    have:=hU67.size
    refine Z8 ?_
    intro w68 hU68
    have:=hU68.size
    refine Wo 9 (tf 10 12) rfl ?_
    have hW : Upd (fun g => g = B17 ∨ g = B20) w64 w67 := hX67
    replace hb20 := ((((hb20.Zh hU64).Zc hU65).Zh hU66).Zc hU67).Zc hU68
    refine Xa sizeOf95 rfl rfl rfl rfl hb20 rfl ?_
    intro w69 hU69 hzz69 hb20
    refine Za ?_
    intro w70 hS70
    have hX70 : Upd _ w64 w70 := ((hW.Zb hU68).Zr hU69).Zb hS70.upd
    refine bF hX70 ?_
    have hU70 := hS70.upd
    have:=hU70.size
    refine Z8 (Sq hX70 rfl (Sq hX70 rfl ?_))
    intro w71 hU71
    have:=hU71.size
    refine Wd ?_
    have hee := hke (Classical.not_not.1 q13)
    have hbe := hee.1
    have hla := hee.2.1
    have hnx := hee.2.2
    have hbx := bnx_le hbe
    have hkY1 := hkY (Classical.not_not.1 q13)
    have hky2 := hkY1.2
    refine ⟨_, ?_, nx43, la43, a62, (nB + xm43), c62, (xB ++ xs43), gf63, ff63, Y43, ya43, ym43, yc43, ys43, ty43, rfl, rfl, ⟨rfl, rfl, rfl, rfl, rfl, rfl, rfl, rfl, rfl, rfl, trivial⟩, (by omega), (by omega), (Yq hbB hx_43), (by omega), (by omega), hkY1.1, hy_43, (by omega), (by omega), (by omega), (by omega), (fun hl => by rw [hnx]; exact gb_snd_last (hgb hlb) hbe (by rw [← hla]; exact hl)), (fun hl => by rw [hnx]; exact gb_snd_more (hgb hlb) hbe (by rw [← hla]; exact hl)), (((((((hb1.Zc hU65).Zh hU66).Zc hU67).Zc hU68).Zh hU69).Zc hU70).Zc hU71), ((((((((hOf63.Zh hU64).Zc hU65).Zh hU66).Zc hU67).Zc hU68).Zh hU69).Zc hU70).Zc hU71), (((((hb17.Zc hU67).Zc hU68).Zh hU69).Zc hU70).Zc hU71), (((((((((hC43.Zh hU64).Zc hU65).Zh hU66).Zc hU67).Zc hU68).Zh hU69).Zc hU70).Zc hU71).weak), (hky2 ▸ ((hb20.Zc hU70).Zc hU71)), (((((((((hO43.Zh hU64).Zc hU65).Zh hU66).Zc hU67).Zc hU68).Zh hU69).Zc hU70).Zc hU71).weak), ((((((((HL22.Zr hU64).Zb hU65).Zr hU66).Zb hU67).Zb hU68).Zr hU69).Zb hU70).Zb hU71)⟩
    omega
   rw [decide_eq_false q17]
   refine Gf (Gf (Gf (Gf (Gt (Zf (Zw (v := .bool false) rfl rfl) (Gt (Zf (Zw (v := .bool false) rfl rfl) (Zf (Zx (v := .bool false) rfl rfl) (Qs 1 rfl (Za (Cf (Sn (Zf (Zo underlying30 rfl sizeOf22 rfl rfl) (Zk isAgg22 rfl hb1 rfl (Zf (ZM underlying22 rfl) (Zf (Zo underlying99 rfl sizeOf22 rfl rfl) (Zk isAgg22 rfl hb44 rfl (Zf (ZM underlying22 rfl) (Xd rfl rfl (Qs 3 rfl (Za (W_if rfl (fun q21 => ?_) fun q21 => ?_))))))))))))))))))))))
   ·refine Zl (Zf (Zo underlying30 rfl sizeOf3 rfl rfl) (Xc [.slice aB nB cB, .int .i64 fr, .int .i64 18] sizeOf3 rfl hb1 rfl rfl rfl rfl rfl ?_))
    intro w72 hU72 hzz72 hb1
    refine Za (Sm (Zf (Zo underlying30 rfl sizeOf3 rfl rfl) (Zk isAgg3 rfl hb1 rfl (Zf (v := .bool true) (Yh (a := 18) (b := 0) rfl rfl) (Za (Ct (Zz (Yk (T := fun g => g = B2) rfl (l0 := tf 0 4) (by kernel_rfl) (Sq (Upd.refl _ _) rfl (Sv (Upd.refl _ _) rfl (fun w' hw' => Xt (cs := [.slice aB nB cB, .int .i64 fr, .int .i64 18]) isAgg30 sizeOf30 rfl (hb1.Zh hw') rfl rfl) (Sq (Upd.refl _ _) rfl ?_)))))))))))
    intro w73 hU73
    have:=hU73.size
    refine Wo 3 (tf 4 4) rfl ?_
    have hW : Upd No w72 w73 := hU73
    replace hb2 := (hb2.Zh hU72).Zc hU73
    refine Xa sizeOf30 rfl rfl rfl rfl hb2 rfl ?_
    intro w74 hU74 hzz74 hb2
    refine Za ?_
    intro w75 hS75
    refine bT (Upd No w75) ?_
    have hU75 := hS75.upd
    have:=hU75.size
    try replace hW := hW.Zb hU75
    exact Wd (Zn (Zg rfl (rm_tc results15 rfl rfl (Zu isAgg30 sizeOf30 rfl (hb2.Zc hU75))) ⟨_, rfl, q, aB, nB, cB, xB, fr, 18, g1, f1, rfl, (((((hO.Zh hU72).Zc hU73).Zh hU74).Zc hU75).weak (fun g hg => by have h3 : (g = g1 ∧ 0 < f1) := hg; show g = g1 ∧ 0 < f1; omega)), hbB, (by omega), (by omega), (by omega), (by omega), (by omega), (by omega), (fun h => absurd h (by decide)), ((((HU.Zr hU72).Zb hU73).Zr hU74).Zb hU75)⟩))
   refine Zi (Sm (Zf (Zo underlying30 rfl sizeOf3 rfl rfl) (Zk isAgg3 rfl hb1 rfl (Qs 1 rfl (Za ?_)))))
   have q22 : ¬ (e0 ≠ 0) := (fun h => h he0)
   rw [decide_eq_false q22]
   refine Cf (Zi (Sn (Zf (Zo underlying30 rfl sizeOf22 rfl rfl) (Zk isAgg22 rfl hb1 rfl (Zf (Zo underlying99 rfl sizeOf22 rfl rfl) (Zk isAgg22 rfl hb44 rfl (Z1 (xs := xB) (ys := xs43) (zs := xB ++ xs43) (k' := .u8) (tot := nB + xm43) (by first | rfl | exact (ZR _ _).symm | simp) underlying22 (ti := Tryz.t5) (z := .int .u8 0) (sz := 1) (by' := 1) rfl rfl rfl rfl rfl (by decide) rfl hO rfl hB43  (by omega) (by simp only [maxLen]; omega) (by omega) ?_)))))))
   intro a76 c76 w76 hU76 hzz76 hO76
   clear hO
   have:=hU76.size
   replace hO76 := hO76.tight
   have hl_hO76 := ZC hO76.sl
   have hc_hO76 := hO76.sl.cap.1
   obtain ⟨gf77, ff77, hfl77, hOf77⟩ := hO76.flag
   replace hfl77 : ff77 = 0 ∨ (ff77 = 1 ∧ ((((((gf77 = g1 ∧ 0 < f1)) ∨ gf77 = w45.heap.size)) ∧ gf77 < w76.heap.size)) ∧ gf77 < w76.heap.size) := hfl77
   replace hb1 := hb1.upd hU76
   replace hb17 := hb17.upd hU76
   replace hb20 := hb20.upd hU76
   replace HL22 := HL22.trans hU76
   replace hC43 := hC43.upd hU76
   replace hO43 := hO43.upd hU76
   replace hb44 := hb44.upd hU76
   clear hO76
   refine Zf (Zo underlying30 rfl sizeOf22 rfl rfl) (Xc [.slice a76 (nB + xm43) c76, .int .i64 fr, .int .i64 e0] sizeOf22 rfl hb1 rfl rfl rfl rfl rfl ?_)
   intro w78 hU78 hzz78 hb1
   refine Za (Yk (T := fun g => g = B17 ∨ g = B20) rfl (l0 := tf 0 12) (by kernel_rfl) (Sv (Upd.refl _ _) rfl (fun _ _ => Zo underlying99 rfl sizeOf56 rfl rfl) ?_))
   replace hb44 := hb44.Zh hU78
   refine Sv (Upd.refl _ _) rfl (fun w' hw' => Xt (cs := (cxl Y43)) isAgg56 sizeOf56 rfl (hb44.upd hw') rfl rfl) (Sv (Upd.refl _ _) rfl (fun _ _ => Zo underlying99 rfl sizeOf95 rfl rfl) (Sv (Upd.refl _ _) rfl (fun w' hw' => Xt (cs := [.int .i64 sy43, .slice ya43 ym43 yc43, .int .i64 ty43]) isAgg95 sizeOf95 rfl (hb44.upd hw') rfl rfl) (Sv (Upd.refl _ _) rfl (fun _ _ => Zo underlying99 rfl sizeOf3 rfl rfl) (Sv (Upd.refl _ _) rfl (v := .int .i64 nx43) (fun w' hw' => Yd isAgg3 rfl (by rw [(hb44.upd hw').cell]; rfl)) (Sv (Upd.refl _ _) rfl (fun _ _ => Zo underlying99 rfl sizeOf4 rfl rfl) (Sv (Upd.refl _ _) rfl (v := .bool (decide (la43 = true))) (fun w' hw' => Yd isAgg4 rfl (by rw [(hb44.upd hw').cell]; rfl)) ?_))))))
   intro w79 hU79
   have:=hU79.size
   refine Wo 8 (tf 9 12) rfl ?_
   have hW : Upd (fun g => g = B17 ∨ g = B20) w78 w78 := (Upd.refl _ _)
   replace hb17 := (hb17.Zh hU78).Zc hU79
   refine Xa sizeOf56 rfl rfl rfl rfl hb17 rfl ?_
   intro w80 hU80 hzz80 hb17
   refine Za ?_
   intro w81 hS81
   replace hW := (hW.Zb hU79).Zr hU80
   have hX81 : Upd _ w78 w81 := hW.Zb hS81.upd
   refine bF hX81 ?_
   have hU81 := hS81.upd
   have:=hU81.size
   refine Z8 ?_
   intro w82 hU82
   have:=hU82.size
   refine Wo 9 (tf 10 12) rfl ?_
   have hW : Upd (fun g => g = B17 ∨ g = B20) w78 w81 := hX81
   replace hb20 := ((((hb20.Zh hU78).Zc hU79).Zh hU80).Zc hU81).Zc hU82
   refine Xa sizeOf95 rfl rfl rfl rfl hb20 rfl ?_
   intro w83 hU83 hzz83 hb20
   refine Za ?_
   intro w84 hS84
   have hX84 : Upd _ w78 w84 := ((hW.Zb hU82).Zr hU83).Zb hS84.upd
   refine bF hX84 ?_
   have hU84 := hS84.upd
   have:=hU84.size
   refine Z8 (Sq hX84 rfl (Sq hX84 rfl ?_))
   intro w85 hU85
   have:=hU85.size
   refine Wd ?_
   have hee := hke (Classical.not_not.1 q13)
   have hbe := hee.1
   have hla := hee.2.1
   have hnx := hee.2.2
   have hbx := bnx_le hbe
   have hkY1 := hkY (Classical.not_not.1 q13)
   have hky2 := hkY1.2
   refine ⟨_, ?_, nx43, la43, a76, (nB + xm43), c76, (xB ++ xs43), gf77, ff77, Y43, ya43, ym43, yc43, ys43, ty43, rfl, rfl, ⟨rfl, rfl, rfl, rfl, rfl, rfl, rfl, rfl, rfl, rfl, trivial⟩, (by omega), (by omega), (Yq hbB hx_43), (by omega), (by omega), hkY1.1, hy_43, (by omega), (by omega), (by omega), (by omega), (fun hl => by rw [hnx]; exact gb_snd_last (hgb hlb) hbe (by rw [← hla]; exact hl)), (fun hl => by rw [hnx]; exact gb_snd_more (hgb hlb) hbe (by rw [← hla]; exact hl)), (((((((hb1.Zc hU79).Zh hU80).Zc hU81).Zc hU82).Zh hU83).Zc hU84).Zc hU85), ((((((((hOf77.Zh hU78).Zc hU79).Zh hU80).Zc hU81).Zc hU82).Zh hU83).Zc hU84).Zc hU85), (((((hb17.Zc hU81).Zc hU82).Zh hU83).Zc hU84).Zc hU85), (((((((((hC43.Zh hU78).Zc hU79).Zh hU80).Zc hU81).Zc hU82).Zh hU83).Zc hU84).Zc hU85).weak), (hky2 ▸ ((hb20.Zc hU84).Zc hU85)), (((((((((hO43.Zh hU78).Zc hU79).Zh hU80).Zc hU81).Zc hU82).Zh hU83).Zc hU84).Zc hU85).weak), ((((((((HL22.Zr hU78).Zb hU79).Zr hU80).Zb hU81).Zb hU82).Zr hU83).Zb hU84).Zb hU85)⟩
   omega
  rw [decide_eq_false q15]
  refine Gf (Gf (Gf (Gf (Gf (Z6 rfl (Z6 rfl (Z6 rfl (Z6 rfl (Z6 rfl (Z6 rfl (Z6 rfl (Z6 rfl (Gf (Zf (Zw (v := .bool false) rfl rfl) (Qs 1 rfl (Za (Cf (Sn (Zf (Zo underlying30 rfl sizeOf22 rfl rfl) (Zk isAgg22 rfl hb1 rfl (Zf (ZM underlying22 rfl) (Zf (Zo underlying99 rfl sizeOf22 rfl rfl) (Zk isAgg22 rfl hb44 rfl (Zf (ZM underlying22 rfl) (Xd rfl rfl (Qs 3 rfl (Za (W_if rfl (fun q23 => ?_) fun q23 => ?_))))))))))))))))))))))))))))
  ·refine Zl (Zf (Zo underlying30 rfl sizeOf3 rfl rfl) (Xc [.slice aB nB cB, .int .i64 fr, .int .i64 18] sizeOf3 rfl hb1 rfl rfl rfl rfl rfl ?_))
   intro w86 hU86 hzz86 hb1
   refine Za (Sm (Zf (Zo underlying30 rfl sizeOf3 rfl rfl) (Zk isAgg3 rfl hb1 rfl (Zf (v := .bool true) (Yh (a := 18) (b := 0) rfl rfl) (Za (Ct (Zz (Yk (T := fun g => g = B2) rfl (l0 := tf 0 4) (by kernel_rfl) (Sq (Upd.refl _ _) rfl (Sv (Upd.refl _ _) rfl (fun w' hw' => Xt (cs := [.slice aB nB cB, .int .i64 fr, .int .i64 18]) isAgg30 sizeOf30 rfl (hb1.Zh hw') rfl rfl) (Sq (Upd.refl _ _) rfl ?_)))))))))))
   intro w87 hU87
   have:=hU87.size
   refine Wo 3 (tf 4 4) rfl ?_
   have hW : Upd No w86 w87 := hU87
   replace hb2 := (hb2.Zh hU86).Zc hU87
   refine Xa sizeOf30 rfl rfl rfl rfl hb2 rfl ?_
   intro w88 hU88 hzz88 hb2
   refine Za ?_
   intro w89 hS89
   refine bT (Upd No w89) ?_
   have hU89 := hS89.upd
   have:=hU89.size
   try replace hW := hW.Zb hU89
   exact Wd (Zn (Zg rfl (rm_tc results15 rfl rfl (Zu isAgg30 sizeOf30 rfl (hb2.Zc hU89))) ⟨_, rfl, q, aB, nB, cB, xB, fr, 18, g1, f1, rfl, (((((hO.Zh hU86).Zc hU87).Zh hU88).Zc hU89).weak (fun g hg => by have h3 : (g = g1 ∧ 0 < f1) := hg; show g = g1 ∧ 0 < f1; omega)), hbB, (by omega), (by omega), (by omega), (by omega), (by omega), (by omega), (fun h => absurd h (by decide)), ((((HU.Zr hU86).Zb hU87).Zr hU88).Zb hU89)⟩))
  refine Zi (Sm (Zf (Zo underlying30 rfl sizeOf3 rfl rfl) (Zk isAgg3 rfl hb1 rfl (Qs 1 rfl (Za ?_)))))
  have q24 : ¬ (e0 ≠ 0) := (fun h => h he0)
  rw [decide_eq_false q24]
  refine Cf (Zi (Sn (Zf (Zo underlying30 rfl sizeOf22 rfl rfl) (Zk isAgg22 rfl hb1 rfl (Zf (Zo underlying99 rfl sizeOf22 rfl rfl) (Zk isAgg22 rfl hb44 rfl (Z1 (xs := xB) (ys := xs43) (zs := xB ++ xs43) (k' := .u8) (tot := nB + xm43) (by first | rfl | exact (ZR _ _).symm | simp) underlying22 (ti := Tryz.t5) (z := .int .u8 0) (sz := 1) (by' := 1) rfl rfl rfl rfl rfl (by decide) rfl hO rfl hB43  (by omega) (by simp only [maxLen]; omega) (by omega) ?_)))))))
  intro a90 c90 w90 hU90 hzz90 hO90
  clear hO
  have:=hU90.size
  replace hO90 := hO90.tight
  have hl_hO90 := ZC hO90.sl
  have hc_hO90 := hO90.sl.cap.1
  obtain ⟨gf91, ff91, hfl91, hOf91⟩ := hO90.flag
  replace hfl91 : ff91 = 0 ∨ (ff91 = 1 ∧ ((((((gf91 = g1 ∧ 0 < f1)) ∨ gf91 = w45.heap.size)) ∧ gf91 < w90.heap.size)) ∧ gf91 < w90.heap.size) := hfl91
  replace hb1 := hb1.upd hU90
  replace hb17 := hb17.upd hU90
  replace hb20 := hb20.upd hU90
  replace HL22 := HL22.trans hU90
  replace hC43 := hC43.upd hU90
  replace hO43 := hO43.upd hU90
  replace hb44 := hb44.upd hU90
  clear hO90
  refine Zf (Zo underlying30 rfl sizeOf22 rfl rfl) (Xc [.slice a90 (nB + xm43) c90, .int .i64 fr, .int .i64 e0] sizeOf22 rfl hb1 rfl rfl rfl rfl rfl ?_)
  intro w92 hU92 hzz92 hb1
  refine Za (Yk (T := fun g => g = B17 ∨ g = B20) rfl (l0 := tf 0 12) (by kernel_rfl) (Sv (Upd.refl _ _) rfl (fun _ _ => Zo underlying99 rfl sizeOf56 rfl rfl) ?_))
  replace hb44 := hb44.Zh hU92
  refine Sv (Upd.refl _ _) rfl (fun w' hw' => Xt (cs := (cxl Y43)) isAgg56 sizeOf56 rfl (hb44.upd hw') rfl rfl) (Sv (Upd.refl _ _) rfl (fun _ _ => Zo underlying99 rfl sizeOf95 rfl rfl) (Sv (Upd.refl _ _) rfl (fun w' hw' => Xt (cs := [.int .i64 sy43, .slice ya43 ym43 yc43, .int .i64 ty43]) isAgg95 sizeOf95 rfl (hb44.upd hw') rfl rfl) (Sv (Upd.refl _ _) rfl (fun _ _ => Zo underlying99 rfl sizeOf3 rfl rfl) (Sv (Upd.refl _ _) rfl (v := .int .i64 nx43) (fun w' hw' => Yd isAgg3 rfl (by rw [(hb44.upd hw').cell]; rfl)) (Sv (Upd.refl _ _) rfl (fun _ _ => Zo underlying99 rfl sizeOf4 rfl rfl) (Sv (Upd.refl _ _) rfl (v := .bool (decide (la43 = true))) (fun w' hw' => Yd isAgg4 rfl (by rw [(hb44.upd hw').cell]; rfl)) ?_))))))
  intro w93 hU93
  have:=hU93.size
  refine Wo 8 (tf 9 12) rfl ?_
  have hW : Upd (fun g => g = B17 ∨ g = B20) w92 w92 := (Upd.refl _ _)
  replace hb17 := (hb17.Zh hU92).Zc hU93
  refine Xa sizeOf56 rfl rfl rfl rfl hb17 rfl ?_
  intro w94 hU94 hzz94 hb17
  refine Za ?_
  intro w95 hS95
  replace hW := (hW.Zb hU93).Zr hU94
  have hX95 : Upd _ w92 w95 := hW.Zb hS95.upd
  refine bF hX95 ?_
  have hU95 := hS95.upd
  have:=hU95.size
  refine Z8 ?_
  intro w96 hU96
  have:=hU96.size
  refine Wo 9 (tf 10 12) rfl ?_
  have hW : Upd (fun g => g = B17 ∨ g = B20) w92 w95 := hX95
  replace hb20 := ((((hb20.Zh hU92).Zc hU93).Zh hU94).Zc hU95).Zc hU96
  refine Xa sizeOf95 rfl rfl rfl rfl hb20 rfl ?_
  intro w97 hU97 hzz97 hb20
  refine Za ?_
  intro w98 hS98
  have hX98 : Upd _ w92 w98 := ((hW.Zb hU96).Zr hU97).Zb hS98.upd
  refine bF hX98 ?_
  have hU98 := hS98.upd
  have:=hU98.size
  refine Z8 (Sq hX98 rfl (Sq hX98 rfl ?_))
  intro w99 hU99
  have:=hU99.size
  refine Wd ?_
  have hee := hke (Classical.not_not.1 q13)
  have hbe := hee.1
  have hla := hee.2.1
  have hnx := hee.2.2
  have hbx := bnx_le hbe
  have hkY1 := hkY (Classical.not_not.1 q13)
  have hky2 := hkY1.2
  refine ⟨_, ?_, nx43, la43, a90, (nB + xm43), c90, (xB ++ xs43), gf91, ff91, Y43, ya43, ym43, yc43, ys43, ty43, rfl, rfl, ⟨rfl, rfl, rfl, rfl, rfl, rfl, rfl, rfl, rfl, rfl, trivial⟩, (by omega), (by omega), (Yq hbB hx_43), (by omega), (by omega), hkY1.1, hy_43, (by omega), (by omega), (by omega), (by omega), (fun hl => by rw [hnx]; exact gb_snd_last (hgb hlb) hbe (by rw [← hla]; exact hl)), (fun hl => by rw [hnx]; exact gb_snd_more (hgb hlb) hbe (by rw [← hla]; exact hl)), (((((((hb1.Zc hU93).Zh hU94).Zc hU95).Zc hU96).Zh hU97).Zc hU98).Zc hU99), ((((((((hOf91.Zh hU92).Zc hU93).Zh hU94).Zc hU95).Zc hU96).Zh hU97).Zc hU98).Zc hU99), (((((hb17.Zc hU95).Zc hU96).Zh hU97).Zc hU98).Zc hU99), (((((((((hC43.Zh hU92).Zc hU93).Zh hU94).Zc hU95).Zc hU96).Zh hU97).Zc hU98).Zc hU99).weak), (hky2 ▸ ((hb20.Zc hU98).Zc hU99)), (((((((((hO43.Zh hU92).Zc hU93).Zh hU94).Zc hU95).Zc hU96).Zh hU97).Zc hU98).Zc hU99).weak), ((((((((HL22.Zr hU92).Zb hU93).Zr hU94).Zb hU95).Zb hU96).Zr hU97).Zb hU98).Zb hU99)⟩
  omega
 rw [decide_eq_false q1]
 refine Gf (Gf (Gf (Gf (Zf (Zw (v := .bool false) rfl rfl) (Za (Cf (Zi (Sn (Zf (Zo underlying34 rfl sizeOf32 rfl rfl) (Zk isAgg32 rfl hb4 rfl (Qs 1 rfl (Zj (Zy rfl call31 rfl rfl) (wfind _ ) ?_))))))))))))
 rintro v w100 ⟨rfl, hU100⟩
 have:=hU100.size
 refine Qs 1 rfl (Za (Sm (Qs 3 rfl ?_)))
 have q25 : ¬ (((ZA b p).2.2) = 0) := q1
 rw [decide_eq_false q25]
 refine Gf (Gf (Gf (Zf (Zw (v := .bool false) rfl rfl) (Qs 1 rfl (Gf (Gf (Zf (Zw (v := .bool false) rfl rfl) (Za (Cf (Zi (Sm (Qs 2 rfl (Za ?_)))))))))))))
 have q26 : ((ZA b p).2.2) ≠ 0 := q25
 rw [decide_eq_true q26]
 refine Ct (Sn (Qs 1 rfl (Zf (Zo underlying30 rfl sizeOf3 rfl rfl) ?_)))
 replace hb1 := hb1.Zc hU100
 refine Xc [.slice aT nT cT, .int .i64 fr, .int .i64 ((ZA b p).2.2)] sizeOf3 rfl hb1 rfl rfl rfl rfl rfl ?_
 intro w101 hU101 hzz101 hb1
 refine Za (Zz (Yk (T := fun g => g = B2) rfl (l0 := tf 0 4) (by kernel_rfl) (Sq (Upd.refl _ _) rfl (Sv (Upd.refl _ _) rfl (fun w' hw' => Xt (cs := [.slice aT nT cT, .int .i64 fr, .int .i64 ((ZA b p).2.2)]) isAgg30 sizeOf30 rfl (hb1.Zh hw') rfl rfl) (Sq (Upd.refl _ _) rfl ?_)))))
 intro w102 hU102
 have:=hU102.size
 refine Wo 3 (tf 4 4) rfl ?_
 have hW : Upd No w101 w102 := hU102
 replace hb2 := ((hb2.Zc hU100).Zh hU101).Zc hU102
 refine Xa sizeOf30 rfl rfl rfl rfl hb2 rfl ?_
 intro w103 hU103 hzz103 hb2
 refine Za ?_
 intro w104 hS104
 refine bT (Upd No w104) ?_
 have hU104 := hS104.upd
 have:=hU104.size
 try replace hW := hW.Zb hU104
 exact Wd (Zn (Zg rfl (rm_tc results15 rfl rfl (Zu isAgg30 sizeOf30 rfl (hb2.Zc hU104))) ⟨_, rfl, ((ZA b p).2.1), aT, nT, cT, xT, fr, (ZA b p).2.2, gT, fT, rfl, ((((((hO.Zc hU100).Zh hU101).Zc hU102).Zh hU103).Zc hU104).weak (fun g hg => by have h3 : ((g = gT ∧ 0 < fT) ∧ g < w.heap.size) := hg; show g = gT ∧ 0 < fT; omega)), hbT, (by omega), (by omega), (by omega), (by omega), (by omega), (by omega), (fun h => absurd h q26), (((((HU.Zb hU100).Zr hU101).Zb hU102).Zr hU103).Zb hU104)⟩))
theorem wdec39 {a : Option Addr} {m c : Nat} {b : List Int} {wi li : Int} (w : World) (hs : Sl w (fun g => g < w.heap.size) 1 (.slice a m c) m (ints .u8 b)) (hb : Byt b) (hm : m ≤ 3000) (hli : 0 ≤ li ∧ li ≤ 100000) (hwi : 0 ≤ wi ∧ wi ≤ 9223372036854775807) :
  Calls Tryz.prog 7 #[.slice a m c, .int .i64 wi, .int .i64 li, .slice none 0 0] w (Ret fun v w' => ∃ (a' : Option Addr) (n' : Nat) (c' : Nat) (fr' : Int) (e' : Int), v = .agg #[.slice a' n' c', .int .i64 fr', .int .i64 e'] ∧ (e' = 0 → (ga b 0).2 = 0) ∧ Upd No w w') := by
 have HU := Upd.Yo w
 have hl_hs := ZC hs
 have hc_hs := hs.cap.1
 refine Zq func7 rfl ntmps7 (by simp) (Sn (ZB zeroValue30 rfl ?_))
 intro B1 w1 hB1 hU1 hzz1 hb1
 refine Za (Sm (Qs 3 rfl ?_))
 have q1 : ¬ (wi < 0) := (by omega)
 rw [decide_eq_false q1]
 refine Gt (Qs 1 rfl (Gt (Qs 1 rfl (Zf (Zw (v := .bool (decide (li < 0))) rfl rfl) (Za ?_)))))
 have q2 : ¬ (li < 0) := (by omega)
 rw [decide_eq_false q2]
 refine Cf (Zi (Sm (Qs 1 rfl (Za (Zs (W_unroll 1 (ZX (Sm (Qs 2 rfl (Zf (ZM underlying49 rfl) (Zf (v := .bool false) (YL (a := 0) (b := 0) rfl rfl) (Za (Cf (ZI (Sn (ZB zeroValue30 rfl ?_))))))))))))))))
 intro B2 w2 hB2 hU2 hzz2 hb2
 refine Za (Sn (Qs 1 rfl (Za (Zz (Zs (ZS (fun mu ρ ds w' => ∃ (q : Nat) (aB : Option Addr) (nB : Nat) (cB : Nat) (xB : List Int) (g1 : Nat) (f1 : Nat) (fr : Int) (eE : Int) (me : Nat), me = mu ∧ ds = [] ∧ Liv ρ [(0, .slice a m c), (1, .int .i64 wi), (2, .int .i64 li), (3, .slice none 0 0), (8, .pointer (some ⟨B1, 0, none⟩)), (10, .pointer (some ⟨B2, 0, none⟩)), (11, .int .i64 q)] ∧ (eE = 0 → q ≤ m) ∧ Byt xB ∧ nB ≤ 100000 ∧ 0 ≤ fr ∧ (fr ≤ 3001 ∧ (eE = 0 → fr ≤ q)) ∧ ((f1 = 0 ∨ w2.heap.size ≤ g1) ∧ (f1 = 0 ∨ g1 < w'.heap.size)) ∧ (eE = 0 → (ga b 0).2 = (ga b q).2) ∧ ((me = m - q + 1 ∧ eE = 0) ∨ (me = 0 ∧ eE ≠ 0)) ∧ Blk w' B2 [.slice aB nB cB, .int .i64 fr, .int .i64 eE] ∧ Own w' (fun g => (g = g1 ∧ 0 < f1)) 5 1 (.slice aB nB cB) nB (ints .u8 xB) ∧ Upd (fun g => g = B2 ∨ w2.heap.size ≤ g) w2 w') _ ⟨0, none, 0, 0, [], 0, 0, 0, 0, (m + 1), rfl, rfl, ⟨rfl, rfl, rfl, rfl, rfl, rfl, (by first | rfl | exact Zt (by omega) | exact Zt (by simp)), trivial⟩, (by omega), ZO, (by omega), (by omega), (by omega), (by omega), (fun _ => rfl), (.inl ⟨rfl, rfl⟩), hb2, (by exact Own.nil _ _ _ _), Upd.refl _ _⟩ ?_))))))
 rintro m3 ρ3 ds3 w3 ⟨q, aB, nB, cB, xB, g1, f1, fr, eE, me, rfl, rfl, hl3, hq, hbB, hnB, hf0, hf1, hgf, hga, hmu, hb2, hO, hU3⟩
 obtain ⟨ρ3x, rfl⟩ : ∃ ρx, ρ3 = upds ρx [(0, .slice a m c), (1, .int .i64 wi), (2, .int .i64 li), (3, .slice none 0 0), (8, .pointer (some ⟨B1, 0, none⟩)), (10, .pointer (some ⟨B2, 0, none⟩)), (11, .int .i64 q)] := ⟨_, ZD hl3⟩
 replace hs := (hs.Zc hU1).Zc hU2
 replace HU := (HU.Zb hU1).Zb hU2
 replace hb1 := hb1.Zc hU2
 clear hl3
 have:=hU3.size
 have hl_hO := ZC hO.sl
 have hc_hO := hO.sl.cap.1
 have HL3 := hU3
 refine Sm (Qs 2 rfl (Zf (ZM underlying22 rfl) (Qs 2 rfl ?_)))
 replace HU := HU.trans hU3
 replace hb1 := hb1.upd hU3
 by_cases q3 : (q : Int) < (m : Int)
 ·rw [decide_eq_true q3]
  refine Gt (Zf (Zo underlying30 rfl sizeOf3 rfl rfl) (Gt (Zk isAgg3 rfl hb2 rfl (Gt (Qs 1 rfl (Zf (Zx (v := .bool (decide (eE = 0))) rfl rfl) (Za ?_)))))))
  by_cases q4 : eE = 0
  ·have he0 := q4
   have hqm := hq he0
   rw [decide_eq_true q4]
   refine Ct (Zi (Zs (Sn (Qs 2 rfl ?_))))
   replace hs := hs.upd hU3
   refine Zj (Zy rfl call13 rfl rfl) (rmark _ hs.any hb (by omega) (by omega)) ?_
   rintro v w4 ⟨rfl, hU4⟩
   have:=hU4.size
   refine Qs 5 rfl (Za (Zs (Sn (Qs 3 rfl (Za ?_)))))
   replace hb2 := hb2.Zc hU4
   replace hO := hO.Zc hU4
   replace HL3 := HL3.Zb hU4
   by_cases q5 : ((hmk b q).2) ≠ 0
   ·rw [decide_eq_true q5]
    refine Ct (Zl (Qs 1 rfl (Zf (Zo underlying30 rfl sizeOf3 rfl rfl) (Xc [.slice aB nB cB, .int .i64 fr, .int .i64 ((hmk b q).2)] sizeOf3 rfl hb2 rfl rfl rfl rfl rfl ?_))))
    intro w5 hU5 hzz5 hb2
    refine Za ?_
    refine ⟨_, ?_, q, aB, nB, cB, xB, g1, f1, fr, ((hmk b q).2), 0, rfl, rfl, ⟨rfl, rfl, rfl, rfl, rfl, rfl, rfl, trivial⟩, (fun h => absurd h q5), hbB, (by omega), (by omega), ⟨by omega, (fun h => absurd h q5)⟩, (by omega), (fun h => absurd h q5), (.inr ⟨rfl, q5⟩), hb2, ((hO.Zh hU5).weak (fun g hg => by have h3 : (g = g1 ∧ 0 < f1) := hg; show g = g1 ∧ 0 < f1; omega)), (HL3.Zr hU5)⟩
    omega
   have hm2 : (hmk b q).2 = 0 := Classical.not_not.1 q5
   have h12 := hmk_12 hm2
   rw [decide_eq_false q5]
   refine Cf (Sn (Qs 3 rfl (Za ?_)))
   replace hs := hs.Zc hU4
   by_cases q6 : ((hmk b q).1) = 2
   ·have hm1 : ¬ (hmk b q).1 = 1 := by omega
    rw [decide_eq_true q6]
    refine Ct (Zl (Qs 2 rfl (Zj (Zy rfl call14 rfl rfl) (rcontent _ hs hb (by omega) (by omega)) ?_)))
    rintro v w6 ⟨a6, m6, c6, rfl, hB6, hm_6, hU6⟩
    have:=hU6.size
    have hl_hB6 := ZC hB6
    have hc_hB6 := hB6.cap.1
    refine Qs 5 rfl (Zf (Zo underlying30 rfl sizeOf3 rfl rfl) ?_)
    replace hb2 := hb2.Zc hU6
    refine Xc [.slice aB nB cB, .int .i64 fr, .int .i64 ((Yc b q).2.2)] sizeOf3 rfl hb2 rfl rfl rfl rfl rfl ?_
    intro w7 hU7 hzz7 hb2
    refine Za ?_
    refine ⟨_, ?_, ((Yc b q).2.1), aB, nB, cB, xB, g1, f1, fr, ((Yc b q).2.2), (if (Yc b q).2.2 = 0 then m - ((Yc b q).2.1) + 1 else 0), rfl, rfl, ⟨rfl, rfl, rfl, rfl, rfl, rfl, rfl, trivial⟩, (fun h => by have := gskip_le h; omega), hbB, (by omega), (by omega), ⟨by omega, (fun h => by have := gskip_le h; omega)⟩, (by omega), (fun h => ga_skip (hga he0) (by omega) hm2 (by omega) h), (by split; exact .inl ⟨rfl, by assumption⟩; exact .inr ⟨rfl, by assumption⟩), hb2, (((hO.Zc hU6).Zh hU7).weak (fun g hg => by have h3 : (g = g1 ∧ 0 < f1) := hg; show g = g1 ∧ 0 < f1; omega)), ((HL3.Zb hU6).Zr hU7)⟩
    have hgx := gskip_le (bs := b) (p := q)
    split
    ·have hgy := hgx (by assumption)
     omega
    omega
   have hHm : Hm b q := ⟨hm2, by omega⟩
   rw [decide_eq_false q6]
   refine Cf (Zl (Qs 5 rfl (Xl isAgg30 sizeOf30 rfl hb2 rfl (Zj (r_call6 rfl call15 rfl rfl rfl rfl rfl rfl) (wframe39 (b := b) (xT := xB) (gT := g1) (fT := f1) _ ((hs.weak (R' := fun g => g < w4.heap.size ∧ (g ≠ g1 ∨ f1 = 0)) (by intro g hg; have h3 : g < w.heap.size := hg; show g < w4.heap.size ∧ (g ≠ g1 ∨ f1 = 0); omega))) (hO) hb (by omega) (by omega) hHm hbB (by omega) ⟨by omega, by omega⟩ (by omega) hli he0) ?_))))
   rintro v w8 ⟨q8, a8, n8, c8, x8, fr8, e8, g8, z8, rfl, hO8, hbx_8, hn9_8, hf0_8, hf1_8, hq_8, hg_8, hg2_8, he_8, hU8⟩
   have:=hU8.size
   replace hO8 := hO8.tight
   have hl_hO8 := ZC hO8.sl
   have hc_hO8 := hO8.sl.cap.1
   refine Qs 4 rfl ?_
   replace hb2 := hb2.upd hU8
   refine Xa sizeOf30 rfl rfl rfl rfl hb2 rfl ?_
   intro w9 hU9 hzz9 hb2
   refine Za ?_
   refine ⟨_, ?_, q8, a8, n8, c8, x8, g8, z8, fr8, e8, (if e8 = 0 then m - q8 + 1 else 0), rfl, rfl, ⟨rfl, rfl, rfl, rfl, rfl, rfl, rfl, trivial⟩, (fun _ => by omega), hbx_8, (by omega), (by omega), ⟨by omega, (fun h => by have h8 := gpart_le (he_8 h).1; have h9 := (he_8 h).2; omega)⟩, (by omega), (fun h => ga_snd (hga he0) (by omega) (he_8 h).1 (he_8 h).2), (by split; exact .inl ⟨rfl, by assumption⟩; exact .inr ⟨rfl, by assumption⟩), hb2, ((hO8.Zh hU9).weak (fun g hg => by have h3 : (((g = g8 ∧ 0 < z8)) ∧ g < w8.heap.size) := hg; show g = g8 ∧ 0 < z8; omega)), ((HL3.trans hU8).Zr hU9)⟩
   have hgx := fun (h : e8 = 0) => And.intro (gpart_le (he_8 h).1) (he_8 h).2
   split
   ·have hgy := hgx (by assumption)
    omega
   omega
  rw [decide_eq_false q4]
  refine Cf (ZI (Sn (Xl isAgg30 sizeOf30 rfl hb2 rfl (Xa sizeOf30 rfl rfl rfl rfl hb1 rfl ?_))))
  intro w10 hU10 hzz10 hb1
  exact Za (Zn (Zg rfl (rc1 results7 rfl (Zu isAgg30 sizeOf30 rfl hb1)) ⟨_, rfl, aB, nB, cB, fr, eE, rfl, (fun h => absurd h q4), (HU.t1 hU10)⟩))
 rw [decide_eq_false q3]
 refine Gf (Gf (Gf (Zf (Zw (v := .bool false) rfl rfl) (Za (Cf (ZI (Sn (Xl isAgg30 sizeOf30 rfl hb2 rfl (Xa sizeOf30 rfl rfl rfl rfl hb1 rfl ?_)))))))))
 intro w11 hU11 hzz11 hb1
 refine Za (Zn (Zg (v := .agg #[.slice aB nB cB, .int .i64 fr, .int .i64 eE]) rfl (rc1 results7 rfl (Zu isAgg30 sizeOf30 rfl hb1)) ?_))
 exact ⟨_, rfl, aB, nB, cB, fr, eE, rfl, (fun h => by rw [hga h, ga_end (by omega)]), (HU.t1 hU11)⟩
end Go.Proofs.YtbjjhfoeckkacaaGreatDoor
