/-
  Several texts of this project, put together.
-/
import Derived.Test.YtbjjhfoeckkacaaGreatDoorFZ
import Derived.Test.YtbjjhfoeckkacaaGreatDoorDV
import Derived.Test.YtbjjhfoeckkacaaGreatDoorDA
set_option linter.unusedVariables false
set_option linter.unusedSimpArgs false
set_option maxRecDepth 100000
set_option maxHeartbeats 16000000
namespace Go.Proofs.YtbjjhfoeckkacaaGreatDoor
open Go.Fw _root_.Go.Proofs.Tryz
theorem rm_tctt {P : Program} {fn : Func} {w : World} {n : Nat} {ρ : Env} {a b c d : Tmp} {tb : TypeId} {b2 : Nat} {v1 v2 v3 v4 : Value} (h : fn.results = #[.tmp a, .cell b tb, .tmp c, .tmp d]) (h1 : ev n ρ (.tmp a) = v1) (h2 : ev n ρ (.tmp b) = .pointer (some ⟨b2, 0, none⟩)) (h3 : ev n ρ (.tmp c) = v3) (h4 : ev n ρ (.tmp d) = v4)
  (k2 : CellIs P tb b2 v2 w) : (results fn (tab n ρ)).run P w = .ok (.tuple #[v1, v2, v3, v4]) w := by
 have e1 := Yy h1
 have e2 := Yy h2
 have e3 := Yy h3
 have e4 := Yy h4
 unfold CellIs at k2
 simp only [results, h]
 simp [e1, e2, e3, e4, asAddr, k2]
theorem wseqs {a : Option Addr} {m c : Nat} {b : List Int} {X : CV} {R : Nat → Prop} (w : World) (hs : Sl w (fun g => g < w.heap.size) 1 (.slice a m c) m (ints .u8 b)) (hb : Byt b) (hm : m ≤ 1000000) (hC : Cx w R X) (hXr : okR X) :
  Calls Tryz.prog 88 #[.slice a m c, .agg (cxl X).toArray] w (Ret fun v w' => ∃ (a' : Option Addr) (m' : Nat) (c' : Nat) (xs : List (Int × Int × Int)) (Y : CV) (qz : Nat) (e : Int), v = .tuple #[.slice a' m' c', .agg (cxl Y).toArray, .int .i64 qz, .int .i64 e] ∧ Own w' (fun g => w.heap.size ≤ g) 203 3 (.slice a' m' c') m' (rows encQ xs) ∧ Cx w' (fun g => R g ∨ w.heap.size ≤ g) Y ∧ okU xs ∧ m' ≤ 65536 ∧ qz ≤ m ∧ (e = 0 → okR Y) ∧ Upd No w w') := by
 have HU := Upd.Yo w
 have hl_hs := ZC hs
 have hc_hs := hs.cap.1
 have hXr1 := hXr.1
 have hXr2 := hXr.2.1
 have hXr3 := hXr.2.2
 refine Zq func88 rfl ntmps88 (by simp) ?_
 obtain ⟨⟨lT, hcT, hnT⟩, ⟨lt0, hc0, hn0⟩, ⟨lt1, hc1, hn1⟩, ⟨lt2, hc2, hn2⟩⟩ := hC
 replace hcT := hcT.tight
 have hl_hcT := ZC hcT
 have hc_hcT := hcT.cap.1
 replace hc0 := hc0.tight
 have hl_hc0 := ZC hc0
 have hc_hc0 := hc0.cap.1
 replace hc1 := hc1.tight
 have hl_hc1 := ZC hc1
 have hc_hc1 := hc1.cap.1
 replace hc2 := hc2.tight
 have hl_hc2 := ZC hc2
 have hc_hc2 := hc2.cap.1
 refine Sn (Xb rfl ?_)
 intro B1 w1 hB1 hU1 hzz1 hb1
 refine Qs 1 rfl (ZB zeroValue56 rfl ?_)
 intro B2 w2 hB2 hU2 hzz2 hb2
 refine Qs 2 rfl (Za (Sm (Zf (Zo underlying56 rfl sizeOf54 rfl rfl) ?_)))
 replace hb1 := hb1.Zc hU2
 refine Xq [.int .i64 X.r0, .int .i64 X.r1, .int .i64 X.r2] isAgg54 sizeOf54 rfl hb1 rfl rfl (Zj (Zv rfl call107 rfl) (wrepeats _ hXr.1 hXr.2.1 hXr.2.2) ?_)
 rintro v w3 ⟨rfl, hU3⟩
 have:=hU3.size
 refine Zf (YX (b := true) rfl) (Za (Cf (Zi (Sn (Qs 1 rfl ?_)))))
 replace hs := ((hs.Zc hU1).Zc hU2).Zc hU3
 refine Zj (Zy rfl call55 (v1 := .int .i64 ((0 : Nat) : Int)) rfl rfl) (wvar _ hs.any hb (by omega) (by omega)) ?_
 rintro v w4 ⟨xz4, qz4, e4, rfl, hx_4, hq_4, hq2_4, hU4⟩
 have:=hU4.size
 have hbq9 := Yi hb qz4
 refine Qs 7 rfl (Za (Sm (Qs 3 rfl ?_)))
 replace HU := (((HU.Zb hU1).Zb hU2).Zb hU3).Zb hU4
 replace hb2 := (hb2.Zc hU3).Zc hU4
 by_cases q1 : e4 = 0
 ·rw [decide_eq_true q1]
  refine Gt (Qs 1 rfl (Gt (Qs 1 rfl (Zf (Zx (v := .bool (decide (65536 < (xz4 : Int)))) rfl rfl) (Za (W_if rfl (fun q2 => ?_) fun q2 => ?_))))))
  ·refine Zl (Qs 1 rfl (Za (Sm (Qs 1 rfl (Zf (v := .bool true) (Yh (a := 15) (b := 0) rfl rfl) (Za (Ct (Sn (Zf (ZF (pl := #[(0, 1), (1, 2), (3, 2), (5, 2), (7, 3)]) (pv := []) (cs := #[.slice none 0 0, .int .i64 0, .slice none 0 0, .int .i64 0, .slice none 0 0, .int .i64 0, .slice none 0 0, .int .i64 0, .int .i64 0, .int .i64 0]) zeroValue56 underlying56 (fun w => by kernel_rfl)) (Qs 2 rfl (Xa sizeOf56 rfl rfl rfl rfl hb2 rfl ?_)))))))))))
   intro w5 hU5 hzz5 hb2
   exact Qs 2 rfl (Za (Zn (Zg rfl (rm_tctt results88 rfl rfl rfl rfl (Zu isAgg56 sizeOf56 rfl hb2)) ⟨_, rfl, none, 0, 0, [], cz 0 0 0, 0, 15, rfl, Own.nil _ _ _ _, Cx.nil _ _ _ _ _, okU_nil, (by omega), (by omega), (fun h => absurd h (by decide)), (HU.t1 hU5)⟩)))
  refine Zi (Sm (Qs 2 rfl (Za ?_)))
  have q3 : ¬ (e4 ≠ 0) := (fun h2 => h2 q1)
  rw [decide_eq_false q3]
  refine Cf (Zi (Sm (Qs 2 rfl (Za ?_))))
  replace hcT := (((hcT.Zc hU1).Zc hU2).Zc hU3).Zc hU4
  replace hc0 := (((hc0.Zc hU1).Zc hU2).Zc hU3).Zc hU4
  replace hc1 := (((hc1.Zc hU1).Zc hU2).Zc hU3).Zc hU4
  replace hc2 := (((hc2.Zc hU1).Zc hU2).Zc hU3).Zc hU4
  replace hb1 := (hb1.Zc hU3).Zc hU4
  refine W_if rfl (fun q4 => ?_) fun q4 => ?_
  ·refine Zz (Yk (T := fun g => g = B2) rfl (l0 := tf 0 6) (by kernel_rfl) (Sv (Upd.refl _ _) rfl (fun w' hw' => Xt (cs := (cxl X)) isAgg56 sizeOf56 rfl (hb1.Zh hw') rfl rfl) (Sq (Upd.refl _ _) rfl (Sq (Upd.refl _ _) rfl ?_))))
   intro w6 hU6
   have:=hU6.size
   refine Wo 3 (tf 4 6) rfl ?_
   have hW : Upd (fun g => g = B2) w4 w4 := (Upd.refl _ _)
   replace hb2 := hb2.Zc hU6
   refine Xa sizeOf56 rfl rfl rfl rfl hb2 rfl ?_
   intro w7 hU7 hzz7 hb2
   refine Za ?_
   intro w8 hS8
   have hX8 : Upd _ w4 w8 := ((hW.Zb hU6).Zr hU7).Zb hS8.upd
   refine bF hX8 ?_
   have hU8 := hS8.upd
   have:=hU8.size
   refine Z8 (Sq hX8 rfl (Sq hX8 rfl ?_))
   intro w9 hU9
   have:=hU9.size
   exact Wd (Zn (Zg rfl (rm_tctt results88 rfl rfl rfl rfl (Zu isAgg56 sizeOf56 rfl ((hb2.Zc hU8).Zc hU9))) ⟨_, rfl, none, 0, 0, [], X, qz4, 0, rfl, Own.nil _ _ _ _, ⟨(IS.of (((((hcT.Zc hU6).Zh hU7).Zc hU8).Zc hU9).weak (fun g h => .inl h.1)) (by omega)), (IS.of (((((hc0.Zc hU6).Zh hU7).Zc hU8).Zc hU9).weak (fun g h => .inl h.1)) (by omega)), (IS.of (((((hc1.Zc hU6).Zh hU7).Zc hU8).Zc hU9).weak (fun g h => .inl h.1)) (by omega)), (IS.of (((((hc2.Zc hU6).Zh hU7).Zc hU8).Zc hU9).weak (fun g h => .inl h.1)) (by omega))⟩, okU_nil, (by omega), (by omega), (fun _ => hXr), ((((HU.Zb hU6).t1 hU7).Zb hU8).Zb hU9)⟩))
  refine Zi (Sm (Qs 2 rfl (Zf (ZM underlying22 rfl) (Qs 1 rfl (Za (W_if rfl (fun q5 => ?_) fun q5 => ?_))))))
  ·refine Sn (Zf (ZF (pl := #[(0, 1), (1, 2), (3, 2), (5, 2), (7, 3)]) (pv := []) (cs := #[.slice none 0 0, .int .i64 0, .slice none 0 0, .int .i64 0, .slice none 0 0, .int .i64 0, .slice none 0 0, .int .i64 0, .int .i64 0, .int .i64 0]) zeroValue56 underlying56 (fun w => by kernel_rfl)) (Qs 1 rfl (Xa sizeOf56 rfl rfl rfl rfl hb2 rfl ?_)))
   intro w10 hU10 hzz10 hb2
   exact Qs 2 rfl (Za (Zn (Zg rfl (rm_tctt results88 rfl rfl rfl rfl (Zu isAgg56 sizeOf56 rfl hb2)) ⟨_, rfl, none, 0, 0, [], cz 0 0 0, 0, 3, rfl, Own.nil _ _ _ _, Cx.nil _ _ _ _ _, okU_nil, (by omega), (by omega), (fun h => absurd h (by decide)), (HU.t1 hU10)⟩)))
  refine Zi (Sn (Qs 2 rfl ?_))
  replace hs := hs.Zc hU4
  refine Z7 underlying22 sizeOf5 rfl rfl hs (by omega) (by omega) ?_
  intro ib11 io11 hc11
  rw [Int.toNat_natCast] at hc11
  refine ZH isAgg5 rfl hc11 (Zf (ZZ underlying5 underlying3 rfl ZY) (Qs 1 rfl ?_))
  obtain ⟨x9, hx9⟩ : ∃ x9 : Nat, (x9 : Int) = b.getD qz4 0 := ⟨(b.getD qz4 0).toNat, by omega⟩
  rw [show (b.getD qz4 0 : Int) = (x9 : Int) from hx9.symm]
  refine Za (Sn (Qs 1 rfl (Xd rfl rfl (Qs 1 rfl ?_))))
  rw [show ((qz4 : Int) + 1 : Int) = (((qz4 + 1) : Nat) : Int) from (by omega)]
  refine Za (Sm (Qs 2 rfl (Za (W_if rfl (fun q6 => ?_) fun q6 => ?_))))
  ·refine Sn (Zf (ZF (pl := #[(0, 1), (1, 2), (3, 2), (5, 2), (7, 3)]) (pv := []) (cs := #[.slice none 0 0, .int .i64 0, .slice none 0 0, .int .i64 0, .slice none 0 0, .int .i64 0, .slice none 0 0, .int .i64 0, .int .i64 0, .int .i64 0]) zeroValue56 underlying56 (fun w => by kernel_rfl)) (Qs 1 rfl (Xa sizeOf56 rfl rfl rfl rfl hb2 rfl ?_)))
   intro w12 hU12 hzz12 hb2
   exact Qs 2 rfl (Za (Zn (Zg rfl (rm_tctt results88 rfl rfl rfl rfl (Zu isAgg56 sizeOf56 rfl hb2)) ⟨_, rfl, none, 0, 0, [], cz 0 0 0, 0, 13, rfl, Own.nil _ _ _ _, Cx.nil _ _ _ _ _, okU_nil, (by omega), (by omega), (fun h => absurd h (by decide)), (HU.t1 hU12)⟩)))
  refine Zi (Sn (Zf (Zo underlying56 rfl sizeOf53 rfl rfl) (Xq [.int .i64 X.l0, .slice X.t0.1 X.t0.2.1 X.t0.2.2] isAgg53 sizeOf53 rfl hb1 rfl rfl (Zf (Zo underlying56 rfl sizeOf53 rfl rfl) (Xq [.int .i64 X.l1, .slice X.t1.1 X.t1.2.1 X.t1.2.2] isAgg53 sizeOf53 rfl hb1 rfl rfl (Zf (Zo underlying56 rfl sizeOf53 rfl rfl) (Xq [.int .i64 X.l2, .slice X.t2.1 X.t2.2.1 X.t2.2.2] isAgg53 sizeOf53 rfl hb1 rfl rfl (Zf (YN (pv := [(0, .agg #[.int .i64 X.l0, .slice X.t0.1 X.t0.2.1 X.t0.2.2]), (1, .agg #[.int .i64 X.l1, .slice X.t1.1 X.t1.2.1 X.t1.2.2]), (2, .agg #[.int .i64 X.l2, .slice X.t2.1 X.t2.2.1 X.t2.2.2])]) (cs := #[.int .i64 X.l0, .slice X.t0.1 X.t0.2.1 X.t0.2.2, .int .i64 X.l1, .slice X.t1.1 X.t1.2.1 X.t1.2.2, .int .i64 X.l2, .slice X.t2.1 X.t2.2.1 X.t2.2.2]) zeroValue192 underlying192 sizeOf53) (ZB zeroValue192 rfl ?_)))))))))
  intro B13 w13 hB13 hU13 hzz13 hb13
  refine Xa sizeOf192 rfl rfl rfl rfl hb13 rfl ?_
  intro w14 hU14 hzz14 hb13
  refine Za (Sm (Qs 1 rfl (Za (Zs (W_unroll 4 (ZX (Sm (Qs 1 rfl (Zf (v := .bool true) (YL (a := 0) (b := 3) rfl rfl) (Za (Ct (Zi (Zz (Zs (Sn (Qs 3 rfl (Zf (YW rfl rfl (by omega) (tr (by omega))) (Qs 2 rfl (Zf (Z0 (len := 3) (i' := 0) (o' := 0) underlying192 sizeOf53 rfl rfl (by decide) (by decide) (by decide)) (Xq [.int .i64 X.l0, .slice X.t0.1 X.t0.2.1 X.t0.2.2] isAgg53 sizeOf53 rfl hb13 rfl rfl ?_))))))))))))))))))))
  replace hs := (hs.Zc hU13).Zh hU14
  refine Zj (r_call5 rfl call108 (v2 := .int .i64 (((x9 % 4) : Nat) : Int)) rfl rfl Zt rfl rfl) (w24get (p := 0) _ hs.any hb (by omega) ((hc0.Zc hU13).Zh hU14) (by intro g hg; have h3 : ((R g) ∧ g < w.heap.size) := hg; omega) (by omega) (by omega) (by omega) (by omega)) ?_
  rintro v w15 ⟨lg15, a15, m15, c15, N15, q15, e15, rfl, hO15, hN_15, hq1_15, hq2_15, hU15⟩
  have:=hU15.size
  have hl_hO15 := ZC hO15
  have hc_hO15 := hO15.cap.1
  obtain ⟨qb15, hqb15⟩ : ∃ qb : Nat, (qb : Int) = q15 := ⟨(q15).toNat, by omega⟩
  refine Qs 4 rfl (ZB zeroValue53 rfl ?_)
  intro B16 w16 hB16 hU16 hzz16 hb16
  refine Xa sizeOf53 rfl rfl rfl rfl hb16 rfl ?_
  intro w17 hU17 hzz17 hb16
  refine Qs 2 rfl (Za (Sm (Qs 2 rfl (Za ?_))))
  replace HU := ((((HU.Zb hU13).t1 hU14).Zb hU15).Zb hU16).t1 hU17
  replace hb2 := ((((hb2.Zc hU13).Zh hU14).Zc hU15).Zc hU16).Zh hU17
  by_cases q7 : e15 ≠ 0
  ·rw [decide_eq_true q7]
   refine Ct (Sn (Zf (ZF (pl := #[(0, 1), (1, 2), (3, 2), (5, 2), (7, 3)]) (pv := []) (cs := #[.slice none 0 0, .int .i64 0, .slice none 0 0, .int .i64 0, .slice none 0 0, .int .i64 0, .slice none 0 0, .int .i64 0, .int .i64 0, .int .i64 0]) zeroValue56 underlying56 (fun w => by kernel_rfl)) (Qs 2 rfl (Xa sizeOf56 rfl rfl rfl rfl hb2 rfl ?_))))
   intro w18 hU18 hzz18 hb2
   exact Qs 2 rfl (Za (Zn (Zg rfl (rm_tctt results88 rfl rfl rfl rfl (Zu isAgg56 sizeOf56 rfl hb2)) ⟨_, rfl, none, 0, 0, [], cz 0 0 0, 0, e15, rfl, Own.nil _ _ _ _, Cx.nil _ _ _ _ _, okU_nil, (by omega), (by omega), (fun h => absurd h q7), (HU.t1 hU18)⟩)))
  have hMn0 := (hN_15 (Classical.not_not.1 q7)).ns
  have hsy0 : sy3 0 ≤ 44 := by decide
  rw [decide_eq_false q7]
  refine Cf (Zi (Zl (Qs 1 rfl (Xl isAgg53 sizeOf53 rfl hb16 rfl (Qs 2 rfl (Zf (YT rfl rfl (by omega) (tq (by omega) ZY)) (Zf (Z0 (len := 3) (i' := 0) (o' := 0) underlying192 sizeOf53 rfl rfl (by decide) (by decide) (by decide)) ?_)))))))
  replace hb13 := ((hb13.Zc hU15).Zc hU16).Zh hU17
  refine Xp [.int .i64 lg15, .slice a15 m15 c15, .int .i64 X.l1, .slice X.t1.1 X.t1.2.1 X.t1.2.2, .int .i64 X.l2, .slice X.t2.1 X.t2.2.1 X.t2.2.2] sizeOf53 rfl rfl rfl rfl hb13 rfl rfl ?_
  intro w19 hU19 hzz19 hb13
  refine Qs 1 rfl ?_
  rw [show (q15 : Int) = (qb15 : Int) from hqb15.symm]
  refine Qs 1 rfl (Za (Zl (Qs 1 rfl (Zf (Yf rfl rfl (show IntKind.i64.wrap (0 + 1) = 1 by decide)) (Qs 1 rfl (Za (ZX (Sm (Qs 1 rfl (Zf (v := .bool true) (YL (a := 1) (b := 3) rfl rfl) (Za (Ct (Zi (Zz (Zs (Sn (Qs 3 rfl (Zf (YW rfl rfl (by omega) (tr (by omega))) (Qs 2 rfl (Zf (Z0 (len := 3) (i' := 1) (o' := 2) underlying192 sizeOf53 rfl rfl (by decide) (by decide) (by decide)) (Xq [.int .i64 X.l1, .slice X.t1.1 X.t1.2.1 X.t1.2.2] isAgg53 sizeOf53 rfl hb13 rfl rfl ?_)))))))))))))))))))))
  replace hs := (((hs.Zc hU15).Zc hU16).Zh hU17).Zh hU19
  refine Zj (r_call5 rfl call108 (v2 := .int .i64 (((x9 / 4 % 4) : Nat) : Int)) rfl rfl Zt rfl rfl) (w24get (p := 1) _ hs.any hb (by omega) ((((((hc1.Zc hU13).Zh hU14).Zc hU15).Zc hU16).Zh hU17).Zh hU19) (by intro g hg; have h3 : ((R g) ∧ g < w.heap.size) := hg; omega) (by omega) (by omega) (by omega) (by omega)) ?_
  rintro v w20 ⟨lg20, a20, m20, c20, N20, q20, e20, rfl, hO20, hN_20, hq1_20, hq2_20, hU20⟩
  have:=hU20.size
  have hl_hO20 := ZC hO20
  have hc_hO20 := hO20.cap.1
  obtain ⟨qb20, hqb20⟩ : ∃ qb : Nat, (qb : Int) = q20 := ⟨(q20).toNat, by omega⟩
  refine Qs 4 rfl (ZB zeroValue53 rfl ?_)
  intro B21 w21 hB21 hU21 hzz21 hb21
  refine Xa sizeOf53 rfl rfl rfl rfl hb21 rfl ?_
  intro w22 hU22 hzz22 hb21
  refine Qs 2 rfl (Za (Sm (Qs 2 rfl (Za ?_))))
  replace HU := (((HU.t1 hU19).Zb hU20).Zb hU21).t1 hU22
  replace hb2 := (((hb2.Zh hU19).Zc hU20).Zc hU21).Zh hU22
  by_cases q8 : e20 ≠ 0
  ·rw [decide_eq_true q8]
   refine Ct (Sn (Zf (ZF (pl := #[(0, 1), (1, 2), (3, 2), (5, 2), (7, 3)]) (pv := []) (cs := #[.slice none 0 0, .int .i64 0, .slice none 0 0, .int .i64 0, .slice none 0 0, .int .i64 0, .slice none 0 0, .int .i64 0, .int .i64 0, .int .i64 0]) zeroValue56 underlying56 (fun w => by kernel_rfl)) (Qs 2 rfl (Xa sizeOf56 rfl rfl rfl rfl hb2 rfl ?_))))
   intro w23 hU23 hzz23 hb2
   exact Qs 2 rfl (Za (Zn (Zg rfl (rm_tctt results88 rfl rfl rfl rfl (Zu isAgg56 sizeOf56 rfl hb2)) ⟨_, rfl, none, 0, 0, [], cz 0 0 0, 0, e20, rfl, Own.nil _ _ _ _, Cx.nil _ _ _ _ _, okU_nil, (by omega), (by omega), (fun h => absurd h q8), (HU.t1 hU23)⟩)))
  have hMn1 := (hN_20 (Classical.not_not.1 q8)).ns
  have hsy1 : sy3 1 ≤ 44 := by decide
  rw [decide_eq_false q8]
  refine Cf (Zi (Zl (Qs 1 rfl (Xl isAgg53 sizeOf53 rfl hb21 rfl (Qs 2 rfl (Zf (YT rfl rfl (by omega) (tq (by omega) ZY)) (Zf (Z0 (len := 3) (i' := 1) (o' := 2) underlying192 sizeOf53 rfl rfl (by decide) (by decide) (by decide)) ?_)))))))
  replace hb13 := ((hb13.Zc hU20).Zc hU21).Zh hU22
  refine Xp [.int .i64 lg15, .slice a15 m15 c15, .int .i64 lg20, .slice a20 m20 c20, .int .i64 X.l2, .slice X.t2.1 X.t2.2.1 X.t2.2.2] sizeOf53 rfl rfl rfl rfl hb13 rfl rfl ?_
  intro w24 hU24 hzz24 hb13
  refine Qs 1 rfl ?_
  rw [show (q20 : Int) = (qb20 : Int) from hqb20.symm]
  refine Qs 1 rfl (Za (Zl (Qs 1 rfl (Zf (Yf rfl rfl (show IntKind.i64.wrap (1 + 1) = 2 by decide)) (Qs 1 rfl (Za (ZX (Sm (Qs 1 rfl (Zf (v := .bool true) (YL (a := 2) (b := 3) rfl rfl) (Za (Ct (Zi (Zz (Zs (Sn (Qs 3 rfl (Zf (YW rfl rfl (by omega) (tr (by omega))) (Qs 2 rfl (Zf (Z0 (len := 3) (i' := 2) (o' := 4) underlying192 sizeOf53 rfl rfl (by decide) (by decide) (by decide)) (Xq [.int .i64 X.l2, .slice X.t2.1 X.t2.2.1 X.t2.2.2] isAgg53 sizeOf53 rfl hb13 rfl rfl ?_)))))))))))))))))))))
  replace hs := (((hs.Zc hU20).Zc hU21).Zh hU22).Zh hU24
  refine Zj (r_call5 rfl call108 (v2 := .int .i64 (((x9 / 4 / 4 % 4) : Nat) : Int)) rfl rfl Zt rfl rfl) (w24get (p := 2) _ hs.any hb (by omega) ((((((((((hc2.Zc hU13).Zh hU14).Zc hU15).Zc hU16).Zh hU17).Zh hU19).Zc hU20).Zc hU21).Zh hU22).Zh hU24) (by intro g hg; have h3 : ((R g) ∧ g < w.heap.size) := hg; omega) (by omega) (by omega) (by omega) (by omega)) ?_
  rintro v w25 ⟨lg25, a25, m25, c25, N25, q25, e25, rfl, hO25, hN_25, hq1_25, hq2_25, hU25⟩
  have:=hU25.size
  have hl_hO25 := ZC hO25
  have hc_hO25 := hO25.cap.1
  obtain ⟨qb25, hqb25⟩ : ∃ qb : Nat, (qb : Int) = q25 := ⟨(q25).toNat, by omega⟩
  refine Qs 4 rfl (ZB zeroValue53 rfl ?_)
  intro B26 w26 hB26 hU26 hzz26 hb26
  refine Xa sizeOf53 rfl rfl rfl rfl hb26 rfl ?_
  intro w27 hU27 hzz27 hb26
  refine Qs 2 rfl (Za (Sm (Qs 2 rfl (Za ?_))))
  replace HU := (((HU.t1 hU24).Zb hU25).Zb hU26).t1 hU27
  replace hb2 := (((hb2.Zh hU24).Zc hU25).Zc hU26).Zh hU27
  by_cases q9 : e25 ≠ 0
  ·rw [decide_eq_true q9]
   refine Ct (Sn (Zf (ZF (pl := #[(0, 1), (1, 2), (3, 2), (5, 2), (7, 3)]) (pv := []) (cs := #[.slice none 0 0, .int .i64 0, .slice none 0 0, .int .i64 0, .slice none 0 0, .int .i64 0, .slice none 0 0, .int .i64 0, .int .i64 0, .int .i64 0]) zeroValue56 underlying56 (fun w => by kernel_rfl)) (Qs 2 rfl (Xa sizeOf56 rfl rfl rfl rfl hb2 rfl ?_))))
   intro w28 hU28 hzz28 hb2
   exact Qs 2 rfl (Za (Zn (Zg rfl (rm_tctt results88 rfl rfl rfl rfl (Zu isAgg56 sizeOf56 rfl hb2)) ⟨_, rfl, none, 0, 0, [], cz 0 0 0, 0, e25, rfl, Own.nil _ _ _ _, Cx.nil _ _ _ _ _, okU_nil, (by omega), (by omega), (fun h => absurd h q9), (HU.t1 hU28)⟩)))
  have hMn2 := (hN_25 (Classical.not_not.1 q9)).ns
  have hsy2 : sy3 2 ≤ 44 := by decide
  rw [decide_eq_false q9]
  refine Cf (Zi (Zl (Qs 1 rfl (Xl isAgg53 sizeOf53 rfl hb26 rfl (Qs 2 rfl (Zf (YT rfl rfl (by omega) (tq (by omega) ZY)) (Zf (Z0 (len := 3) (i' := 2) (o' := 4) underlying192 sizeOf53 rfl rfl (by decide) (by decide) (by decide)) ?_)))))))
  replace hb13 := ((hb13.Zc hU25).Zc hU26).Zh hU27
  refine Xp [.int .i64 lg15, .slice a15 m15 c15, .int .i64 lg20, .slice a20 m20 c20, .int .i64 lg25, .slice a25 m25 c25] sizeOf53 rfl rfl rfl rfl hb13 rfl rfl ?_
  intro w29 hU29 hzz29 hb13
  refine Qs 1 rfl ?_
  rw [show (q25 : Int) = (qb25 : Int) from hqb25.symm]
  refine Qs 1 rfl (Za (Zl (Qs 1 rfl (Zf (Yf rfl rfl (show IntKind.i64.wrap (2 + 1) = 3 by decide)) (Qs 1 rfl (Za (ZX (Sm (Qs 1 rfl (Zf (v := .bool false) (YL (a := 3) (b := 3) rfl rfl) (Za (Cf (ZI (Zz (ZJ rfl (l0 := tf 0 12) (by kernel_rfl) (Tq rfl (Tq rfl (Tv rfl (fun _ _ => Ym (l' := qb25) (n' := m - qb25) underlying22 sizeOf5 rfl rfl (by omega) (by omega) (by omega)) ?_))))))))))))))))))
  have hT30 := Sl.cutl (l := qb25) (n := m - qb25) ((((hs.Zc hU25).Zc hU26).Zh hU27).Zh hU29) (by omega) (by omega)
  have hl_hT30 := ZC hT30
  have hc_hT30 := hT30.cap.1
  refine Tv rfl (fun w' hw' => Xt (cs := [.int .i64 lg15, .slice a15 m15 c15, .int .i64 lg20, .slice a20 m20 c20, .int .i64 lg25, .slice a25 m25 c25]) isAgg192 sizeOf192 rfl (hb13.Zc hw') rfl rfl) (Tq rfl (Tv rfl (fun _ _ => ZZ underlying101 underlying3 rfl ZY) ?_))
  intro w31 hU31
  have:=hU31.size
  refine Wo 6 (tf 7 12) rfl ?_
  have hW : Upd No w29 w31 := hU31
  replace hO15 := ((((((((((((hO15.tight).Zc hU16).Zh hU17).Zh hU19).Zc hU20).Zc hU21).Zh hU22).Zh hU24).Zc hU25).Zc hU26).Zh hU27).Zh hU29).Zc hU31
  replace hO20 := ((((((((hO20.tight).Zc hU21).Zh hU22).Zh hU24).Zc hU25).Zc hU26).Zh hU27).Zh hU29).Zc hU31
  replace hO25 := ((((hO25.tight).Zc hU26).Zh hU27).Zh hU29).Zc hU31
  refine Zj (Z5 rfl call109 rfl rfl rfl) (wrow25 _ (hT30.Zc hU31).any (ZL hb _) (by omega) hO15.any hO20.any hO25.any (hN_15 (Classical.not_not.1 q7)) (hN_20 (Classical.not_not.1 q8)) (hN_25 (Classical.not_not.1 q9)) (by omega)) ?_
  rintro v w32 ⟨a32, m32, c32, xs32, e32, rfl, hO32, hx_32, hmk_32, hU32⟩
  have:=hU32.size
  try replace hW := hW.Zb hU32
  replace hO32 := hO32.tight
  have hl_hO32 := Ya ZP (by decide) hO32.sl
  have hc_hO32 := hO32.sl.cap.1
  refine Za ?_
  intro w33 hS33
  refine bT (Upd No w33) ?_
  have hU33 := hS33.upd
  have:=hU33.size
  try replace hW := hW.Zb hU33
  refine ZQ (Upd.refl _ _) (Tq rfl (Tq rfl (Tq rfl (Tq rfl (Tq rfl ?_)))))
  intro w34 hU34
  have:=hU34.size
  try replace hW := hW.Zb hU34
  refine Wd (Sm (Qs 2 rfl (Za ?_)))
  replace HU := ((((HU.t1 hU29).Zb hU31).Zb hU32).Zb hU33).Zb hU34
  replace hb2 := ((((hb2.Zh hU29).Zc hU31).Zc hU32).Zc hU33).Zc hU34
  by_cases q10 : e32 ≠ 0
  ·rw [decide_eq_true q10]
   refine Ct (Sn (Zf (ZF (pl := #[(0, 1), (1, 2), (3, 2), (5, 2), (7, 3)]) (pv := []) (cs := #[.slice none 0 0, .int .i64 0, .slice none 0 0, .int .i64 0, .slice none 0 0, .int .i64 0, .slice none 0 0, .int .i64 0, .int .i64 0, .int .i64 0]) zeroValue56 underlying56 (fun w => by kernel_rfl)) (Qs 2 rfl (Xa sizeOf56 rfl rfl rfl rfl hb2 rfl ?_))))
   intro w35 hU35 hzz35 hb2
   exact Qs 2 rfl (Za (Zn (Zg rfl (rm_tctt results88 rfl rfl rfl rfl (Zu isAgg56 sizeOf56 rfl hb2)) ⟨_, rfl, none, 0, 0, [], cz 0 0 0, 0, e32, rfl, Own.nil _ _ _ _, Cx.nil _ _ _ _ _, okU_nil, (by omega), (by omega), (fun h => absurd h q10), (HU.t1 hU35)⟩)))
  have hxw := hx_32 (Classical.not_not.1 q10)
  rw [decide_eq_false q10]
  refine Cf (Zi (Sn (Xl isAgg56 sizeOf56 rfl ((((((((((((((((((hb1.Zc hU13).Zh hU14).Zc hU15).Zc hU16).Zh hU17).Zh hU19).Zc hU20).Zc hU21).Zh hU22).Zh hU24).Zc hU25).Zc hU26).Zh hU27).Zh hU29).Zc hU31).Zc hU32).Zc hU33).Zc hU34) rfl (ZB zeroValue56 rfl ?_))))
  intro B36 w36 hB36 hU36 hzz36 hb36
  try replace hW := hW.Zb hU36
  refine Xa sizeOf56 rfl rfl rfl rfl hb36 rfl ?_
  intro w37 hU37 hzz37 hb36
  refine Za (Zz (Yk (T := fun g => g = B36) rfl (l0 := tf 0 12) (by kernel_rfl) (Sv (Upd.refl _ _) rfl (fun _ _ => Z0 (len := 3) (i' := 0) (o' := 0) underlying192 sizeOf53 rfl rfl (by decide) (by decide) (by decide)) ?_)))
  replace hb13 := (((((hb13.Zc hU31).Zc hU32).Zc hU33).Zc hU34).Zc hU36).Zh hU37
  refine Sv (Upd.refl _ _) rfl (fun w' hw' => Xt (cs := [.int .i64 lg15, .slice a15 m15 c15]) isAgg53 sizeOf53 rfl (hb13.Zh hw') rfl rfl) (Sv (Upd.refl _ _) rfl (fun _ _ => Z0 (len := 3) (i' := 1) (o' := 2) underlying192 sizeOf53 rfl rfl (by decide) (by decide) (by decide)) (Sv (Upd.refl _ _) rfl (fun w' hw' => Xt (cs := [.int .i64 lg20, .slice a20 m20 c20]) isAgg53 sizeOf53 rfl (hb13.Zh hw') rfl rfl) (Sv (Upd.refl _ _) rfl (fun _ _ => Z0 (len := 3) (i' := 2) (o' := 4) underlying192 sizeOf53 rfl rfl (by decide) (by decide) (by decide)) (Sv (Upd.refl _ _) rfl (fun w' hw' => Xt (cs := [.int .i64 lg25, .slice a25 m25 c25]) isAgg53 sizeOf53 rfl (hb13.Zh hw') rfl rfl) (Sv (Upd.refl _ _) rfl (fun _ _ => Zo underlying56 rfl sizeOf53 rfl rfl) ?_)))))
  intro w38 hU38
  have:=hU38.size
  try replace hW := hW.Zb hU38
  refine Wo 7 (tf 8 12) rfl ?_
  have hW : Upd (fun g => g = B36) w37 w37 := (Upd.refl _ _)
  replace hb36 := hb36.Zc hU38
  refine Xp [.slice X.tr.1 X.tr.2.1 X.tr.2.2, .int .i64 lg15, .slice a15 m15 c15, .int .i64 X.l1, .slice X.t1.1 X.t1.2.1 X.t1.2.2, .int .i64 X.l2, .slice X.t2.1 X.t2.2.1 X.t2.2.2, .int .i64 X.r0, .int .i64 X.r1, .int .i64 X.r2] sizeOf53 rfl rfl rfl rfl hb36 rfl rfl ?_
  intro w39 hU39 hzz39 hb36
  refine Za ?_
  intro w40 hS40
  replace hW := (hW.Zb hU38).Zr hU39
  have hX40 : Upd _ w37 w40 := hW.Zb hS40.upd
  refine bF hX40 ?_
  have hU40 := hS40.upd
  have:=hU40.size
  try replace hW := hW.Zb hU40
  refine Z8 (Sv hX40 rfl (fun _ _ => Zo underlying56 rfl sizeOf53 rfl rfl) ?_)
  intro w41 hU41
  have:=hU41.size
  try replace hW := hW.Zb hU41
  refine Wo 9 (tf 10 12) rfl ?_
  have hW : Upd (fun g => g = B36) w37 w40 := hX40
  replace hb36 := (hb36.Zc hU40).Zc hU41
  refine Xp [.slice X.tr.1 X.tr.2.1 X.tr.2.2, .int .i64 lg15, .slice a15 m15 c15, .int .i64 lg20, .slice a20 m20 c20, .int .i64 X.l2, .slice X.t2.1 X.t2.2.1 X.t2.2.2, .int .i64 X.r0, .int .i64 X.r1, .int .i64 X.r2] sizeOf53 rfl rfl rfl rfl hb36 rfl rfl ?_
  intro w42 hU42 hzz42 hb36
  refine Za ?_
  intro w43 hS43
  replace hW := (hW.Zb hU41).Zr hU42
  have hX43 : Upd _ w37 w43 := hW.Zb hS43.upd
  refine bF hX43 ?_
  have hU43 := hS43.upd
  have:=hU43.size
  try replace hW := hW.Zb hU43
  refine Z8 (Sv hX43 rfl (fun _ _ => Zo underlying56 rfl sizeOf53 rfl rfl) ?_)
  intro w44 hU44
  have:=hU44.size
  try replace hW := hW.Zb hU44
  refine Wo 11 (tf 12 12) rfl ?_
  have hW : Upd No w43 w44 := hU44
  replace hb36 := (hb36.Zc hU43).Zc hU44
  refine Xp [.slice X.tr.1 X.tr.2.1 X.tr.2.2, .int .i64 lg15, .slice a15 m15 c15, .int .i64 lg20, .slice a20 m20 c20, .int .i64 lg25, .slice a25 m25 c25, .int .i64 X.r0, .int .i64 X.r1, .int .i64 X.r2] sizeOf53 rfl rfl rfl rfl hb36 rfl rfl ?_
  intro w45 hU45 hzz45 hb36
  refine Za ?_
  intro w46 hS46
  refine bT (Upd No w46) ?_
  have hU46 := hS46.upd
  have:=hU46.size
  try replace hW := hW.Zb hU46
  refine Wd (Sn (Qs 1 rfl (Za (Sm (Qs 1 rfl (Za (Zs ?_)))))))
  replace hb36 := hb36.Zc hU46
  refine ZS (fun mu ρ ds w' => ∃ (i : Nat) (sa : Int) (sb : Int) (sc : Int) (ys : List (Int × Int × Int)) (a9 : Option Addr) (c9 : Nat), m32 - i = mu ∧ ds = [] ∧ Liv ρ [(0, .slice a m c), (5, .pointer (some ⟨B2, 0, none⟩)), (17, .slice a32 m32 c32), (19, .pointer (some ⟨B36, 0, none⟩)), (20, .slice a9 i c9), (21, .int .i64 i)] ∧ i ≤ m32 ∧ ((1 ≤ sa ∧ sa ≤ 134217728) ∧ (1 ≤ sb ∧ sb ≤ 134217728) ∧ 1 ≤ sc ∧ sc ≤ 134217728) ∧ okU ys ∧ Blk w' B36 [.slice X.tr.1 X.tr.2.1 X.tr.2.2, .int .i64 lg15, .slice a15 m15 c15, .int .i64 lg20, .slice a20 m20 c20, .int .i64 lg25, .slice a25 m25 c25, .int .i64 sa, .int .i64 sb, .int .i64 sc] ∧ Own w' (fun g => w46.heap.size ≤ g) 203 3 (.slice a9 i c9) i (rows encQ ys) ∧ Upd (fun g => g = B36 ∨ w46.heap.size ≤ g) w46 w') _ ⟨0, X.r0, X.r1, X.r2, [], none, 0, rfl, rfl, ⟨rfl, rfl, rfl, rfl, (by first | rfl | exact Zt (by omega) | exact Zt (by simp)), (by first | rfl | exact Zt (by omega) | exact Zt (by simp)), trivial⟩, (by omega), ⟨⟨by omega, by omega⟩, ⟨by omega, by omega⟩, by omega, by omega⟩, okU_nil, hb36, (by exact Own.nil _ _ _ _), Upd.refl _ _⟩ ?_
  rintro m47 ρ47 ds47 w47 ⟨i, sa, sb, sc, ys, a9, c9, rfl, rfl, hl47, hi, hss, hyu, hb36, hO, hU47⟩
  obtain ⟨ρ47x, rfl⟩ : ∃ ρx, ρ47 = upds ρx [(0, .slice a m c), (5, .pointer (some ⟨B2, 0, none⟩)), (17, .slice a32 m32 c32), (19, .pointer (some ⟨B36, 0, none⟩)), (20, .slice a9 i c9), (21, .int .i64 i)] := ⟨_, ZD hl47⟩
  replace hcT := ((((((((((((((((((((((((((((hcT.Zc hU13).Zh hU14).Zc hU15).Zc hU16).Zh hU17).Zh hU19).Zc hU20).Zc hU21).Zh hU22).Zh hU24).Zc hU25).Zc hU26).Zh hU27).Zh hU29).Zc hU31).Zc hU32).Zc hU33).Zc hU34).Zc hU36).Zh hU37).Zc hU38).Zh hU39).Zc hU40).Zc hU41).Zh hU42).Zc hU43).Zc hU44).Zh hU45).Zc hU46
  replace hO15 := (((((((((((((hO15.Zc hU32).Zc hU33).Zc hU34).Zc hU36).Zh hU37).Zc hU38).Zh hU39).Zc hU40).Zc hU41).Zh hU42).Zc hU43).Zc hU44).Zh hU45).Zc hU46
  replace hO20 := (((((((((((((hO20.Zc hU32).Zc hU33).Zc hU34).Zc hU36).Zh hU37).Zc hU38).Zh hU39).Zc hU40).Zc hU41).Zh hU42).Zc hU43).Zc hU44).Zh hU45).Zc hU46
  replace hO25 := (((((((((((((hO25.Zc hU32).Zc hU33).Zc hU34).Zc hU36).Zh hU37).Zc hU38).Zh hU39).Zc hU40).Zc hU41).Zh hU42).Zc hU43).Zc hU44).Zh hU45).Zc hU46
  replace hO32 := ((((((((((((hO32.Zc hU33).Zc hU34).Zc hU36).Zh hU37).Zc hU38).Zh hU39).Zc hU40).Zc hU41).Zh hU42).Zc hU43).Zc hU44).Zh hU45).Zc hU46
  replace HU := ((((((((((HU.Zb hU36).t1 hU37).Zb hU38).t1 hU39).Zb hU40).Zb hU41).t1 hU42).Zb hU43).Zb hU44).t1 hU45).Zb hU46
  replace hb2 := ((((((((((hb2.Zc hU36).Zh hU37).Zc hU38).Zh hU39).Zc hU40).Zc hU41).Zh hU42).Zc hU43).Zc hU44).Zh hU45).Zc hU46
  clear hl47
  have:=hU47.size
  replace hO := hO.tight
  have hl_hO := Ya ZP (by decide) hO.sl
  have hc_hO := hO.sl.cap.1
  have HL47 := hU47
  refine Sm (Qs 2 rfl (Zf (ZM underlying195 rfl) (Qs 1 rfl (Za ?_))))
  replace HU := HU.trans hU47
  replace hb2 := hb2.upd hU47
  by_cases q11 : (i : Int) < (m32 : Int)
  ·have hgw := hxw.gd (i := i) (by omega)
   have hgw1 := hgw.1
   have hgw2 := hgw.2.1
   have hgw3 := hgw.2.2
   rw [decide_eq_true q11]
   refine Ct (Zi (Zz (Zs (Zz (Yk (T := fun g => False) rfl (l0 := tf 0 21) (by kernel_rfl) (Sv (Upd.refl _ _) rfl (fun _ _ => Zo underlying56 rfl sizeOf54 rfl rfl) (Sv (Upd.refl _ _) rfl (fun w' hw' => Xt (cs := [.int .i64 sa, .int .i64 sb, .int .i64 sc]) isAgg54 sizeOf54 rfl (hb36.Zc hw') rfl rfl) (Sq (Upd.refl _ _) rfl (Sq (Upd.refl _ _) rfl ?_)))))))))
   replace hO32 := hO32.upd hU47
   obtain ⟨ib48, io48, ha48, hib48, hc48⟩ := Sl.rat (0, 0, 0) ZP (by decide) (hO32.sl) (i := i) (by omega)
   refine Sv (Upd.refl _ _) rfl (fun _ _ => Yl (b := ib48) (off := io48) (m := m32) (c := c32) (o' := io48 + i * 3) underlying195 sizeOf201 (by rw [← ha48]; rfl) rfl (by omega) (by omega) (by omega)) (Sv (Upd.refl _ _) rfl (fun _ _ => Zo underlying201 rfl sizeOf3 rfl rfl) (Sv (Upd.refl _ _) rfl (v := .int .i64 ((xs32.getD i (0, 0, 0)).2.2)) (fun w' hw' => Yd (v := .int .i64 ((xs32.getD i (0, 0, 0)).2.2)) isAgg3 rfl (hw'.Y8 (hc48 2 (by decide)))) (Sq (Upd.refl _ _) rfl (Sq (Upd.refl _ _) rfl ?_))))
   obtain ⟨ib49, io49, ha49, hib49, hc49⟩ := Sl.rat (0, 0, 0) ZP (by decide) (hO32.sl) (i := i) (by omega)
   refine Sv (Upd.refl _ _) rfl (fun _ _ => Yl (b := ib49) (off := io49) (m := m32) (c := c32) (o' := io49 + i * 3) underlying195 sizeOf201 (by rw [← ha49]; rfl) rfl (by omega) (by omega) (by omega)) (Sv (Upd.refl _ _) rfl (fun _ _ => Zo underlying201 rfl sizeOf3 rfl rfl) (Sv (Upd.refl _ _) rfl (v := .int .i64 ((xs32.getD i (0, 0, 0)).1)) (fun w' hw' => Yd (v := .int .i64 ((xs32.getD i (0, 0, 0)).1)) isAgg3 rfl (hw'.Y8 (hc49 0 (by decide)))) ?_))
   intro w50 hU50
   have:=hU50.size
   try replace hW := hW.Zb hU50
   replace HU := HU.Zb hU50
   replace hb2 := hb2.Zc hU50
   replace hO32 := hO32.Zc hU50
   replace hb36 := hb36.Zc hU50
   replace hO := hO.Zc hU50
   replace HL47 := HL47.Zb hU50
   refine Wa_two (i := 12) (j := 17) (li := tf 13 21) (lj := #[true, true, true, true, true, true, true, true, true, true, true, true, false, false, false, false, false, true, false, false, false]) (by kernel_rfl) rfl rfl (by kernel_rfl) (by kernel_rfl) ?_ ?_
   ·refine Ws_of_Wl ?_
    have hW : Upd (fun g => False) w47 w47 := (Upd.refl _ _)
    refine Zj (Z5 rfl call110 rfl rfl rfl) (woffset _ hss.1 hss.2.1 hss.2.2 ⟨by omega, by omega⟩ ⟨by omega, by omega⟩) ?_
    rintro v w51 ⟨of51, ra51, rb51, rc51, e51, rfl, ha_51, ha2_51, hb_51, hb2_51, hc_51, hc2_51, ho_51, hU51⟩
    have:=hU51.size
    replace hW := (hW.Zb hU50).Zb hU51
    try replace hW := hW.Zb hU51
    refine Za ?_
    intro w52 hS52
    have hX52 : Upd _ w47 w52 := hW.Zb hS52.upd
    refine bF hX52 ?_
    have hU52 := hS52.upd
    have:=hU52.size
    try replace hW := hW.Zb hU52
    refine Z8 (Sq hX52 rfl (Sq hX52 rfl (Sq hX52 rfl (Sq hX52 rfl ?_))))
    intro w53 hU53
    have:=hU53.size
    try replace hW := hW.Zb hU53
    refine Wo 17 (tf 18 21) rfl ?_
    have hW : Upd (fun g => False) w47 w52 := hX52
    refine ZB zeroValue54 rfl ?_
    intro B54 w54 hB54 hU54 hzz54 hb54
    replace hW := (hW.Zb hU53).Zb hU54
    try replace hW := hW.Zb hU54
    refine Za ?_
    intro w55 hS55
    have hX55 : Upd _ w47 w55 := hW.Zb hS55.upd
    refine bF hX55 ?_
    have hU55 := hS55.upd
    have:=hU55.size
    try replace hW := hW.Zb hU55
    refine Z8 (Sq hX55 rfl ?_)
    intro w56 hU56
    have:=hU56.size
    try replace hW := hW.Zb hU56
    refine Wo 19 (tf 20 21) rfl ?_
    have hW : Upd (fun g => False) w47 w55 := hX55
    replace hb54 := (hb54.Zc hU55).Zc hU56
    refine Xa sizeOf54 rfl rfl rfl rfl hb54 rfl ?_
    intro w57 hU57 hzz57 hb54
    refine Za ?_
    intro w58 hS58
    replace hW := (hW.Zb hU56).Zr hU57
    have hX58 : Upd _ w47 w58 := hW.Zb hS58.upd
    refine bF hX58 ?_
    have hU58 := hS58.upd
    have:=hU58.size
    try replace hW := hW.Zb hU58
    refine Z8 (Sq hX58 rfl ?_)
    intro w59 hU59
    have:=hU59.size
    try replace hW := hW.Zb hU59
    refine Wd (Sm (Qs 2 rfl (Za ?_)))
    by_cases q12 : e51 ≠ 0
    ·rw [decide_eq_true q12]
     refine Ct (Sn (Zf (ZF (pl := #[(0, 1), (1, 2), (3, 2), (5, 2), (7, 3)]) (pv := []) (cs := #[.slice none 0 0, .int .i64 0, .slice none 0 0, .int .i64 0, .slice none 0 0, .int .i64 0, .slice none 0 0, .int .i64 0, .int .i64 0, .int .i64 0]) zeroValue56 underlying56 (fun w => by kernel_rfl)) (Qs 2 rfl ?_)))
     replace hb2 := ((((((((hb2.Zc hU51).Zc hU52).Zc hU53).Zc hU54).Zc hU55).Zc hU56).Zh hU57).Zc hU58).Zc hU59
     refine Xa sizeOf56 rfl rfl rfl rfl hb2 rfl ?_
     intro w60 hU60 hzz60 hb2
     exact Qs 2 rfl (Za (Zn (Zg rfl (rm_tctt results88 rfl rfl rfl rfl (Zu isAgg56 sizeOf56 rfl hb2)) ⟨_, rfl, none, 0, 0, [], cz 0 0 0, 0, e51, rfl, Own.nil _ _ _ _, Cx.nil _ _ _ _ _, okU_nil, (by omega), (by omega), (fun h => absurd h q12), ((((((((((HU.Zb hU51).Zb hU52).Zb hU53).Zb hU54).Zb hU55).Zb hU56).t1 hU57).Zb hU58).Zb hU59).t1 hU60)⟩)))
    have hof := ho_51 (Classical.not_not.1 q12)
    rw [decide_eq_false q12]
    refine Cf (Zi (Sn (Xl isAgg54 sizeOf54 rfl ((hb54.Zc hU58).Zc hU59) rfl (Zf (Zo underlying56 rfl sizeOf54 rfl rfl) ?_))))
    replace hb36 := ((((((((hb36.Zc hU51).Zc hU52).Zc hU53).Zc hU54).Zc hU55).Zc hU56).Zh hU57).Zc hU58).Zc hU59
    refine Xp [.slice X.tr.1 X.tr.2.1 X.tr.2.2, .int .i64 lg15, .slice a15 m15 c15, .int .i64 lg20, .slice a20 m20 c20, .int .i64 lg25, .slice a25 m25 c25, .int .i64 ra51, .int .i64 rb51, .int .i64 rc51] sizeOf54 rfl rfl rfl rfl hb36 rfl rfl ?_
    intro w61 hU61 hzz61 hb36
    refine Za (ZJ rfl (l0 := tf 0 16) (by kernel_rfl) (Tq rfl (Tq rfl (Tq rfl ?_))))
    replace hO32 := (((((((((hO32.Zc hU51).Zc hU52).Zc hU53).Zc hU54).Zc hU55).Zc hU56).Zh hU57).Zc hU58).Zc hU59).Zh hU61
    obtain ⟨ib62, io62, ha62, hib62, hc62⟩ := Sl.rat (0, 0, 0) ZP (by decide) (hO32.sl) (i := i) (by omega)
    refine Tv rfl (fun _ _ => Yl (b := ib62) (off := io62) (m := m32) (c := c32) (o' := io62 + i * 3) underlying195 sizeOf201 (by rw [← ha62]; rfl) rfl (by omega) (by omega) (by omega)) (Tv rfl (fun _ _ => Zo underlying201 rfl sizeOf3 rfl rfl) (Tv rfl (v := .int .i64 ((xs32.getD i (0, 0, 0)).1)) (fun w' hw' => Yd (v := .int .i64 ((xs32.getD i (0, 0, 0)).1)) isAgg3 rfl (hw'.Y8 (hc62 0 (by decide)))) (Tq rfl (Tq rfl ?_))))
    obtain ⟨ib63, io63, ha63, hib63, hc63⟩ := Sl.rat (0, 0, 0) ZP (by decide) (hO32.sl) (i := i) (by omega)
    refine Tv rfl (fun _ _ => Yl (b := ib63) (off := io63) (m := m32) (c := c32) (o' := io63 + i * 3) underlying195 sizeOf201 (by rw [← ha63]; rfl) rfl (by omega) (by omega) (by omega)) (Tv rfl (fun _ _ => Zo underlying201 rfl sizeOf3 rfl rfl) (Tv rfl (v := .int .i64 ((xs32.getD i (0, 0, 0)).2.1)) (fun w' hw' => Yd (v := .int .i64 ((xs32.getD i (0, 0, 0)).2.1)) isAgg3 rfl (hw'.Y8 (hc63 1 (by decide)))) (Tq rfl (Tv rfl (v := .agg #[.int .i64 ((xs32.getD i (0, 0, 0)).1), .int .i64 ((xs32.getD i (0, 0, 0)).2.1), .int .i64 of51]) (fun _ _ => ZF (pl := #[(0, 1), (1, 1), (2, 1)]) (pv := [(0, .int .i64 ((xs32.getD i (0, 0, 0)).1)), (1, .int .i64 ((xs32.getD i (0, 0, 0)).2.1)), (2, .int .i64 of51)]) (cs := #[.int .i64 ((xs32.getD i (0, 0, 0)).1), .int .i64 ((xs32.getD i (0, 0, 0)).2.1), .int .i64 of51]) zeroValue203 underlying203 (fun w => by kernel_rfl)) ?_))))
    intro w64 hU64
    have:=hU64.size
    try replace hW := hW.Zb hU64
    refine Wo 13 (tf 14 16) rfl ?_
    have hW : Upd No w61 w64 := hU64
    refine Xz [.int .i64 ((xs32.getD i (0, 0, 0)).1), .int .i64 ((xs32.getD i (0, 0, 0)).2.1), .int .i64 of51] underlying168 sizeOf203 zeroValue203 ?_
    intro B65 w65 hB65 hU65 hzz65 hs65
    try replace hW := hW.Zb hU65
    replace hs65 : Own w65 (Is B65) 203 3 (.slice (some ⟨B65, 0, none⟩) 1 1) 1 (rows encQ [((xs32.getD i (0, 0, 0)).1, (xs32.getD i (0, 0, 0)).2.1, of51)]) := hs65
    refine Za ?_
    intro w66 hS66
    have hX : Upd No w61 w66 := hW.Zb hS66.upd
    refine bF hX ?_
    have hU66 := hS66.upd
    have:=hU66.size
    try replace hW := hW.Zb hU66
    refine ZQ hX ?_
    intro w67 hU67
    have:=hU67.size
    try replace hW := hW.Zb hU67
    refine Wo 14 (tf 15 16) rfl ?_
    have hW : Upd No w66 w67 := hU67
    replace hO := (((((((((((((hO.Zc hU51).Zc hU52).Zc hU53).Zc hU54).Zc hU55).Zc hU56).Zh hU57).Zc hU58).Zc hU59).Zh hU61).Zc hU64).Zc hU65).Zc hU66).Zc hU67
    refine Ye (cs3 := rows encQ (ys ++ [((xs32.getD i (0, 0, 0)).1, (xs32.getD i (0, 0, 0)).2.1, of51)])) (tot := i + 1) (by first | rfl | exact (ZR _ _).symm | simp) underlying168 (ti := Tryz.t203) (z := .agg #[.int .i64 0, .int .i64 0, .int .i64 0]) (sz := 3) (by' := 24) rfl rfl rfl rfl rfl (by decide) rfl hO rfl ((hs65.Zc hU66).Zc hU67).sl (Yn encQ_one _) (by omega) (by simp only [maxLen]; omega) (by omega) ?_
    intro a68 c68 w68 hU68 hzz68 hO68
    replace hcT := hcT.upd hU47
    replace hO15 := hO15.upd hU47
    replace hO20 := hO20.upd hU47
    replace hO25 := hO25.upd hU47
    replace HU := ((((((((HU.Zb hU51).Zb hU52).Zb hU53).Zb hU54).Zb hU55).Zb hU56).t1 hU57).Zb hU58).Zb hU59
    replace hb2 := ((((((((hb2.Zc hU51).Zc hU52).Zc hU53).Zc hU54).Zc hU55).Zc hU56).Zh hU57).Zc hU58).Zc hU59
    replace HL47 := (((((((((((((HL47.Zb hU51).Zb hU52).Zb hU53).Zb hU54).Zb hU55).Zb hU56).Zr hU57).Zb hU58).Zb hU59).Zr hU61).Zb hU64).Zb hU65).Zb hU66).Zb hU67
    replace hb36 := (((hb36.Zc hU64).Zc hU65).Zc hU66).Zc hU67
    clear hO
    have:=hU68.size
    replace hO68 := hO68.tight
    have hl_hO68 := Ya ZP (by decide) hO68.sl
    have hc_hO68 := hO68.sl.cap.1
    refine Za ?_
    intro w69 hS69
    refine bT (Upd No w69) ?_
    have hU69 := hS69.upd
    have:=hU69.size
    try replace hW := hW.Zb hU69
    refine ZQ (Upd.refl _ _) (Tq rfl ?_)
    intro w70 hU70
    have:=hU70.size
    try replace hW := hW.Zb hU70
    refine Wd (Zl (Qs 1 rfl (Xd rfl rfl (Qs 1 rfl (Za ?_)))))
    refine ⟨_, ?_, (i + 1), ra51, rb51, rc51, (ys ++ [((xs32.getD i (0, 0, 0)).1, (xs32.getD i (0, 0, 0)).2.1, of51)]), a68, c68, rfl, rfl, ⟨rfl, rfl, rfl, rfl, rfl, Zt, trivial⟩, (by omega), ⟨⟨by omega, by omega⟩, ⟨by omega, by omega⟩, by omega, by omega⟩, (okU_snoc hyu ⟨⟨by dsimp only; omega, by dsimp only; omega⟩, ⟨by dsimp only; omega, by dsimp only; omega⟩, by dsimp only; omega, by dsimp only; omega⟩), (((hb36.upd hU68).Zc hU69).Zc hU70), (((hO68.Zc hU69).Zc hU70).weak), (((HL47.trans hU68).Zb hU69).Zb hU70)⟩
    omega
   refine Ws_of_Wl ?_
   have hW : Upd (fun g => False) w47 w47 := (Upd.refl _ _)
   refine ZB zeroValue54 rfl ?_
   intro B71 w71 hB71 hU71 hzz71 hb71
   replace hW := (hW.Zb hU50).Zb hU71
   try replace hW := hW.Zb hU71
   refine Za ?_
   intro w72 hS72
   have hX72 : Upd _ w47 w72 := hW.Zb hS72.upd
   refine bF hX72 ?_
   have hU72 := hS72.upd
   have:=hU72.size
   try replace hW := hW.Zb hU72
   refine Z8 ?_
   intro w73 hU73
   have:=hU73.size
   try replace hW := hW.Zb hU73
   refine Wo 12 (#[true, true, true, true, true, true, true, true, true, true, true, true, true, false, false, false, false, true, false, false, false]) rfl ?_
   have hW : Upd (fun g => False) w47 w72 := hX72
   refine Zj (Z5 rfl call110 rfl rfl rfl) (woffset _ hss.1 hss.2.1 hss.2.2 ⟨by omega, by omega⟩ ⟨by omega, by omega⟩) ?_
   rintro v w74 ⟨of74, ra74, rb74, rc74, e74, rfl, ha_74, ha2_74, hb_74, hb2_74, hc_74, hc2_74, ho_74, hU74⟩
   have:=hU74.size
   replace hW := (hW.Zb hU73).Zb hU74
   try replace hW := hW.Zb hU74
   refine Za ?_
   intro w75 hS75
   have hX75 : Upd _ w47 w75 := hW.Zb hS75.upd
   refine bF hX75 ?_
   have hU75 := hS75.upd
   have:=hU75.size
   try replace hW := hW.Zb hU75
   refine Z8 (Yp (i := 13) (listed' := #[true, true, true, true, true, true, true, true, true, true, true, true, true, true, false, false, false, true, false, false, false]) hX75 (by kernel_rfl) rfl (by kernel_rfl) (by kernel_rfl) (by kernel_rfl) (by kernel_rfl) (YS_v (v := .tuple #[.int .i64 of74, .agg #[.int .i64 ra74, .int .i64 rb74, .int .i64 rc74], .int .i64 e74]) rfl (fun w' hw' => r_mv (v := .tuple #[.int .i64 of74, .agg #[.int .i64 ra74, .int .i64 rb74, .int .i64 rc74], .int .i64 e74]) rfl)) (Yp (i := 14) (listed' := #[true, true, true, true, true, true, true, true, true, true, true, true, true, true, true, false, false, true, false, false, false]) hX75 (by kernel_rfl) rfl (by kernel_rfl) (by kernel_rfl) (by kernel_rfl) (by kernel_rfl) (YS_v (v := .int .i64 of74) rfl (fun w' hw' => r_ext (v := .int .i64 of74) rfl rfl)) (Yp (i := 15) (listed' := #[true, true, true, true, true, true, true, true, true, true, true, true, true, true, true, true, false, true, false, false, false]) hX75 (by kernel_rfl) rfl (by kernel_rfl) (by kernel_rfl) (by kernel_rfl) (by kernel_rfl) (YS_v (v := .agg #[.int .i64 ra74, .int .i64 rb74, .int .i64 rc74]) rfl (fun w' hw' => r_ext (v := .agg #[.int .i64 ra74, .int .i64 rb74, .int .i64 rc74]) rfl rfl)) (Yp (i := 16) (listed' := tf 18 21) hX75 (by kernel_rfl) rfl (by kernel_rfl) (by kernel_rfl) (by kernel_rfl) (by kernel_rfl) (YS_v (v := .int .i64 e74) rfl (fun w' hw' => r_ext (v := .int .i64 e74) rfl rfl)) (Sq hX75 rfl ?_)))))
   intro w76 hU76
   have:=hU76.size
   try replace hW := hW.Zb hU76
   refine Wo 19 (tf 20 21) rfl ?_
   have hW : Upd (fun g => False) w47 w75 := hX75
   replace hb71 := ((((hb71.Zc hU72).Zc hU73).Zc hU74).Zc hU75).Zc hU76
   refine Xa sizeOf54 rfl rfl rfl rfl hb71 rfl ?_
   intro w77 hU77 hzz77 hb71
   refine Za ?_
   intro w78 hS78
   replace hW := (hW.Zb hU76).Zr hU77
   have hX78 : Upd _ w47 w78 := hW.Zb hS78.upd
   refine bF hX78 ?_
   have hU78 := hS78.upd
   have:=hU78.size
   try replace hW := hW.Zb hU78
   refine Z8 (Sq hX78 rfl ?_)
   intro w79 hU79
   have:=hU79.size
   try replace hW := hW.Zb hU79
   refine Wd (Sm (Qs 2 rfl (Za ?_)))
   by_cases q13 : e74 ≠ 0
   ·rw [decide_eq_true q13]
    refine Ct (Sn (Zf (ZF (pl := #[(0, 1), (1, 2), (3, 2), (5, 2), (7, 3)]) (pv := []) (cs := #[.slice none 0 0, .int .i64 0, .slice none 0 0, .int .i64 0, .slice none 0 0, .int .i64 0, .slice none 0 0, .int .i64 0, .int .i64 0, .int .i64 0]) zeroValue56 underlying56 (fun w => by kernel_rfl)) (Qs 2 rfl ?_)))
    replace hb2 := ((((((((hb2.Zc hU71).Zc hU72).Zc hU73).Zc hU74).Zc hU75).Zc hU76).Zh hU77).Zc hU78).Zc hU79
    refine Xa sizeOf56 rfl rfl rfl rfl hb2 rfl ?_
    intro w80 hU80 hzz80 hb2
    exact Qs 2 rfl (Za (Zn (Zg rfl (rm_tctt results88 rfl rfl rfl rfl (Zu isAgg56 sizeOf56 rfl hb2)) ⟨_, rfl, none, 0, 0, [], cz 0 0 0, 0, e74, rfl, Own.nil _ _ _ _, Cx.nil _ _ _ _ _, okU_nil, (by omega), (by omega), (fun h => absurd h q13), ((((((((((HU.Zb hU71).Zb hU72).Zb hU73).Zb hU74).Zb hU75).Zb hU76).t1 hU77).Zb hU78).Zb hU79).t1 hU80)⟩)))
   have hof := ho_74 (Classical.not_not.1 q13)
   rw [decide_eq_false q13]
   refine Cf (Zi (Sn (Xl isAgg54 sizeOf54 rfl ((hb71.Zc hU78).Zc hU79) rfl (Zf (Zo underlying56 rfl sizeOf54 rfl rfl) ?_))))
   replace hb36 := ((((((((hb36.Zc hU71).Zc hU72).Zc hU73).Zc hU74).Zc hU75).Zc hU76).Zh hU77).Zc hU78).Zc hU79
   refine Xp [.slice X.tr.1 X.tr.2.1 X.tr.2.2, .int .i64 lg15, .slice a15 m15 c15, .int .i64 lg20, .slice a20 m20 c20, .int .i64 lg25, .slice a25 m25 c25, .int .i64 ra74, .int .i64 rb74, .int .i64 rc74] sizeOf54 rfl rfl rfl rfl hb36 rfl rfl ?_
   intro w81 hU81 hzz81 hb36
   refine Za (ZJ rfl (l0 := tf 0 16) (by kernel_rfl) (Tq rfl (Tq rfl (Tq rfl ?_))))
   replace hO32 := (((((((((hO32.Zc hU71).Zc hU72).Zc hU73).Zc hU74).Zc hU75).Zc hU76).Zh hU77).Zc hU78).Zc hU79).Zh hU81
   obtain ⟨ib82, io82, ha82, hib82, hc82⟩ := Sl.rat (0, 0, 0) ZP (by decide) (hO32.sl) (i := i) (by omega)
   refine Tv rfl (fun _ _ => Yl (b := ib82) (off := io82) (m := m32) (c := c32) (o' := io82 + i * 3) underlying195 sizeOf201 (by rw [← ha82]; rfl) rfl (by omega) (by omega) (by omega)) (Tv rfl (fun _ _ => Zo underlying201 rfl sizeOf3 rfl rfl) (Tv rfl (v := .int .i64 ((xs32.getD i (0, 0, 0)).1)) (fun w' hw' => Yd (v := .int .i64 ((xs32.getD i (0, 0, 0)).1)) isAgg3 rfl (hw'.Y8 (hc82 0 (by decide)))) (Tq rfl (Tq rfl ?_))))
   obtain ⟨ib83, io83, ha83, hib83, hc83⟩ := Sl.rat (0, 0, 0) ZP (by decide) (hO32.sl) (i := i) (by omega)
   refine Tv rfl (fun _ _ => Yl (b := ib83) (off := io83) (m := m32) (c := c32) (o' := io83 + i * 3) underlying195 sizeOf201 (by rw [← ha83]; rfl) rfl (by omega) (by omega) (by omega)) (Tv rfl (fun _ _ => Zo underlying201 rfl sizeOf3 rfl rfl) (Tv rfl (v := .int .i64 ((xs32.getD i (0, 0, 0)).2.1)) (fun w' hw' => Yd (v := .int .i64 ((xs32.getD i (0, 0, 0)).2.1)) isAgg3 rfl (hw'.Y8 (hc83 1 (by decide)))) (Tq rfl (Tv rfl (v := .agg #[.int .i64 ((xs32.getD i (0, 0, 0)).1), .int .i64 ((xs32.getD i (0, 0, 0)).2.1), .int .i64 of74]) (fun _ _ => ZF (pl := #[(0, 1), (1, 1), (2, 1)]) (pv := [(0, .int .i64 ((xs32.getD i (0, 0, 0)).1)), (1, .int .i64 ((xs32.getD i (0, 0, 0)).2.1)), (2, .int .i64 of74)]) (cs := #[.int .i64 ((xs32.getD i (0, 0, 0)).1), .int .i64 ((xs32.getD i (0, 0, 0)).2.1), .int .i64 of74]) zeroValue203 underlying203 (fun w => by kernel_rfl)) ?_))))
   intro w84 hU84
   have:=hU84.size
   try replace hW := hW.Zb hU84
   refine Wo 13 (tf 14 16) rfl ?_
   have hW : Upd No w81 w84 := hU84
   refine Xz [.int .i64 ((xs32.getD i (0, 0, 0)).1), .int .i64 ((xs32.getD i (0, 0, 0)).2.1), .int .i64 of74] underlying168 sizeOf203 zeroValue203 ?_
   intro B85 w85 hB85 hU85 hzz85 hs85
   try replace hW := hW.Zb hU85
   replace hs85 : Own w85 (Is B85) 203 3 (.slice (some ⟨B85, 0, none⟩) 1 1) 1 (rows encQ [((xs32.getD i (0, 0, 0)).1, (xs32.getD i (0, 0, 0)).2.1, of74)]) := hs85
   refine Za ?_
   intro w86 hS86
   have hX : Upd No w81 w86 := hW.Zb hS86.upd
   refine bF hX ?_
   have hU86 := hS86.upd
   have:=hU86.size
   try replace hW := hW.Zb hU86
   refine ZQ hX ?_
   intro w87 hU87
   have:=hU87.size
   try replace hW := hW.Zb hU87
   refine Wo 14 (tf 15 16) rfl ?_
   have hW : Upd No w86 w87 := hU87
   replace hO := (((((((((((((hO.Zc hU71).Zc hU72).Zc hU73).Zc hU74).Zc hU75).Zc hU76).Zh hU77).Zc hU78).Zc hU79).Zh hU81).Zc hU84).Zc hU85).Zc hU86).Zc hU87
   refine Ye (cs3 := rows encQ (ys ++ [((xs32.getD i (0, 0, 0)).1, (xs32.getD i (0, 0, 0)).2.1, of74)])) (tot := i + 1) (by first | rfl | exact (ZR _ _).symm | simp) underlying168 (ti := Tryz.t203) (z := .agg #[.int .i64 0, .int .i64 0, .int .i64 0]) (sz := 3) (by' := 24) rfl rfl rfl rfl rfl (by decide) rfl hO rfl ((hs85.Zc hU86).Zc hU87).sl (Yn encQ_one _) (by omega) (by simp only [maxLen]; omega) (by omega) ?_
   intro a88 c88 w88 hU88 hzz88 hO88
   replace hcT := hcT.upd hU47
   replace hO15 := hO15.upd hU47
   replace hO20 := hO20.upd hU47
   replace hO25 := hO25.upd hU47
   replace HU := ((((((((HU.Zb hU71).Zb hU72).Zb hU73).Zb hU74).Zb hU75).Zb hU76).t1 hU77).Zb hU78).Zb hU79
   replace hb2 := ((((((((hb2.Zc hU71).Zc hU72).Zc hU73).Zc hU74).Zc hU75).Zc hU76).Zh hU77).Zc hU78).Zc hU79
   replace HL47 := (((((((((((((HL47.Zb hU71).Zb hU72).Zb hU73).Zb hU74).Zb hU75).Zb hU76).Zr hU77).Zb hU78).Zb hU79).Zr hU81).Zb hU84).Zb hU85).Zb hU86).Zb hU87
   replace hb36 := (((hb36.Zc hU84).Zc hU85).Zc hU86).Zc hU87
   clear hO
   have:=hU88.size
   replace hO88 := hO88.tight
   have hl_hO88 := Ya ZP (by decide) hO88.sl
   have hc_hO88 := hO88.sl.cap.1
   refine Za ?_
   intro w89 hS89
   refine bT (Upd No w89) ?_
   have hU89 := hS89.upd
   have:=hU89.size
   try replace hW := hW.Zb hU89
   refine ZQ (Upd.refl _ _) (Tq rfl ?_)
   intro w90 hU90
   have:=hU90.size
   try replace hW := hW.Zb hU90
   refine Wd (Zl (Qs 1 rfl (Xd rfl rfl (Qs 1 rfl (Za ?_)))))
   refine ⟨_, ?_, (i + 1), ra74, rb74, rc74, (ys ++ [((xs32.getD i (0, 0, 0)).1, (xs32.getD i (0, 0, 0)).2.1, of74)]), a88, c88, rfl, rfl, ⟨rfl, rfl, rfl, rfl, rfl, Zt, trivial⟩, (by omega), ⟨⟨by omega, by omega⟩, ⟨by omega, by omega⟩, by omega, by omega⟩, (okU_snoc hyu ⟨⟨by dsimp only; omega, by dsimp only; omega⟩, ⟨by dsimp only; omega, by dsimp only; omega⟩, by dsimp only; omega, by dsimp only; omega⟩), (((hb36.upd hU88).Zc hU89).Zc hU90), (((hO88.Zc hU89).Zc hU90).weak), (((HL47.trans hU88).Zb hU89).Zb hU90)⟩
   omega
  rw [decide_eq_false q11]
  refine Cf (ZI (Zz (Yk (T := fun g => g = B2) rfl (l0 := tf 0 8) (by kernel_rfl) (Sq (Upd.refl _ _) rfl (Sv (Upd.refl _ _) rfl (fun w' hw' => Xt (cs := [.slice X.tr.1 X.tr.2.1 X.tr.2.2, .int .i64 lg15, .slice a15 m15 c15, .int .i64 lg20, .slice a20 m20 c20, .int .i64 lg25, .slice a25 m25 c25, .int .i64 sa, .int .i64 sb, .int .i64 sc]) isAgg56 sizeOf56 rfl (hb36.Zh hw') rfl rfl) (Sq (Upd.refl _ _) rfl (Sv (Upd.refl _ _) rfl (fun _ _ => ZM underlying22 rfl) (Sq (Upd.refl _ _) rfl ?_))))))))
  intro w91 hU91
  have:=hU91.size
  try replace hW := hW.Zb hU91
  refine Wo 5 (tf 6 8) rfl ?_
  have hW : Upd (fun g => g = B2) w47 w47 := (Upd.refl _ _)
  replace hb2 := hb2.Zc hU91
  refine Xa sizeOf56 rfl rfl rfl rfl hb2 rfl ?_
  intro w92 hU92 hzz92 hb2
  refine Za ?_
  intro w93 hS93
  replace hW := (hW.Zb hU91).Zr hU92
  have hX93 : Upd _ w47 w93 := hW.Zb hS93.upd
  refine bF hX93 ?_
  have hU93 := hS93.upd
  have:=hU93.size
  try replace hW := hW.Zb hU93
  refine Z8 (Sq hX93 rfl (Sq hX93 rfl ?_))
  intro w94 hU94
  have:=hU94.size
  try replace hW := hW.Zb hU94
  exact Wd (Zn (Zg rfl (rm_tctt results88 rfl rfl rfl rfl (Zu isAgg56 sizeOf56 rfl ((hb2.Zc hU93).Zc hU94))) ⟨_, rfl, a9, i, c9, ys, (⟨(X.tr.1, X.tr.2.1, X.tr.2.2), lg15, (a15, m15, c15), lg20, (a20, m20, c20), lg25, (a25, m25, c25), sa, sb, sc⟩ : CV), m, 0, rfl, (((((hO.Zc hU91).Zh hU92).Zc hU93).Zc hU94).weak), ⟨(IS.of ((((((hcT.upd hU47).Zc hU91).Zh hU92).Zc hU93).Zc hU94).weak (fun g h => .inl h.1)) (by omega)), (IS.of ((((((hO15.upd hU47).Zc hU91).Zh hU92).Zc hU93).Zc hU94).weak (fun g h => h.1.imp And.left (Nat.le_trans (by omega)))) (by omega)), (IS.of ((((((hO20.upd hU47).Zc hU91).Zh hU92).Zc hU93).Zc hU94).weak (fun g h => h.1.imp And.left (Nat.le_trans (by omega)))) (by omega)), (IS.of ((((((hO25.upd hU47).Zc hU91).Zh hU92).Zc hU93).Zc hU94).weak (fun g h => h.1.imp And.left (Nat.le_trans (by omega)))) (by omega))⟩, hyu, (by omega), (by omega), (fun _ => hss), ((((HU.Zb hU91).t1 hU92).Zb hU93).Zb hU94)⟩))
 rw [decide_eq_false q1]
 refine Gf (Gf (Zf (Zw (v := .bool false) rfl rfl) (Za (Cf (Zi (Sm (Qs 2 rfl (Za ?_))))))))
 have q14 : e4 ≠ 0 := q1
 rw [decide_eq_true q14]
 refine Ct (Sn (Zf (ZF (pl := #[(0, 1), (1, 2), (3, 2), (5, 2), (7, 3)]) (pv := []) (cs := #[.slice none 0 0, .int .i64 0, .slice none 0 0, .int .i64 0, .slice none 0 0, .int .i64 0, .slice none 0 0, .int .i64 0, .int .i64 0, .int .i64 0]) zeroValue56 underlying56 (fun w => by kernel_rfl)) (Qs 2 rfl (Xa sizeOf56 rfl rfl rfl rfl hb2 rfl ?_))))
 intro w95 hU95 hzz95 hb2
 exact Qs 2 rfl (Za (Zn (Zg rfl (rm_tctt results88 rfl rfl rfl rfl (Zu isAgg56 sizeOf56 rfl hb2)) ⟨_, rfl, none, 0, 0, [], cz 0 0 0, 0, e4, rfl, Own.nil _ _ _ _, Cx.nil _ _ _ _ _, okU_nil, (by omega), (by omega), (fun h => absurd h q14), (HU.t1 hU95)⟩)))
end Go.Proofs.YtbjjhfoeckkacaaGreatDoor
