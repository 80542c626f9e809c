/-
  Several texts of this project, put together.
-/
import Derived.Test.YtbjjhfoeckkacaaGreatDoorFZ
import Derived.Test.YtbjjhfoeckkacaaGreatDoorDJ
set_option linter.unusedVariables false
set_option linter.unusedSimpArgs false
set_option maxRecDepth 100000
set_option maxHeartbeats 16000000
namespace Go.Proofs.YtbjjhfoeckkacaaGreatDoor
open Go.Fw _root_.Go.Proofs.Tryz
theorem wrepeats {r0 r1 r2 : Int} (w : World) (hr0 : (1 ≤ r0 ∧ r0 ≤ 134217728)) (hr1 : (1 ≤ r1 ∧ r1 ≤ 134217728)) (hr2 : (1 ≤ r2 ∧ r2 ≤ 134217728)) :
  Calls Tryz.prog 107 #[.agg #[.int .i64 r0, .int .i64 r1, .int .i64 r2]] w (Ret fun v w' => v = .bool true ∧ Upd No w w') := by
 have HU := Upd.Yo w
 refine Zq func107 rfl ntmps107 (by simp) (Sn (Xb rfl ?_))
 intro B1 w1 hB1 hU1 hzz1 hb1
 refine Qs 1 rfl (Za (Sm (Qs 1 rfl (Za (Zs (W_unroll 4 (ZX (Sm (Qs 1 rfl (Zf (v := .bool true) (YL (a := 0) (b := 3) rfl rfl) (Za (Ct (Zi (Zz (Zs (Sn (Qs 1 rfl (Zf (Z0 (len := 3) (i' := 0) (o' := 0) underlying54 sizeOf3 rfl rfl (by omega) (by omega) (by omega)) (Zk isAgg3 rfl hb1 rfl (Qs 2 rfl ?_))))))))))))))))))))
 have q1 : ¬ (r0 < 1) := (by omega)
 rw [decide_eq_false q1]
 refine Gt (Qs 1 rfl (Gt (Zf (Z0 (len := 3) (i' := 0) (o' := 0) underlying54 sizeOf3 rfl rfl (by omega) (by omega) (by omega)) (Gt (Zk isAgg3 rfl hb1 rfl (Gt (Qs 1 rfl (Zf (Zw (v := .bool (decide (134217728 < r0))) rfl rfl) (Za ?_)))))))))
 have q2 : ¬ (134217728 < r0) := (by omega)
 rw [decide_eq_false q2]
 refine Cf (Zi (Zl (Qs 1 rfl (Zf (Yf rfl rfl (show IntKind.i64.wrap (0 + 1) = 1 by decide)) (Qs 1 rfl (Za (ZX (Sm (Qs 1 rfl (Zf (v := .bool true) (YL (a := 1) (b := 3) rfl rfl) (Za (Ct (Zi (Zz (Zs (Sn (Qs 1 rfl (Zf (Z0 (len := 3) (i' := 1) (o' := 1) underlying54 sizeOf3 rfl rfl (by omega) (by omega) (by omega)) (Zk isAgg3 rfl hb1 rfl (Qs 2 rfl ?_))))))))))))))))))))
 have q3 : ¬ (r1 < 1) := (by omega)
 rw [decide_eq_false q3]
 refine Gt (Qs 1 rfl (Gt (Zf (Z0 (len := 3) (i' := 1) (o' := 1) underlying54 sizeOf3 rfl rfl (by omega) (by omega) (by omega)) (Gt (Zk isAgg3 rfl hb1 rfl (Gt (Qs 1 rfl (Zf (Zw (v := .bool (decide (134217728 < r1))) rfl rfl) (Za ?_)))))))))
 have q4 : ¬ (134217728 < r1) := (by omega)
 rw [decide_eq_false q4]
 refine Cf (Zi (Zl (Qs 1 rfl (Zf (Yf rfl rfl (show IntKind.i64.wrap (1 + 1) = 2 by decide)) (Qs 1 rfl (Za (ZX (Sm (Qs 1 rfl (Zf (v := .bool true) (YL (a := 2) (b := 3) rfl rfl) (Za (Ct (Zi (Zz (Zs (Sn (Qs 1 rfl (Zf (Z0 (len := 3) (i' := 2) (o' := 2) underlying54 sizeOf3 rfl rfl (by omega) (by omega) (by omega)) (Zk isAgg3 rfl hb1 rfl (Qs 2 rfl ?_))))))))))))))))))))
 have q5 : ¬ (r2 < 1) := (by omega)
 rw [decide_eq_false q5]
 refine Gt (Qs 1 rfl (Gt (Zf (Z0 (len := 3) (i' := 2) (o' := 2) underlying54 sizeOf3 rfl rfl (by omega) (by omega) (by omega)) (Gt (Zk isAgg3 rfl hb1 rfl (Gt (Qs 1 rfl (Zf (Zw (v := .bool (decide (134217728 < r2))) rfl rfl) (Za ?_)))))))))
 have q6 : ¬ (134217728 < r2) := (by omega)
 rw [decide_eq_false q6]
 exact Cf (Zi (Zl (Qs 1 rfl (Zf (Yf rfl rfl (show IntKind.i64.wrap (2 + 1) = 3 by decide)) (Qs 1 rfl (Za (ZX (Sm (Qs 1 rfl (Zf (v := .bool false) (YL (a := 3) (b := 3) rfl rfl) (Za (Cf (ZI (Sn (Qs 1 rfl (Za (Zn (Zg rfl (Z9 results107 rfl) ⟨_, rfl, rfl, (HU.Zb hU1)⟩))))))))))))))))))
theorem woffset {r0 r1 r2 v9 n9 : Int} (w : World) (hr0 : (1 ≤ r0 ∧ r0 ≤ 134217728)) (hr1 : (1 ≤ r1 ∧ r1 ≤ 134217728)) (hr2 : (1 ≤ r2 ∧ r2 ≤ 134217728)) (hv : 1 ≤ v9 ∧ v9 ≤ 10000000000) (hn : 0 ≤ n9 ∧ n9 ≤ 10000000000) :
  Calls Tryz.prog 110 #[.agg #[.int .i64 r0, .int .i64 r1, .int .i64 r2], .int .i64 v9, .int .i64 n9] w (Ret fun v w' => ∃ (of : Int) (ra : Int) (rb : Int) (rc : Int) (e : Int), v = .tuple #[.int .i64 of, .agg #[.int .i64 ra, .int .i64 rb, .int .i64 rc], .int .i64 e] ∧ 1 ≤ ra ∧ ra ≤ 134217728 ∧ 1 ≤ rb ∧ rb ≤ 134217728 ∧ 1 ≤ rc ∧ rc ≤ 134217728 ∧ (e = 0 → 1 ≤ of ∧ of ≤ 134217728) ∧ Upd No w w') := by
 have HU := Upd.Yo w
 refine Zq func110 rfl ntmps110 (by simp) (Sn (Xb rfl ?_))
 intro B1 w1 hB1 hU1 hzz1 hb1
 refine Qs 1 rfl (ZB zeroValue54 rfl ?_)
 intro B2 w2 hB2 hU2 hzz2 hb2
 refine Qs 1 rfl (Za (Sn ?_))
 replace HU := (HU.Zb hU1).Zb hU2
 replace hb1 := hb1.Zc hU2
 by_cases q1 : v9 = 1
 ·refine Qs 1 rfl ?_
  rw [show (v9 : Int) = 1 from q1]
  refine Qs 1 rfl (Za (Sm (Qs 2 rfl (Za (W_if rfl (fun q2 => ?_) fun q2 => ?_)))))
  ·refine Zl (Qs 1 rfl (Zf (Yf rfl rfl (show IntKind.i64.wrap (1 + 1) = 2 by decide)) (Qs 1 rfl (Za (Sn (Qs 1 rfl (Za (Zz (Zs (Sn (Qs 1 rfl (Zf (v := .bool false) (r_gt (a := 1) (b := 3) rfl rfl) (Qs 1 rfl (Za (Cf (Sn (Qs 1 rfl (Zf (v := .bool false) (YK (a := 2) (b := 4) rfl rfl) (Qs 1 rfl (Za (Cf (Zl (Qs 1 rfl (Zf (Y7 rfl rfl (show IntKind.i64.wrap (2 - 1) = 1 by decide)) (Zf (Z0 (len := 3) (i' := 1) (o' := 1) underlying54 sizeOf3 rfl rfl (by omega) (by omega) (by omega)) (Zk isAgg3 rfl hb1 rfl (Qs 1 rfl (Za (Sm (Qs 3 rfl ?_))))))))))))))))))))))))))))))
   by_cases q3 : r1 < 1
   ·rw [decide_eq_true q3]
    refine Gf (Gf (Zf (Zx (v := .bool true) rfl rfl) (Za (Ct (Zz (ZJ rfl (l0 := tf 0 4) (by kernel_rfl) (Tv rfl (fun w' hw' => Xt (cs := [.int .i64 r0, .int .i64 r1, .int .i64 r2]) isAgg54 sizeOf54 rfl (hb1.Zc hw') rfl rfl) (Tq rfl ?_))))))))
    intro w3 hU3
    have:=hU3.size
    refine Wo 2 (tf 3 4) rfl ?_
    have hW : Upd No w2 w3 := hU3
    replace hb2 := hb2.Zc hU3
    refine Xa sizeOf54 rfl rfl rfl rfl hb2 rfl ?_
    intro w4 hU4 hzz4 hb2
    refine Za ?_
    intro w5 hS5
    refine bT (Upd No w5) ?_
    have hU5 := hS5.upd
    have:=hU5.size
    try replace hW := hW.Zb hU5
    refine ZQ (Upd.refl _ _) (Tq rfl ?_)
    intro w6 hU6
    have:=hU6.size
    try replace hW := hW.Zb hU6
    exact Wd (Zn (Zg rfl (YC results110 rfl rfl rfl (Zu isAgg54 sizeOf54 rfl ((hb2.Zc hU5).Zc hU6))) ⟨_, rfl, 0, r0, r1, r2, 15, rfl, (by omega), (by omega), (by omega), (by omega), (by omega), (by omega), (by omega), ((((HU.Zb hU3).t1 hU4).Zb hU5).Zb hU6)⟩))
   rw [decide_eq_false q3]
   refine Gt (Qs 1 rfl (Gt (Qs 1 rfl (Zf (Zw (v := .bool (decide (134217728 < r1))) rfl rfl) (Za (W_if rfl (fun q4 => ?_) fun q4 => ?_))))))
   ·refine Zz (ZJ rfl (l0 := tf 0 4) (by kernel_rfl) (Tv rfl (fun w' hw' => Xt (cs := [.int .i64 r0, .int .i64 r1, .int .i64 r2]) isAgg54 sizeOf54 rfl (hb1.Zc hw') rfl rfl) (Tq rfl ?_)))
    intro w7 hU7
    have:=hU7.size
    refine Wo 2 (tf 3 4) rfl ?_
    have hW : Upd No w2 w7 := hU7
    replace hb2 := hb2.Zc hU7
    refine Xa sizeOf54 rfl rfl rfl rfl hb2 rfl ?_
    intro w8 hU8 hzz8 hb2
    refine Za ?_
    intro w9 hS9
    refine bT (Upd No w9) ?_
    have hU9 := hS9.upd
    have:=hU9.size
    try replace hW := hW.Zb hU9
    refine ZQ (Upd.refl _ _) (Tq rfl ?_)
    intro w10 hU10
    have:=hU10.size
    try replace hW := hW.Zb hU10
    exact Wd (Zn (Zg rfl (YC results110 rfl rfl rfl (Zu isAgg54 sizeOf54 rfl ((hb2.Zc hU9).Zc hU10))) ⟨_, rfl, 0, r0, r1, r2, 15, rfl, (by omega), (by omega), (by omega), (by omega), (by omega), (by omega), (by omega), ((((HU.Zb hU7).t1 hU8).Zb hU9).Zb hU10)⟩))
   refine Zi (Zz (Zs (Sn (Qs 1 rfl (Zf (v := .bool true) (r_le (a := 1) (b := 3) rfl rfl) (Qs 1 rfl (Gt (Qs 1 rfl (Gt (Zf (v := .bool false) (YK (a := 2) (b := 1) rfl rfl) (Zf (Zx (v := .bool false) rfl rfl) (Qs 1 rfl (Za (Cf (Sn (Qs 1 rfl (Zf (v := .bool true) (r_le (a := 1) (b := 3) rfl rfl) (Qs 1 rfl (Gt (Qs 1 rfl (Gt (Zf (v := .bool true) (YK (a := 2) (b := 2) rfl rfl) (Zf (Zx (v := .bool true) rfl rfl) (Qs 1 rfl (Za (Ct (Zz (ZJ rfl (l0 := tf 0 10) (by kernel_rfl) (Tq rfl (Tq rfl (Tv rfl (fun _ _ => Z0 (len := 3) (i' := 0) (o' := 0) underlying54 sizeOf3 rfl rfl (by omega) (by omega) (by omega)) (Tl rfl isAgg3 rfl hb1 rfl (Tv rfl (fun _ _ => Z0 (len := 3) (i' := 2) (o' := 2) underlying54 sizeOf3 rfl rfl (by omega) (by omega) (by omega)) (Tl rfl isAgg3 rfl hb1 rfl (Tv rfl (v := .agg #[.int .i64 r1, .int .i64 r0, .int .i64 r2]) (fun _ _ => YN (pv := [(0, .int .i64 r1), (1, .int .i64 r0), (2, .int .i64 r2)]) (cs := #[.int .i64 r1, .int .i64 r0, .int .i64 r2]) zeroValue54 underlying54 sizeOf3) (Tq rfl ?_))))))))))))))))))))))))))))))))))))
   intro w11 hU11
   have:=hU11.size
   refine Wo 8 (tf 9 10) rfl ?_
   have hW : Upd No w2 w11 := hU11
   replace hb2 := hb2.Zc hU11
   refine Xa sizeOf54 rfl rfl rfl rfl hb2 rfl ?_
   intro w12 hU12 hzz12 hb2
   refine Za ?_
   intro w13 hS13
   refine bT (Upd No w13) ?_
   have hU13 := hS13.upd
   have:=hU13.size
   try replace hW := hW.Zb hU13
   refine ZQ (Upd.refl _ _) (Tq rfl ?_)
   intro w14 hU14
   have:=hU14.size
   try replace hW := hW.Zb hU14
   exact Wd (Zn (Zg rfl (YC results110 rfl rfl rfl (Zu isAgg54 sizeOf54 rfl ((hb2.Zc hU13).Zc hU14))) ⟨_, rfl, r1, r1, r0, r2, 0, rfl, (by omega), (by omega), (by omega), (by omega), (by omega), (by omega), (by omega), ((((HU.Zb hU11).t1 hU12).Zb hU13).Zb hU14)⟩))
  refine Zi (Sn (Qs 1 rfl (Za (Zz (Zs (Sn (Qs 1 rfl (Zf (v := .bool false) (r_gt (a := 1) (b := 3) rfl rfl) (Qs 1 rfl (Za (Cf (Sn (Qs 1 rfl (Zf (v := .bool false) (YK (a := 1) (b := 4) rfl rfl) (Qs 1 rfl (Za (Cf (Zl (Qs 1 rfl (Zf (Y7 rfl rfl (show IntKind.i64.wrap (1 - 1) = 0 by decide)) (Zf (Z0 (len := 3) (i' := 0) (o' := 0) underlying54 sizeOf3 rfl rfl (by omega) (by omega) (by omega)) (Zk isAgg3 rfl hb1 rfl (Qs 1 rfl (Za (Sm (Qs 3 rfl ?_))))))))))))))))))))))))))
  by_cases q5 : r0 < 1
  ·rw [decide_eq_true q5]
   refine Gf (Gf (Zf (Zx (v := .bool true) rfl rfl) (Za (Ct (Zz (ZJ rfl (l0 := tf 0 4) (by kernel_rfl) (Tv rfl (fun w' hw' => Xt (cs := [.int .i64 r0, .int .i64 r1, .int .i64 r2]) isAgg54 sizeOf54 rfl (hb1.Zc hw') rfl rfl) (Tq rfl ?_))))))))
   intro w15 hU15
   have:=hU15.size
   refine Wo 2 (tf 3 4) rfl ?_
   have hW : Upd No w2 w15 := hU15
   replace hb2 := hb2.Zc hU15
   refine Xa sizeOf54 rfl rfl rfl rfl hb2 rfl ?_
   intro w16 hU16 hzz16 hb2
   refine Za ?_
   intro w17 hS17
   refine bT (Upd No w17) ?_
   have hU17 := hS17.upd
   have:=hU17.size
   try replace hW := hW.Zb hU17
   refine ZQ (Upd.refl _ _) (Tq rfl ?_)
   intro w18 hU18
   have:=hU18.size
   try replace hW := hW.Zb hU18
   exact Wd (Zn (Zg rfl (YC results110 rfl rfl rfl (Zu isAgg54 sizeOf54 rfl ((hb2.Zc hU17).Zc hU18))) ⟨_, rfl, 0, r0, r1, r2, 15, rfl, (by omega), (by omega), (by omega), (by omega), (by omega), (by omega), (by omega), ((((HU.Zb hU15).t1 hU16).Zb hU17).Zb hU18)⟩))
  rw [decide_eq_false q5]
  refine Gt (Qs 1 rfl (Gt (Qs 1 rfl (Zf (Zw (v := .bool (decide (134217728 < r0))) rfl rfl) (Za (W_if rfl (fun q6 => ?_) fun q6 => ?_))))))
  ·refine Zz (ZJ rfl (l0 := tf 0 4) (by kernel_rfl) (Tv rfl (fun w' hw' => Xt (cs := [.int .i64 r0, .int .i64 r1, .int .i64 r2]) isAgg54 sizeOf54 rfl (hb1.Zc hw') rfl rfl) (Tq rfl ?_)))
   intro w19 hU19
   have:=hU19.size
   refine Wo 2 (tf 3 4) rfl ?_
   have hW : Upd No w2 w19 := hU19
   replace hb2 := hb2.Zc hU19
   refine Xa sizeOf54 rfl rfl rfl rfl hb2 rfl ?_
   intro w20 hU20 hzz20 hb2
   refine Za ?_
   intro w21 hS21
   refine bT (Upd No w21) ?_
   have hU21 := hS21.upd
   have:=hU21.size
   try replace hW := hW.Zb hU21
   refine ZQ (Upd.refl _ _) (Tq rfl ?_)
   intro w22 hU22
   have:=hU22.size
   try replace hW := hW.Zb hU22
   exact Wd (Zn (Zg rfl (YC results110 rfl rfl rfl (Zu isAgg54 sizeOf54 rfl ((hb2.Zc hU21).Zc hU22))) ⟨_, rfl, 0, r0, r1, r2, 15, rfl, (by omega), (by omega), (by omega), (by omega), (by omega), (by omega), (by omega), ((((HU.Zb hU19).t1 hU20).Zb hU21).Zb hU22)⟩))
  refine Zi (Zz (Zs (Sn (Qs 1 rfl (Zf (v := .bool true) (r_le (a := 1) (b := 3) rfl rfl) (Qs 1 rfl (Gt (Qs 1 rfl (Gt (Zf (v := .bool true) (YK (a := 1) (b := 1) rfl rfl) (Zf (Zx (v := .bool true) rfl rfl) (Qs 1 rfl (Za (Ct (Zz (ZJ rfl (l0 := tf 0 5) (by kernel_rfl) (Tq rfl (Tv rfl (fun w' hw' => Xt (cs := [.int .i64 r0, .int .i64 r1, .int .i64 r2]) isAgg54 sizeOf54 rfl (hb1.Zc hw') rfl rfl) (Tq rfl ?_)))))))))))))))))))
  intro w23 hU23
  have:=hU23.size
  refine Wo 3 (tf 4 5) rfl ?_
  have hW : Upd No w2 w23 := hU23
  replace hb2 := hb2.Zc hU23
  refine Xa sizeOf54 rfl rfl rfl rfl hb2 rfl ?_
  intro w24 hU24 hzz24 hb2
  refine Za ?_
  intro w25 hS25
  refine bT (Upd No w25) ?_
  have hU25 := hS25.upd
  have:=hU25.size
  try replace hW := hW.Zb hU25
  refine ZQ (Upd.refl _ _) (Tq rfl ?_)
  intro w26 hU26
  have:=hU26.size
  try replace hW := hW.Zb hU26
  exact Wd (Zn (Zg rfl (YC results110 rfl rfl rfl (Zu isAgg54 sizeOf54 rfl ((hb2.Zc hU25).Zc hU26))) ⟨_, rfl, r0, r0, r1, r2, 0, rfl, (by omega), (by omega), (by omega), (by omega), (by omega), (by omega), (by omega), ((((HU.Zb hU23).t1 hU24).Zb hU25).Zb hU26)⟩))
 by_cases q7 : v9 = 2
 ·refine Qs 1 rfl ?_
  rw [show (v9 : Int) = 2 from q7]
  refine Qs 1 rfl (Za (Sm (Qs 2 rfl (Za (W_if rfl (fun q8 => ?_) fun q8 => ?_)))))
  ·refine Zl (Qs 1 rfl (Zf (Yf rfl rfl (show IntKind.i64.wrap (2 + 1) = 3 by decide)) (Qs 1 rfl (Za (Sn (Qs 1 rfl (Za (Zz (Zs (Sn (Qs 1 rfl (Zf (v := .bool false) (r_gt (a := 2) (b := 3) rfl rfl) (Qs 1 rfl (Za (Cf (Sn (Qs 1 rfl (Zf (v := .bool false) (YK (a := 3) (b := 4) rfl rfl) (Qs 1 rfl (Za (Cf (Zl (Qs 1 rfl (Zf (Y7 rfl rfl (show IntKind.i64.wrap (3 - 1) = 2 by decide)) (Zf (Z0 (len := 3) (i' := 2) (o' := 2) underlying54 sizeOf3 rfl rfl (by omega) (by omega) (by omega)) (Zk isAgg3 rfl hb1 rfl (Qs 1 rfl (Za (Sm (Qs 3 rfl ?_))))))))))))))))))))))))))))))
   by_cases q9 : r2 < 1
   ·rw [decide_eq_true q9]
    refine Gf (Gf (Zf (Zx (v := .bool true) rfl rfl) (Za (Ct (Zz (ZJ rfl (l0 := tf 0 4) (by kernel_rfl) (Tv rfl (fun w' hw' => Xt (cs := [.int .i64 r0, .int .i64 r1, .int .i64 r2]) isAgg54 sizeOf54 rfl (hb1.Zc hw') rfl rfl) (Tq rfl ?_))))))))
    intro w27 hU27
    have:=hU27.size
    refine Wo 2 (tf 3 4) rfl ?_
    have hW : Upd No w2 w27 := hU27
    replace hb2 := hb2.Zc hU27
    refine Xa sizeOf54 rfl rfl rfl rfl hb2 rfl ?_
    intro w28 hU28 hzz28 hb2
    refine Za ?_
    intro w29 hS29
    refine bT (Upd No w29) ?_
    have hU29 := hS29.upd
    have:=hU29.size
    try replace hW := hW.Zb hU29
    refine ZQ (Upd.refl _ _) (Tq rfl ?_)
    intro w30 hU30
    have:=hU30.size
    try replace hW := hW.Zb hU30
    exact Wd (Zn (Zg rfl (YC results110 rfl rfl rfl (Zu isAgg54 sizeOf54 rfl ((hb2.Zc hU29).Zc hU30))) ⟨_, rfl, 0, r0, r1, r2, 15, rfl, (by omega), (by omega), (by omega), (by omega), (by omega), (by omega), (by omega), ((((HU.Zb hU27).t1 hU28).Zb hU29).Zb hU30)⟩))
   rw [decide_eq_false q9]
   refine Gt (Qs 1 rfl (Gt (Qs 1 rfl (Zf (Zw (v := .bool (decide (134217728 < r2))) rfl rfl) (Za (W_if rfl (fun q10 => ?_) fun q10 => ?_))))))
   ·refine Zz (ZJ rfl (l0 := tf 0 4) (by kernel_rfl) (Tv rfl (fun w' hw' => Xt (cs := [.int .i64 r0, .int .i64 r1, .int .i64 r2]) isAgg54 sizeOf54 rfl (hb1.Zc hw') rfl rfl) (Tq rfl ?_)))
    intro w31 hU31
    have:=hU31.size
    refine Wo 2 (tf 3 4) rfl ?_
    have hW : Upd No w2 w31 := hU31
    replace hb2 := hb2.Zc hU31
    refine Xa sizeOf54 rfl rfl rfl rfl hb2 rfl ?_
    intro w32 hU32 hzz32 hb2
    refine Za ?_
    intro w33 hS33
    refine bT (Upd No w33) ?_
    have hU33 := hS33.upd
    have:=hU33.size
    try replace hW := hW.Zb hU33
    refine ZQ (Upd.refl _ _) (Tq rfl ?_)
    intro w34 hU34
    have:=hU34.size
    try replace hW := hW.Zb hU34
    exact Wd (Zn (Zg rfl (YC results110 rfl rfl rfl (Zu isAgg54 sizeOf54 rfl ((hb2.Zc hU33).Zc hU34))) ⟨_, rfl, 0, r0, r1, r2, 15, rfl, (by omega), (by omega), (by omega), (by omega), (by omega), (by omega), (by omega), ((((HU.Zb hU31).t1 hU32).Zb hU33).Zb hU34)⟩))
   refine Zi (Zz (Zs (Sn (Qs 1 rfl (Zf (v := .bool true) (r_le (a := 2) (b := 3) rfl rfl) (Qs 1 rfl (Gt (Qs 1 rfl (Gt (Zf (v := .bool false) (YK (a := 3) (b := 1) rfl rfl) (Zf (Zx (v := .bool false) rfl rfl) (Qs 1 rfl (Za (Cf (Sn (Qs 1 rfl (Zf (v := .bool true) (r_le (a := 2) (b := 3) rfl rfl) (Qs 1 rfl (Gt (Qs 1 rfl (Gt (Zf (v := .bool false) (YK (a := 3) (b := 2) rfl rfl) (Zf (Zx (v := .bool false) rfl rfl) (Qs 1 rfl (Za (Cf (Zi (Zz (ZJ rfl (l0 := tf 0 10) (by kernel_rfl) (Tq rfl (Tq rfl (Tv rfl (fun _ _ => Z0 (len := 3) (i' := 0) (o' := 0) underlying54 sizeOf3 rfl rfl (by omega) (by omega) (by omega)) (Tl rfl isAgg3 rfl hb1 rfl (Tv rfl (fun _ _ => Z0 (len := 3) (i' := 1) (o' := 1) underlying54 sizeOf3 rfl rfl (by omega) (by omega) (by omega)) (Tl rfl isAgg3 rfl hb1 rfl (Tv rfl (v := .agg #[.int .i64 r2, .int .i64 r0, .int .i64 r1]) (fun _ _ => YN (pv := [(0, .int .i64 r2), (1, .int .i64 r0), (2, .int .i64 r1)]) (cs := #[.int .i64 r2, .int .i64 r0, .int .i64 r1]) zeroValue54 underlying54 sizeOf3) (Tq rfl ?_)))))))))))))))))))))))))))))))))))))
   intro w35 hU35
   have:=hU35.size
   refine Wo 8 (tf 9 10) rfl ?_
   have hW : Upd No w2 w35 := hU35
   replace hb2 := hb2.Zc hU35
   refine Xa sizeOf54 rfl rfl rfl rfl hb2 rfl ?_
   intro w36 hU36 hzz36 hb2
   refine Za ?_
   intro w37 hS37
   refine bT (Upd No w37) ?_
   have hU37 := hS37.upd
   have:=hU37.size
   try replace hW := hW.Zb hU37
   refine ZQ (Upd.refl _ _) (Tq rfl ?_)
   intro w38 hU38
   have:=hU38.size
   try replace hW := hW.Zb hU38
   exact Wd (Zn (Zg rfl (YC results110 rfl rfl rfl (Zu isAgg54 sizeOf54 rfl ((hb2.Zc hU37).Zc hU38))) ⟨_, rfl, r2, r2, r0, r1, 0, rfl, (by omega), (by omega), (by omega), (by omega), (by omega), (by omega), (by omega), ((((HU.Zb hU35).t1 hU36).Zb hU37).Zb hU38)⟩))
  refine Zi (Sn (Qs 1 rfl (Za (Zz (Zs (Sn (Qs 1 rfl (Zf (v := .bool false) (r_gt (a := 2) (b := 3) rfl rfl) (Qs 1 rfl (Za (Cf (Sn (Qs 1 rfl (Zf (v := .bool false) (YK (a := 2) (b := 4) rfl rfl) (Qs 1 rfl (Za (Cf (Zl (Qs 1 rfl (Zf (Y7 rfl rfl (show IntKind.i64.wrap (2 - 1) = 1 by decide)) (Zf (Z0 (len := 3) (i' := 1) (o' := 1) underlying54 sizeOf3 rfl rfl (by omega) (by omega) (by omega)) (Zk isAgg3 rfl hb1 rfl (Qs 1 rfl (Za (Sm (Qs 3 rfl ?_))))))))))))))))))))))))))
  by_cases q11 : r1 < 1
  ·rw [decide_eq_true q11]
   refine Gf (Gf (Zf (Zx (v := .bool true) rfl rfl) (Za (Ct (Zz (ZJ rfl (l0 := tf 0 4) (by kernel_rfl) (Tv rfl (fun w' hw' => Xt (cs := [.int .i64 r0, .int .i64 r1, .int .i64 r2]) isAgg54 sizeOf54 rfl (hb1.Zc hw') rfl rfl) (Tq rfl ?_))))))))
   intro w39 hU39
   have:=hU39.size
   refine Wo 2 (tf 3 4) rfl ?_
   have hW : Upd No w2 w39 := hU39
   replace hb2 := hb2.Zc hU39
   refine Xa sizeOf54 rfl rfl rfl rfl hb2 rfl ?_
   intro w40 hU40 hzz40 hb2
   refine Za ?_
   intro w41 hS41
   refine bT (Upd No w41) ?_
   have hU41 := hS41.upd
   have:=hU41.size
   try replace hW := hW.Zb hU41
   refine ZQ (Upd.refl _ _) (Tq rfl ?_)
   intro w42 hU42
   have:=hU42.size
   try replace hW := hW.Zb hU42
   exact Wd (Zn (Zg rfl (YC results110 rfl rfl rfl (Zu isAgg54 sizeOf54 rfl ((hb2.Zc hU41).Zc hU42))) ⟨_, rfl, 0, r0, r1, r2, 15, rfl, (by omega), (by omega), (by omega), (by omega), (by omega), (by omega), (by omega), ((((HU.Zb hU39).t1 hU40).Zb hU41).Zb hU42)⟩))
  rw [decide_eq_false q11]
  refine Gt (Qs 1 rfl (Gt (Qs 1 rfl (Zf (Zw (v := .bool (decide (134217728 < r1))) rfl rfl) (Za (W_if rfl (fun q12 => ?_) fun q12 => ?_))))))
  ·refine Zz (ZJ rfl (l0 := tf 0 4) (by kernel_rfl) (Tv rfl (fun w' hw' => Xt (cs := [.int .i64 r0, .int .i64 r1, .int .i64 r2]) isAgg54 sizeOf54 rfl (hb1.Zc hw') rfl rfl) (Tq rfl ?_)))
   intro w43 hU43
   have:=hU43.size
   refine Wo 2 (tf 3 4) rfl ?_
   have hW : Upd No w2 w43 := hU43
   replace hb2 := hb2.Zc hU43
   refine Xa sizeOf54 rfl rfl rfl rfl hb2 rfl ?_
   intro w44 hU44 hzz44 hb2
   refine Za ?_
   intro w45 hS45
   refine bT (Upd No w45) ?_
   have hU45 := hS45.upd
   have:=hU45.size
   try replace hW := hW.Zb hU45
   refine ZQ (Upd.refl _ _) (Tq rfl ?_)
   intro w46 hU46
   have:=hU46.size
   try replace hW := hW.Zb hU46
   exact Wd (Zn (Zg rfl (YC results110 rfl rfl rfl (Zu isAgg54 sizeOf54 rfl ((hb2.Zc hU45).Zc hU46))) ⟨_, rfl, 0, r0, r1, r2, 15, rfl, (by omega), (by omega), (by omega), (by omega), (by omega), (by omega), (by omega), ((((HU.Zb hU43).t1 hU44).Zb hU45).Zb hU46)⟩))
  refine Zi (Zz (Zs (Sn (Qs 1 rfl (Zf (v := .bool true) (r_le (a := 2) (b := 3) rfl rfl) (Qs 1 rfl (Gt (Qs 1 rfl (Gt (Zf (v := .bool false) (YK (a := 2) (b := 1) rfl rfl) (Zf (Zx (v := .bool false) rfl rfl) (Qs 1 rfl (Za (Cf (Sn (Qs 1 rfl (Zf (v := .bool true) (r_le (a := 2) (b := 3) rfl rfl) (Qs 1 rfl (Gt (Qs 1 rfl (Gt (Zf (v := .bool true) (YK (a := 2) (b := 2) rfl rfl) (Zf (Zx (v := .bool true) rfl rfl) (Qs 1 rfl (Za (Ct (Zz (ZJ rfl (l0 := tf 0 10) (by kernel_rfl) (Tq rfl (Tq rfl (Tv rfl (fun _ _ => Z0 (len := 3) (i' := 0) (o' := 0) underlying54 sizeOf3 rfl rfl (by omega) (by omega) (by omega)) (Tl rfl isAgg3 rfl hb1 rfl (Tv rfl (fun _ _ => Z0 (len := 3) (i' := 2) (o' := 2) underlying54 sizeOf3 rfl rfl (by omega) (by omega) (by omega)) (Tl rfl isAgg3 rfl hb1 rfl (Tv rfl (v := .agg #[.int .i64 r1, .int .i64 r0, .int .i64 r2]) (fun _ _ => YN (pv := [(0, .int .i64 r1), (1, .int .i64 r0), (2, .int .i64 r2)]) (cs := #[.int .i64 r1, .int .i64 r0, .int .i64 r2]) zeroValue54 underlying54 sizeOf3) (Tq rfl ?_))))))))))))))))))))))))))))))))))))
  intro w47 hU47
  have:=hU47.size
  refine Wo 8 (tf 9 10) rfl ?_
  have hW : Upd No w2 w47 := hU47
  replace hb2 := hb2.Zc hU47
  refine Xa sizeOf54 rfl rfl rfl rfl hb2 rfl ?_
  intro w48 hU48 hzz48 hb2
  refine Za ?_
  intro w49 hS49
  refine bT (Upd No w49) ?_
  have hU49 := hS49.upd
  have:=hU49.size
  try replace hW := hW.Zb hU49
  refine ZQ (Upd.refl _ _) (Tq rfl ?_)
  intro w50 hU50
  have:=hU50.size
  try replace hW := hW.Zb hU50
  exact Wd (Zn (Zg rfl (YC results110 rfl rfl rfl (Zu isAgg54 sizeOf54 rfl ((hb2.Zc hU49).Zc hU50))) ⟨_, rfl, r1, r1, r0, r2, 0, rfl, (by omega), (by omega), (by omega), (by omega), (by omega), (by omega), (by omega), ((((HU.Zb hU47).t1 hU48).Zb hU49).Zb hU50)⟩))
 by_cases q13 : v9 = 3
 ·refine Qs 1 rfl ?_
  rw [show (v9 : Int) = 3 from q13]
  refine Qs 1 rfl (Za (Sm (Qs 2 rfl (Za (W_if rfl (fun q14 => ?_) fun q14 => ?_)))))
  ·refine Zl (Qs 1 rfl (Zf (Yf rfl rfl (show IntKind.i64.wrap (3 + 1) = 4 by decide)) (Qs 1 rfl (Za (Sn (Qs 1 rfl (Za (Zz (Zs (Sn (Qs 1 rfl (Zf (v := .bool false) (r_gt (a := 3) (b := 3) rfl rfl) (Qs 1 rfl (Za (Cf (Sn (Qs 1 rfl (Zf (v := .bool true) (YK (a := 4) (b := 4) rfl rfl) (Qs 1 rfl (Za (Ct (Zl (Zf (Z0 (len := 3) (i' := 0) (o' := 0) underlying54 sizeOf3 rfl rfl (by omega) (by omega) (by omega)) (Zk isAgg3 rfl hb1 rfl (Xs rfl rfl (Qs 1 rfl (Za (Sm (Qs 3 rfl ?_)))))))))))))))))))))))))))))
   by_cases q15 : (r0 - 1) < 1
   ·rw [decide_eq_true q15]
    refine Gf (Gf (Zf (Zx (v := .bool true) rfl rfl) (Za (Ct (Zz (ZJ rfl (l0 := tf 0 4) (by kernel_rfl) (Tv rfl (fun w' hw' => Xt (cs := [.int .i64 r0, .int .i64 r1, .int .i64 r2]) isAgg54 sizeOf54 rfl (hb1.Zc hw') rfl rfl) (Tq rfl ?_))))))))
    intro w51 hU51
    have:=hU51.size
    refine Wo 2 (tf 3 4) rfl ?_
    have hW : Upd No w2 w51 := hU51
    replace hb2 := hb2.Zc hU51
    refine Xa sizeOf54 rfl rfl rfl rfl hb2 rfl ?_
    intro w52 hU52 hzz52 hb2
    refine Za ?_
    intro w53 hS53
    refine bT (Upd No w53) ?_
    have hU53 := hS53.upd
    have:=hU53.size
    try replace hW := hW.Zb hU53
    refine ZQ (Upd.refl _ _) (Tq rfl ?_)
    intro w54 hU54
    have:=hU54.size
    try replace hW := hW.Zb hU54
    exact Wd (Zn (Zg rfl (YC results110 rfl rfl rfl (Zu isAgg54 sizeOf54 rfl ((hb2.Zc hU53).Zc hU54))) ⟨_, rfl, 0, r0, r1, r2, 15, rfl, (by omega), (by omega), (by omega), (by omega), (by omega), (by omega), (by omega), ((((HU.Zb hU51).t1 hU52).Zb hU53).Zb hU54)⟩))
   rw [decide_eq_false q15]
   refine Gt (Qs 1 rfl (Gt (Qs 1 rfl (Zf (Zw (v := .bool (decide (134217728 < (r0 - 1)))) rfl rfl) (Za (W_if rfl (fun q16 => ?_) fun q16 => ?_))))))
   ·refine Zz (ZJ rfl (l0 := tf 0 4) (by kernel_rfl) (Tv rfl (fun w' hw' => Xt (cs := [.int .i64 r0, .int .i64 r1, .int .i64 r2]) isAgg54 sizeOf54 rfl (hb1.Zc hw') rfl rfl) (Tq rfl ?_)))
    intro w55 hU55
    have:=hU55.size
    refine Wo 2 (tf 3 4) rfl ?_
    have hW : Upd No w2 w55 := hU55
    replace hb2 := hb2.Zc hU55
    refine Xa sizeOf54 rfl rfl rfl rfl hb2 rfl ?_
    intro w56 hU56 hzz56 hb2
    refine Za ?_
    intro w57 hS57
    refine bT (Upd No w57) ?_
    have hU57 := hS57.upd
    have:=hU57.size
    try replace hW := hW.Zb hU57
    refine ZQ (Upd.refl _ _) (Tq rfl ?_)
    intro w58 hU58
    have:=hU58.size
    try replace hW := hW.Zb hU58
    exact Wd (Zn (Zg rfl (YC results110 rfl rfl rfl (Zu isAgg54 sizeOf54 rfl ((hb2.Zc hU57).Zc hU58))) ⟨_, rfl, 0, r0, r1, r2, 15, rfl, (by omega), (by omega), (by omega), (by omega), (by omega), (by omega), (by omega), ((((HU.Zb hU55).t1 hU56).Zb hU57).Zb hU58)⟩))
   refine Zi (Zz (Zs (Sn (Qs 1 rfl (Zf (v := .bool true) (r_le (a := 3) (b := 3) rfl rfl) (Qs 1 rfl (Gt (Qs 1 rfl (Gt (Zf (v := .bool false) (YK (a := 4) (b := 1) rfl rfl) (Zf (Zx (v := .bool false) rfl rfl) (Qs 1 rfl (Za (Cf (Sn (Qs 1 rfl (Zf (v := .bool true) (r_le (a := 3) (b := 3) rfl rfl) (Qs 1 rfl (Gt (Qs 1 rfl (Gt (Zf (v := .bool false) (YK (a := 4) (b := 2) rfl rfl) (Zf (Zx (v := .bool false) rfl rfl) (Qs 1 rfl (Za (Cf (Zi (Zz (ZJ rfl (l0 := tf 0 10) (by kernel_rfl) (Tq rfl (Tq rfl (Tv rfl (fun _ _ => Z0 (len := 3) (i' := 0) (o' := 0) underlying54 sizeOf3 rfl rfl (by omega) (by omega) (by omega)) (Tl rfl isAgg3 rfl hb1 rfl (Tv rfl (fun _ _ => Z0 (len := 3) (i' := 1) (o' := 1) underlying54 sizeOf3 rfl rfl (by omega) (by omega) (by omega)) (Tl rfl isAgg3 rfl hb1 rfl (Tv rfl (v := .agg #[.int .i64 (r0 - 1), .int .i64 r0, .int .i64 r1]) (fun _ _ => YN (pv := [(0, .int .i64 (r0 - 1)), (1, .int .i64 r0), (2, .int .i64 r1)]) (cs := #[.int .i64 (r0 - 1), .int .i64 r0, .int .i64 r1]) zeroValue54 underlying54 sizeOf3) (Tq rfl ?_)))))))))))))))))))))))))))))))))))))
   intro w59 hU59
   have:=hU59.size
   refine Wo 8 (tf 9 10) rfl ?_
   have hW : Upd No w2 w59 := hU59
   replace hb2 := hb2.Zc hU59
   refine Xa sizeOf54 rfl rfl rfl rfl hb2 rfl ?_
   intro w60 hU60 hzz60 hb2
   refine Za ?_
   intro w61 hS61
   refine bT (Upd No w61) ?_
   have hU61 := hS61.upd
   have:=hU61.size
   try replace hW := hW.Zb hU61
   refine ZQ (Upd.refl _ _) (Tq rfl ?_)
   intro w62 hU62
   have:=hU62.size
   try replace hW := hW.Zb hU62
   exact Wd (Zn (Zg rfl (YC results110 rfl rfl rfl (Zu isAgg54 sizeOf54 rfl ((hb2.Zc hU61).Zc hU62))) ⟨_, rfl, (r0 - 1), (r0 - 1), r0, r1, 0, rfl, (by omega), (by omega), (by omega), (by omega), (by omega), (by omega), (by omega), ((((HU.Zb hU59).t1 hU60).Zb hU61).Zb hU62)⟩))
  refine Zi (Sn (Qs 1 rfl (Za (Zz (Zs (Sn (Qs 1 rfl (Zf (v := .bool false) (r_gt (a := 3) (b := 3) rfl rfl) (Qs 1 rfl (Za (Cf (Sn (Qs 1 rfl (Zf (v := .bool false) (YK (a := 3) (b := 4) rfl rfl) (Qs 1 rfl (Za (Cf (Zl (Qs 1 rfl (Zf (Y7 rfl rfl (show IntKind.i64.wrap (3 - 1) = 2 by decide)) (Zf (Z0 (len := 3) (i' := 2) (o' := 2) underlying54 sizeOf3 rfl rfl (by omega) (by omega) (by omega)) (Zk isAgg3 rfl hb1 rfl (Qs 1 rfl (Za (Sm (Qs 3 rfl ?_))))))))))))))))))))))))))
  by_cases q17 : r2 < 1
  ·rw [decide_eq_true q17]
   refine Gf (Gf (Zf (Zx (v := .bool true) rfl rfl) (Za (Ct (Zz (ZJ rfl (l0 := tf 0 4) (by kernel_rfl) (Tv rfl (fun w' hw' => Xt (cs := [.int .i64 r0, .int .i64 r1, .int .i64 r2]) isAgg54 sizeOf54 rfl (hb1.Zc hw') rfl rfl) (Tq rfl ?_))))))))
   intro w63 hU63
   have:=hU63.size
   refine Wo 2 (tf 3 4) rfl ?_
   have hW : Upd No w2 w63 := hU63
   replace hb2 := hb2.Zc hU63
   refine Xa sizeOf54 rfl rfl rfl rfl hb2 rfl ?_
   intro w64 hU64 hzz64 hb2
   refine Za ?_
   intro w65 hS65
   refine bT (Upd No w65) ?_
   have hU65 := hS65.upd
   have:=hU65.size
   try replace hW := hW.Zb hU65
   refine ZQ (Upd.refl _ _) (Tq rfl ?_)
   intro w66 hU66
   have:=hU66.size
   try replace hW := hW.Zb hU66
   exact Wd (Zn (Zg rfl (YC results110 rfl rfl rfl (Zu isAgg54 sizeOf54 rfl ((hb2.Zc hU65).Zc hU66))) ⟨_, rfl, 0, r0, r1, r2, 15, rfl, (by omega), (by omega), (by omega), (by omega), (by omega), (by omega), (by omega), ((((HU.Zb hU63).t1 hU64).Zb hU65).Zb hU66)⟩))
  rw [decide_eq_false q17]
  refine Gt (Qs 1 rfl (Gt (Qs 1 rfl (Zf (Zw (v := .bool (decide (134217728 < r2))) rfl rfl) (Za (W_if rfl (fun q18 => ?_) fun q18 => ?_))))))
  ·refine Zz (ZJ rfl (l0 := tf 0 4) (by kernel_rfl) (Tv rfl (fun w' hw' => Xt (cs := [.int .i64 r0, .int .i64 r1, .int .i64 r2]) isAgg54 sizeOf54 rfl (hb1.Zc hw') rfl rfl) (Tq rfl ?_)))
   intro w67 hU67
   have:=hU67.size
   refine Wo 2 (tf 3 4) rfl ?_
   have hW : Upd No w2 w67 := hU67
   replace hb2 := hb2.Zc hU67
   refine Xa sizeOf54 rfl rfl rfl rfl hb2 rfl ?_
   intro w68 hU68 hzz68 hb2
   refine Za ?_
   intro w69 hS69
   refine bT (Upd No w69) ?_
   have hU69 := hS69.upd
   have:=hU69.size
   try replace hW := hW.Zb hU69
   refine ZQ (Upd.refl _ _) (Tq rfl ?_)
   intro w70 hU70
   have:=hU70.size
   try replace hW := hW.Zb hU70
   exact Wd (Zn (Zg rfl (YC results110 rfl rfl rfl (Zu isAgg54 sizeOf54 rfl ((hb2.Zc hU69).Zc hU70))) ⟨_, rfl, 0, r0, r1, r2, 15, rfl, (by omega), (by omega), (by omega), (by omega), (by omega), (by omega), (by omega), ((((HU.Zb hU67).t1 hU68).Zb hU69).Zb hU70)⟩))
  refine Zi (Zz (Zs (Sn (Qs 1 rfl (Zf (v := .bool true) (r_le (a := 3) (b := 3) rfl rfl) (Qs 1 rfl (Gt (Qs 1 rfl (Gt (Zf (v := .bool false) (YK (a := 3) (b := 1) rfl rfl) (Zf (Zx (v := .bool false) rfl rfl) (Qs 1 rfl (Za (Cf (Sn (Qs 1 rfl (Zf (v := .bool true) (r_le (a := 3) (b := 3) rfl rfl) (Qs 1 rfl (Gt (Qs 1 rfl (Gt (Zf (v := .bool false) (YK (a := 3) (b := 2) rfl rfl) (Zf (Zx (v := .bool false) rfl rfl) (Qs 1 rfl (Za (Cf (Zi (Zz (ZJ rfl (l0 := tf 0 10) (by kernel_rfl) (Tq rfl (Tq rfl (Tv rfl (fun _ _ => Z0 (len := 3) (i' := 0) (o' := 0) underlying54 sizeOf3 rfl rfl (by omega) (by omega) (by omega)) (Tl rfl isAgg3 rfl hb1 rfl (Tv rfl (fun _ _ => Z0 (len := 3) (i' := 1) (o' := 1) underlying54 sizeOf3 rfl rfl (by omega) (by omega) (by omega)) (Tl rfl isAgg3 rfl hb1 rfl (Tv rfl (v := .agg #[.int .i64 r2, .int .i64 r0, .int .i64 r1]) (fun _ _ => YN (pv := [(0, .int .i64 r2), (1, .int .i64 r0), (2, .int .i64 r1)]) (cs := #[.int .i64 r2, .int .i64 r0, .int .i64 r1]) zeroValue54 underlying54 sizeOf3) (Tq rfl ?_)))))))))))))))))))))))))))))))))))))
  intro w71 hU71
  have:=hU71.size
  refine Wo 8 (tf 9 10) rfl ?_
  have hW : Upd No w2 w71 := hU71
  replace hb2 := hb2.Zc hU71
  refine Xa sizeOf54 rfl rfl rfl rfl hb2 rfl ?_
  intro w72 hU72 hzz72 hb2
  refine Za ?_
  intro w73 hS73
  refine bT (Upd No w73) ?_
  have hU73 := hS73.upd
  have:=hU73.size
  try replace hW := hW.Zb hU73
  refine ZQ (Upd.refl _ _) (Tq rfl ?_)
  intro w74 hU74
  have:=hU74.size
  try replace hW := hW.Zb hU74
  exact Wd (Zn (Zg rfl (YC results110 rfl rfl rfl (Zu isAgg54 sizeOf54 rfl ((hb2.Zc hU73).Zc hU74))) ⟨_, rfl, r2, r2, r0, r1, 0, rfl, (by omega), (by omega), (by omega), (by omega), (by omega), (by omega), (by omega), ((((HU.Zb hU71).t1 hU72).Zb hU73).Zb hU74)⟩))
 refine Qs 2 rfl (Za (Sm (Qs 2 rfl (Za (W_if rfl (fun q19 => ?_) fun q19 => ?_)))))
 ·refine Zl (Qs 1 rfl (Xd rfl rfl (Qs 1 rfl (Za (Sn (Qs 1 rfl (Za (Zz (Zs (Sn (Qs 3 rfl (Za ?_))))))))))))
  have q20 : 3 < v9 := (by omega)
  rw [decide_eq_true q20]
  refine Ct (Zl (Qs 1 rfl (Xs rfl rfl (Qs 1 rfl (Za (Sm (Qs 3 rfl ?_)))))))
  by_cases q21 : (v9 - 3) < 1
  ·rw [decide_eq_true q21]
   refine Gf (Gf (Zf (Zx (v := .bool true) rfl rfl) (Za (Ct (Zz (ZJ rfl (l0 := tf 0 4) (by kernel_rfl) (Tv rfl (fun w' hw' => Xt (cs := [.int .i64 r0, .int .i64 r1, .int .i64 r2]) isAgg54 sizeOf54 rfl (hb1.Zc hw') rfl rfl) (Tq rfl ?_))))))))
   intro w75 hU75
   have:=hU75.size
   refine Wo 2 (tf 3 4) rfl ?_
   have hW : Upd No w2 w75 := hU75
   replace hb2 := hb2.Zc hU75
   refine Xa sizeOf54 rfl rfl rfl rfl hb2 rfl ?_
   intro w76 hU76 hzz76 hb2
   refine Za ?_
   intro w77 hS77
   refine bT (Upd No w77) ?_
   have hU77 := hS77.upd
   have:=hU77.size
   try replace hW := hW.Zb hU77
   refine ZQ (Upd.refl _ _) (Tq rfl ?_)
   intro w78 hU78
   have:=hU78.size
   try replace hW := hW.Zb hU78
   exact Wd (Zn (Zg rfl (YC results110 rfl rfl rfl (Zu isAgg54 sizeOf54 rfl ((hb2.Zc hU77).Zc hU78))) ⟨_, rfl, 0, r0, r1, r2, 15, rfl, (by omega), (by omega), (by omega), (by omega), (by omega), (by omega), (by omega), ((((HU.Zb hU75).t1 hU76).Zb hU77).Zb hU78)⟩))
  rw [decide_eq_false q21]
  refine Gt (Qs 1 rfl (Gt (Qs 1 rfl (Zf (Zw (v := .bool (decide (134217728 < (v9 - 3)))) rfl rfl) (Za (W_if rfl (fun q22 => ?_) fun q22 => ?_))))))
  ·refine Zz (ZJ rfl (l0 := tf 0 4) (by kernel_rfl) (Tv rfl (fun w' hw' => Xt (cs := [.int .i64 r0, .int .i64 r1, .int .i64 r2]) isAgg54 sizeOf54 rfl (hb1.Zc hw') rfl rfl) (Tq rfl ?_)))
   intro w79 hU79
   have:=hU79.size
   refine Wo 2 (tf 3 4) rfl ?_
   have hW : Upd No w2 w79 := hU79
   replace hb2 := hb2.Zc hU79
   refine Xa sizeOf54 rfl rfl rfl rfl hb2 rfl ?_
   intro w80 hU80 hzz80 hb2
   refine Za ?_
   intro w81 hS81
   refine bT (Upd No w81) ?_
   have hU81 := hS81.upd
   have:=hU81.size
   try replace hW := hW.Zb hU81
   refine ZQ (Upd.refl _ _) (Tq rfl ?_)
   intro w82 hU82
   have:=hU82.size
   try replace hW := hW.Zb hU82
   exact Wd (Zn (Zg rfl (YC results110 rfl rfl rfl (Zu isAgg54 sizeOf54 rfl ((hb2.Zc hU81).Zc hU82))) ⟨_, rfl, 0, r0, r1, r2, 15, rfl, (by omega), (by omega), (by omega), (by omega), (by omega), (by omega), (by omega), ((((HU.Zb hU79).t1 hU80).Zb hU81).Zb hU82)⟩))
  refine Zi (Zz (Zs (Sn (Qs 3 rfl ?_))))
  have q23 : ¬ (v9 ≤ 3) := (by omega)
  rw [decide_eq_false q23]
  refine Gf (Gf (Zf (Zw (v := .bool false) rfl rfl) (Qs 1 rfl (Za (Cf (Sn (Qs 3 rfl ?_)))))))
  have q24 : ¬ (v9 ≤ 3) := (by omega)
  rw [decide_eq_false q24]
  refine Gf (Gf (Zf (Zw (v := .bool false) rfl rfl) (Qs 1 rfl (Za (Cf (Zi (Zz (ZJ rfl (l0 := tf 0 10) (by kernel_rfl) (Tq rfl (Tq rfl (Tv rfl (fun _ _ => Z0 (len := 3) (i' := 0) (o' := 0) underlying54 sizeOf3 rfl rfl (by omega) (by omega) (by omega)) (Tl rfl isAgg3 rfl hb1 rfl (Tv rfl (fun _ _ => Z0 (len := 3) (i' := 1) (o' := 1) underlying54 sizeOf3 rfl rfl (by omega) (by omega) (by omega)) (Tl rfl isAgg3 rfl hb1 rfl (Tv rfl (v := .agg #[.int .i64 (v9 - 3), .int .i64 r0, .int .i64 r1]) (fun _ _ => YN (pv := [(0, .int .i64 (v9 - 3)), (1, .int .i64 r0), (2, .int .i64 r1)]) (cs := #[.int .i64 (v9 - 3), .int .i64 r0, .int .i64 r1]) zeroValue54 underlying54 sizeOf3) (Tq rfl ?_))))))))))))))))
  intro w83 hU83
  have:=hU83.size
  refine Wo 8 (tf 9 10) rfl ?_
  have hW : Upd No w2 w83 := hU83
  replace hb2 := hb2.Zc hU83
  refine Xa sizeOf54 rfl rfl rfl rfl hb2 rfl ?_
  intro w84 hU84 hzz84 hb2
  refine Za ?_
  intro w85 hS85
  refine bT (Upd No w85) ?_
  have hU85 := hS85.upd
  have:=hU85.size
  try replace hW := hW.Zb hU85
  refine ZQ (Upd.refl _ _) (Tq rfl ?_)
  intro w86 hU86
  have:=hU86.size
  try replace hW := hW.Zb hU86
  exact Wd (Zn (Zg rfl (YC results110 rfl rfl rfl (Zu isAgg54 sizeOf54 rfl ((hb2.Zc hU85).Zc hU86))) ⟨_, rfl, (v9 - 3), (v9 - 3), r0, r1, 0, rfl, (by omega), (by omega), (by omega), (by omega), (by omega), (by omega), (by omega), ((((HU.Zb hU83).t1 hU84).Zb hU85).Zb hU86)⟩))
 refine Zi (Sn (Qs 1 rfl (Za (Zz (Zs (Sn (Qs 3 rfl (Za ?_))))))))
 have q25 : 3 < v9 := (by omega)
 rw [decide_eq_true q25]
 refine Ct (Zl (Qs 1 rfl (Xs rfl rfl (Qs 1 rfl (Za (Sm (Qs 3 rfl ?_)))))))
 by_cases q26 : (v9 - 3) < 1
 ·rw [decide_eq_true q26]
  refine Gf (Gf (Zf (Zx (v := .bool true) rfl rfl) (Za (Ct (Zz (ZJ rfl (l0 := tf 0 4) (by kernel_rfl) (Tv rfl (fun w' hw' => Xt (cs := [.int .i64 r0, .int .i64 r1, .int .i64 r2]) isAgg54 sizeOf54 rfl (hb1.Zc hw') rfl rfl) (Tq rfl ?_))))))))
  intro w87 hU87
  have:=hU87.size
  refine Wo 2 (tf 3 4) rfl ?_
  have hW : Upd No w2 w87 := hU87
  replace hb2 := hb2.Zc hU87
  refine Xa sizeOf54 rfl rfl rfl rfl hb2 rfl ?_
  intro w88 hU88 hzz88 hb2
  refine Za ?_
  intro w89 hS89
  refine bT (Upd No w89) ?_
  have hU89 := hS89.upd
  have:=hU89.size
  try replace hW := hW.Zb hU89
  refine ZQ (Upd.refl _ _) (Tq rfl ?_)
  intro w90 hU90
  have:=hU90.size
  try replace hW := hW.Zb hU90
  exact Wd (Zn (Zg rfl (YC results110 rfl rfl rfl (Zu isAgg54 sizeOf54 rfl ((hb2.Zc hU89).Zc hU90))) ⟨_, rfl, 0, r0, r1, r2, 15, rfl, (by omega), (by omega), (by omega), (by omega), (by omega), (by omega), (by omega), ((((HU.Zb hU87).t1 hU88).Zb hU89).Zb hU90)⟩))
 rw [decide_eq_false q26]
 refine Gt (Qs 1 rfl (Gt (Qs 1 rfl (Zf (Zw (v := .bool (decide (134217728 < (v9 - 3)))) rfl rfl) (Za (W_if rfl (fun q27 => ?_) fun q27 => ?_))))))
 ·refine Zz (ZJ rfl (l0 := tf 0 4) (by kernel_rfl) (Tv rfl (fun w' hw' => Xt (cs := [.int .i64 r0, .int .i64 r1, .int .i64 r2]) isAgg54 sizeOf54 rfl (hb1.Zc hw') rfl rfl) (Tq rfl ?_)))
  intro w91 hU91
  have:=hU91.size
  refine Wo 2 (tf 3 4) rfl ?_
  have hW : Upd No w2 w91 := hU91
  replace hb2 := hb2.Zc hU91
  refine Xa sizeOf54 rfl rfl rfl rfl hb2 rfl ?_
  intro w92 hU92 hzz92 hb2
  refine Za ?_
  intro w93 hS93
  refine bT (Upd No w93) ?_
  have hU93 := hS93.upd
  have:=hU93.size
  try replace hW := hW.Zb hU93
  refine ZQ (Upd.refl _ _) (Tq rfl ?_)
  intro w94 hU94
  have:=hU94.size
  try replace hW := hW.Zb hU94
  exact Wd (Zn (Zg rfl (YC results110 rfl rfl rfl (Zu isAgg54 sizeOf54 rfl ((hb2.Zc hU93).Zc hU94))) ⟨_, rfl, 0, r0, r1, r2, 15, rfl, (by omega), (by omega), (by omega), (by omega), (by omega), (by omega), (by omega), ((((HU.Zb hU91).t1 hU92).Zb hU93).Zb hU94)⟩))
 refine Zi (Zz (Zs (Sn (Qs 3 rfl ?_))))
 have q28 : ¬ (v9 ≤ 3) := (by omega)
 rw [decide_eq_false q28]
 refine Gf (Gf (Zf (Zw (v := .bool false) rfl rfl) (Qs 1 rfl (Za (Cf (Sn (Qs 3 rfl ?_)))))))
 have q29 : ¬ (v9 ≤ 3) := (by omega)
 rw [decide_eq_false q29]
 refine Gf (Gf (Zf (Zw (v := .bool false) rfl rfl) (Qs 1 rfl (Za (Cf (Zi (Zz (ZJ rfl (l0 := tf 0 10) (by kernel_rfl) (Tq rfl (Tq rfl (Tv rfl (fun _ _ => Z0 (len := 3) (i' := 0) (o' := 0) underlying54 sizeOf3 rfl rfl (by omega) (by omega) (by omega)) (Tl rfl isAgg3 rfl hb1 rfl (Tv rfl (fun _ _ => Z0 (len := 3) (i' := 1) (o' := 1) underlying54 sizeOf3 rfl rfl (by omega) (by omega) (by omega)) (Tl rfl isAgg3 rfl hb1 rfl (Tv rfl (v := .agg #[.int .i64 (v9 - 3), .int .i64 r0, .int .i64 r1]) (fun _ _ => YN (pv := [(0, .int .i64 (v9 - 3)), (1, .int .i64 r0), (2, .int .i64 r1)]) (cs := #[.int .i64 (v9 - 3), .int .i64 r0, .int .i64 r1]) zeroValue54 underlying54 sizeOf3) (Tq rfl ?_))))))))))))))))
 intro w95 hU95
 have:=hU95.size
 refine Wo 8 (tf 9 10) rfl ?_
 have hW : Upd No w2 w95 := hU95
 replace hb2 := hb2.Zc hU95
 refine Xa sizeOf54 rfl rfl rfl rfl hb2 rfl ?_
 intro w96 hU96 hzz96 hb2
 refine Za ?_
 intro w97 hS97
 refine bT (Upd No w97) ?_
 have hU97 := hS97.upd
 have:=hU97.size
 try replace hW := hW.Zb hU97
 refine ZQ (Upd.refl _ _) (Tq rfl ?_)
 intro w98 hU98
 have:=hU98.size
 try replace hW := hW.Zb hU98
 exact Wd (Zn (Zg rfl (YC results110 rfl rfl rfl (Zu isAgg54 sizeOf54 rfl ((hb2.Zc hU97).Zc hU98))) ⟨_, rfl, (v9 - 3), (v9 - 3), r0, r1, 0, rfl, (by omega), (by omega), (by omega), (by omega), (by omega), (by omega), (by omega), ((((HU.Zb hU95).t1 hU96).Zb hU97).Zb hU98)⟩))
theorem wheld {sz n c : Nat} {a : Option Addr} {b : List Int} {tt : Int} {R : Nat → Prop} (w : World) (hs : Sl w R 1 (.slice a n c) n (ints .u8 b)) (hsz : 1 ≤ sz ∧ sz ≤ 134217728) (hn : n ≤ 4000000000000) (hb : Byt b) :
  Calls Tryz.prog 56 #[.agg #[.int .i64 sz, .slice a n c, .int .i64 tt]] w (Ret fun v w' => ∃ (a' : Option Addr) (m' : Nat) (c' : Nat) (z : List Int), v = .agg #[.int .i64 sz, .slice a' m' c', .int .i64 tt] ∧ Sl w' R 1 (.slice a' m' c') m' (ints .u8 z) ∧ Byt z ∧ m' ≤ sz ∧ Upd No w w') := by
 have HU := Upd.Yo w
 have hl_hs := ZC hs
 have hc_hs := hs.cap.1
 refine Zq func56 rfl ntmps56 (by simp) (Sn (Xb rfl ?_))
 intro B1 w1 hB1 hU1 hzz1 hb1
 refine ZB zeroValue95 rfl ?_
 intro B2 w2 hB2 hU2 hzz2 hb2
 refine Za (Sm (Zf (Zo underlying95 rfl sizeOf22 rfl rfl) ?_))
 replace hb1 := hb1.Zc hU2
 refine Zk isAgg22 rfl hb1 rfl (Zf (ZM underlying22 rfl) (Zf (Zo underlying95 rfl sizeOf3 rfl rfl) (Zk isAgg3 rfl hb1 rfl (Qs 1 rfl (Za ?_)))))
 replace hs := ((hs.tight).Zc hU1).Zc hU2
 replace HU := (HU.Zb hU1).Zb hU2
 refine W_if rfl (fun q1 => ?_) fun q1 => ?_
 ·refine Zl (Zf (Zo underlying95 rfl sizeOf22 rfl rfl) (Zk isAgg22 rfl hb1 rfl (Zf (Zo underlying95 rfl sizeOf22 rfl rfl) (Zk isAgg22 rfl hb1 rfl (Zf (ZM underlying22 rfl) (Zf (Zo underlying95 rfl sizeOf3 rfl rfl) (Zk isAgg3 rfl hb1 rfl (Xs rfl rfl (Zf (Ym (l' := ((n : Int) - (sz : Int)).toNat) (n' := n - ((n : Int) - (sz : Int)).toNat) underlying22 sizeOf5 rfl rfl (by omega) (by omega) (by omega)) ?_)))))))))
  have hT3 := Sl.cutl (l := ((n : Int) - (sz : Int)).toNat) (n := n - ((n : Int) - (sz : Int)).toNat) hs (by omega) (by omega)
  have hl_hT3 := ZC hT3
  have hc_hT3 := hT3.cap.1
  refine Zf (Zo underlying95 rfl sizeOf22 rfl rfl) (Xc [.int .i64 sz, .slice (if c = ((n : Int) - (sz : Int)).toNat then a else a.map (·.add ((((n : Int) - (sz : Int)).toNat) * 1))) (n - ((n : Int) - (sz : Int)).toNat) (c - (((n : Int) - (sz : Int)).toNat)), .int .i64 tt] sizeOf22 rfl hb1 rfl rfl rfl rfl rfl ?_)
  intro w4 hU4 hzz4 hb1
  refine Za (Sn (Xl isAgg95 sizeOf95 rfl hb1 rfl ?_))
  replace hb2 := hb2.Zh hU4
  refine Xa sizeOf95 rfl rfl rfl rfl hb2 rfl ?_
  intro w5 hU5 hzz5 hb2
  exact Za (Zn (Zg rfl (rc1 results56 rfl (Zu isAgg95 sizeOf95 rfl hb2)) ⟨_, rfl, (if c = ((n : Int) - (sz : Int)).toNat then a else a.map (·.add ((((n : Int) - (sz : Int)).toNat) * 1))), (n - ((n : Int) - (sz : Int)).toNat), (c - (((n : Int) - (sz : Int)).toNat)), b.drop (((n : Int) - (sz : Int)).toNat), rfl, (((hT3.Zh hU4).Zh hU5).weak (fun g hg => hg.1)), (fun x hx => hb x (List.mem_of_mem_drop hx)), (by omega), ((HU.t1 hU4).t1 hU5)⟩))
 refine Zi (Sn (Xl isAgg95 sizeOf95 rfl hb1 rfl (Xa sizeOf95 rfl rfl rfl rfl hb2 rfl ?_)))
 intro w6 hU6 hzz6 hb2
 exact Za (Zn (Zg rfl (rc1 results56 rfl (Zu isAgg95 sizeOf95 rfl hb2)) ⟨_, rfl, a, n, c, b, rfl, ((hs.Zh hU6).weak (fun g hg => hg.1)), hb, (by omega), (HU.t1 hU6)⟩))
theorem wadd {sz n c m2 c2 : Nat} {a a2 : Option Addr} {b b2 : List Int} {tt : Int} (w : World) (hs : Sl w (fun g => g < w.heap.size) 1 (.slice a n c) n (ints .u8 b)) (hs2 : Sl w (fun g => g < w.heap.size) 1 (.slice a2 m2 c2) m2 (ints .u8 b2)) (hsz : 1 ≤ sz ∧ sz ≤ 134217728) (hn : n ≤ 1000000000000) (hb : Byt b) (hby2 : Byt b2) (hm2 : m2 ≤ 1000000000) (htt : 0 ≤ tt ∧ tt ≤ 1000000000000000) :
  Calls Tryz.prog 59 #[.agg #[.int .i64 sz, .slice a n c, .int .i64 tt], .slice a2 m2 c2] w (Ret fun v w' => ∃ (a' : Option Addr) (m' : Nat) (c' : Nat) (z : List Int), v = .agg #[.int .i64 sz, .slice a' m' c', .int .i64 (tt + (m2 : Int))] ∧ Sl w' (fun g => w.heap.size ≤ g) 1 (.slice a' m' c') m' (ints .u8 z) ∧ Byt z ∧ m' ≤ sz ∧ Upd No w w') := by
 have HU := Upd.Yo w
 have hl_hs := ZC hs
 have hc_hs := hs.cap.1
 have hl_hs2 := ZC hs2
 have hc_hs2 := hs2.cap.1
 refine Zq func59 rfl ntmps59 (by simp) (Sn (Xb rfl ?_))
 intro B1 w1 hB1 hU1 hzz1 hb1
 refine ZB zeroValue95 rfl ?_
 intro B2 w2 hB2 hU2 hzz2 hb2
 refine Za (Sn (Wl_lit0 underlying22 sizeOf5 ?_))
 intro B3 w3 hB3 hU3 hzz3 hs3
 refine Zf (Zo underlying95 rfl sizeOf22 rfl rfl) ?_
 replace hb1 := (hb1.Zc hU2).Zc hU3
 refine Zk isAgg22 rfl hb1 rfl (Z1 (xs := []) (ys := b) (zs := b) (k' := .u8) (tot := n) (by first | rfl | exact (ZR _ _).symm | simp) underlying22 (ti := Tryz.t5) (z := .int .u8 0) (sz := 1) (by' := 1) rfl rfl rfl rfl rfl (by decide) rfl hs3 rfl (((hs.Zc hU1).Zc hU2).Zc hU3)  (by omega) (by simp only [maxLen]; omega) (by omega) ?_)
 intro a4 c4 w4 hU4 hzz4 hO4
 replace hs2 := ((hs2.Zc hU1).Zc hU2).Zc hU3
 replace HU := ((HU.Zb hU1).Zb hU2).Zb hU3
 replace hb2 := hb2.Zc hU3
 clear hs3
 have:=hU4.size
 replace hO4 := hO4.tight
 have hl_hO4 := ZC hO4.sl
 have hc_hO4 := hO4.sl.cap.1
 refine Qs 1 rfl (Z1 (xs := b) (ys := b2) (zs := b ++ b2) (k' := .u8) (tot := n + m2) (by first | rfl | exact (ZR _ _).symm | simp) underlying22 (ti := Tryz.t5) (z := .int .u8 0) (sz := 1) (by' := 1) rfl rfl rfl rfl rfl (by decide) rfl hO4 rfl (hs2.upd hU4)  (by omega) (by simp only [maxLen]; omega) (by omega) ?_)
 intro a5 c5 w5 hU5 hzz5 hO5
 replace HU := HU.trans hU4
 replace hb1 := hb1.upd hU4
 replace hb2 := hb2.upd hU4
 clear hO4
 have:=hU5.size
 replace hO5 := hO5.tight
 have hl_hO5 := ZC hO5.sl
 have hc_hO5 := hO5.sl.cap.1
 refine Zf (Zo underlying95 rfl sizeOf22 rfl rfl) ?_
 replace hb1 := hb1.upd hU5
 refine Xc [.int .i64 sz, .slice a5 (n + m2) c5, .int .i64 tt] sizeOf22 rfl hb1 rfl rfl rfl rfl rfl ?_
 intro w6 hU6 hzz6 hb1
 refine Za (Sn (Zf (Zo underlying95 rfl sizeOf3 rfl rfl) (Zk isAgg3 rfl hb1 rfl (Qs 1 rfl (Zf (ZM underlying22 rfl) (Xd rfl rfl (Zf (Zo underlying95 rfl sizeOf3 rfl rfl) (Xc [.int .i64 sz, .slice a5 (n + m2) c5, .int .i64 (tt + (m2 : Int))] sizeOf3 rfl hb1 rfl rfl rfl rfl rfl ?_))))))))
 intro w7 hU7 hzz7 hb1
 refine Za (Sn (Xl isAgg95 sizeOf95 rfl hb1 rfl (Zj (Zv rfl call56 rfl) (wheld _ ((hO5.Zh hU6).Zh hU7).sl (by omega) (by omega) (by first | exact Yq (Yq ZO hb) hby2 | exact Yq hb hby2 | exact hb)) ?_)))
 rintro v w8 ⟨a8, m8, c8, z8, rfl, hO8, hz_8, hm9_8, hU8⟩
 have:=hU8.size
 have hl_hO8 := ZC hO8
 have hc_hO8 := hO8.cap.1
 replace hb2 := (((hb2.upd hU5).Zh hU6).Zh hU7).Zc hU8
 refine Xa sizeOf95 rfl rfl rfl rfl hb2 rfl ?_
 intro w9 hU9 hzz9 hb2
 exact Za (Zn (Zg rfl (rc1 results59 rfl (Zu isAgg95 sizeOf95 rfl hb2)) ⟨_, rfl, a8, m8, c8, z8, rfl, ((hO8.Zh hU9).weak), hz_8, (by omega), (((((HU.trans hU5).t1 hU6).t1 hU7).Zb hU8).t1 hU9)⟩))
theorem wrnew {sz n c : Nat} {a : Option Addr} {b : List Int} (w : World) (hs : Sl w (fun g => g < w.heap.size) 1 (.slice a n c) n (ints .u8 b)) (hsz : 1 ≤ sz ∧ sz ≤ 134217728) (hn : n ≤ 1000000000000) (hb : Byt b) :
  Calls Tryz.prog 33 #[.int .i64 sz, .slice a n c] w (Ret fun v w' => ∃ (a' : Option Addr) (m' : Nat) (c' : Nat) (z : List Int), v = .tuple #[.agg #[.int .i64 sz, .slice a' m' c', .int .i64 0], .int .i64 0] ∧ Sl w' (fun g => w.heap.size ≤ g) 1 (.slice a' m' c') m' (ints .u8 z) ∧ Byt z ∧ m' ≤ sz ∧ Upd No w w') := by
 have HU := Upd.Yo w
 have hl_hs := ZC hs
 have hc_hs := hs.cap.1
 refine Zq func33 rfl ntmps33 (by simp) (Sn (ZB zeroValue95 rfl ?_))
 intro B1 w1 hB1 hU1 hzz1 hb1
 refine Qs 1 rfl (Za (Sm (Qs 3 rfl ?_)))
 have q1 : ¬ ((sz : Int) < 1) := (by omega)
 rw [decide_eq_false q1]
 refine Gt (Qs 1 rfl (Gt (Qs 1 rfl (Zf (Zw (v := .bool (decide (134217728 < (sz : Int)))) rfl rfl) (Za ?_)))))
 have q2 : ¬ (134217728 < (sz : Int)) := (by omega)
 rw [decide_eq_false q2]
 refine Cf (Zi (Sn (Qs 1 rfl (Wl_lit0 underlying22 sizeOf5 ?_))))
 intro B2 w2 hB2 hU2 hzz2 hs2
 refine Qs 1 rfl (Z1 (xs := []) (ys := b) (zs := b) (k' := .u8) (tot := n) (by first | rfl | exact (ZR _ _).symm | simp) underlying22 (ti := Tryz.t5) (z := .int .u8 0) (sz := 1) (by' := 1) rfl rfl rfl rfl rfl (by decide) rfl hs2 rfl ((hs.Zc hU1).Zc hU2)  (by omega) (by simp only [maxLen]; omega) (by omega) ?_)
 intro a3 c3 w3 hU3 hzz3 hO3
 replace HU := (HU.Zb hU1).Zb hU2
 replace hb1 := hb1.Zc hU2
 clear hs2
 have:=hU3.size
 replace hO3 := hO3.tight
 have hl_hO3 := ZC hO3.sl
 have hc_hO3 := hO3.sl.cap.1
 refine Zf (ZF (pl := #[(0, 1), (1, 1), (2, 1)]) (pv := [(0, .int .i64 sz), (1, .slice a3 n c3)]) (cs := #[.int .i64 sz, .slice a3 n c3, .int .i64 0]) zeroValue95 underlying95 (fun w => by kernel_rfl)) (ZB zeroValue95 rfl ?_)
 intro B4 w4 hB4 hU4 hzz4 hb4
 refine Xa sizeOf95 rfl rfl rfl rfl hb4 rfl ?_
 intro w5 hU5 hzz5 hb4
 refine Za (Sn (Xl isAgg95 sizeOf95 rfl hb4 rfl (Zj (Zv rfl call56 rfl) (wheld _ ((hO3.Zc hU4).Zh hU5).sl (by omega) (by omega) (by first | exact Yq (Yq ZO hb) hby2 | exact Yq hb hby2 | exact hb)) ?_)))
 rintro v w6 ⟨a6, m6, c6, z6, rfl, hO6, hz_6, hm9_6, hU6⟩
 have:=hU6.size
 have hl_hO6 := ZC hO6
 have hc_hO6 := hO6.cap.1
 replace hb1 := (((hb1.upd hU3).Zc hU4).Zh hU5).Zc hU6
 refine Xa sizeOf95 rfl rfl rfl rfl hb1 rfl ?_
 intro w7 hU7 hzz7 hb1
 exact Qs 1 rfl (Za (Zn (Zg rfl (YS results33 rfl rfl (Zu isAgg95 sizeOf95 rfl hb1)) ⟨_, rfl, a6, m6, c6, z6, rfl, ((hO6.Zh hU7).weak), hz_6, (by omega), (((((HU.trans hU3).Zb hU4).t1 hU5).Zb hU6).t1 hU7)⟩)))
theorem wbound {k : Nat} (w : World) (hk : k ≤ 1000000000000) :
  Calls Tryz.prog 58 #[.int .i64 k] w (Ret fun v w' => ∃ (y : Nat), v = .int .i64 y ∧ y = min k 131072 ∧ Upd No w w') := by
 have HU := Upd.Yo w
 refine Zq func58 rfl ntmps58 (by simp) (Sn (Qs 1 rfl (Za (Sm (Qs 2 rfl (Za ?_))))))
 have q1 : ¬ ((k : Int) < 0) := (by omega)
 rw [decide_eq_false q1]
 exact Cf (Zi (Sn (Qs 1 rfl (Zf (r_min rfl rfl) (Qs 1 rfl (Za (Zn (Zg rfl (Z9 results58 rfl) ⟨_, rfl, min k 131072, Zt, rfl, HU⟩))))))))
theorem wright {a : Option Addr} {n c : Nat} {l : List Int} (w : World) (hs : Sl w (fun g => g < w.heap.size) 1 (.slice a n c) n (ints .i64 l)) (hn : n ≤ 100000000) :
  Calls Tryz.prog 26 #[.slice a n c] w (Ret fun v w' => ∃ (r : Bool), v = .bool (decide (r = true)) ∧ (r = true → RtP l) ∧ Upd No w w') := by
 have HU := Upd.Yo w
 have hl_hs := ZC hs
 have hc_hs := hs.cap.1
 refine Zq func26 rfl ntmps26 (by simp) (Sn (Qs 1 rfl (Za (Sm (Qs 1 rfl (Zf (ZM underlying51 rfl) (Qs 1 rfl (Za (W_if rfl (fun q1 => ?_) fun q1 => ?_)))))))))
 ·exact Sn (Qs 1 rfl (Za (Zn (Zg rfl (Z9 results26 rfl) ⟨_, rfl, false, rfl, (fun h => by cases h), HU⟩))))
 refine Zi (Sn (Qs 2 rfl (Za (Sm (Qs 1 rfl (Za (Zs (ZS (fun mu ρ ds w' => ∃ (k : Nat) (s : Int) (u : Nat), n - k = mu ∧ ds = [] ∧ Liv ρ [(0, .slice a n c), (3, .int .i64 s), (4, .int .i64 u), (5, .int .i64 k)] ∧ k ≤ n ∧ 0 ≤ s ∧ u ≤ k ∧ (0 < u → ∃ i, i < k ∧ 0 < l.getD i 0) ∧ (∀ i, i < k → 0 ≤ l.getD i 0 ∧ l.getD i 0 ≤ 11) ∧ s ≤ (k : Int) * 2048 ∧ Upd No w w') _ ⟨0, 0, 0, rfl, rfl, ⟨rfl, (by first | rfl | exact Zt (by omega) | exact Zt (by simp)), (by first | rfl | exact Zt (by omega) | exact Zt (by simp)), (by first | rfl | exact Zt (by omega) | exact Zt (by simp)), trivial⟩, (by omega), (by omega), (by omega), (fun h => absurd h (by omega)), (fun i hi => absurd hi (by omega)), (by omega), Upd.refl _ _⟩ ?_))))))))
 rintro m1 ρ1 ds1 w1 ⟨k, s, u, rfl, rfl, hl1, hk, hs0, hu, hex, hrg, hs9, hU1⟩
 obtain ⟨ρ1x, rfl⟩ : ∃ ρx, ρ1 = upds ρx [(0, .slice a n c), (3, .int .i64 s), (4, .int .i64 u), (5, .int .i64 k)] := ⟨_, ZD hl1⟩
 clear hl1
 have:=hU1.size
 have hkv := kv_bd (l.getD k 0)
 have HL1 := hU1
 refine Sm (Qs 2 rfl (Zf (ZM underlying51 rfl) (Qs 1 rfl (Za ?_))))
 replace HU := HU.Zb hU1
 refine W_if rfl (fun q2 => ?_) fun q2 => ?_
 ·refine Zi (Zz (Zs (Sm (Qs 2 rfl ?_))))
  replace hs := hs.Zc hU1
  refine Z7 underlying51 sizeOf3 rfl rfl hs (by omega) (by omega) ?_
  intro ib2 io2 hc2
  rw [Int.toNat_natCast] at hc2
  refine ZH isAgg3 rfl hc2 (Qs 2 rfl ?_)
  by_cases q3 : (l.getD k 0) < 0
  ·rw [decide_eq_true q3]
   exact Gf (Gf (Gf (Gf (Gf (Zf (Zx (v := .bool true) rfl rfl) (Za (Ct (Sn (Qs 1 rfl (Za (Zn (Zg rfl (Z9 results26 rfl) ⟨_, rfl, false, rfl, (fun h => by cases h), HU⟩))))))))))))
  rw [decide_eq_false q3]
  refine Gt (Qs 1 rfl (Gt (Qs 1 rfl (Gt (Z7 underlying51 sizeOf3 rfl rfl hs (by omega) (by omega) ?_)))))
  intro ib3 io3 hc3
  rw [Int.toNat_natCast] at hc3
  refine Gt (ZH isAgg3 rfl hc3 (Gt (Qs 1 rfl (Zf (Zw (v := .bool (decide (11 < (l.getD k 0)))) rfl rfl) (Za (W_if rfl (fun q4 => ?_) fun q4 => ?_))))))
  ·exact Sn (Qs 1 rfl (Za (Zn (Zg rfl (Z9 results26 rfl) ⟨_, rfl, false, rfl, (fun h => by cases h), HU⟩))))
  refine Zi (Sn (Qs 2 rfl (Z7 underlying51 sizeOf3 rfl rfl hs (by omega) (by omega) ?_)))
  intro ib4 io4 hc4
  rw [Int.toNat_natCast] at hc4
  refine ZH isAgg3 rfl hc4 (Qs 1 rfl (Za (W_if rfl (fun q5 => ?_) fun q5 => ?_)))
  ·refine Sn (Qs 3 rfl (Z7 underlying51 sizeOf3 rfl rfl hs (by omega) (by omega) ?_))
   intro ib5 io5 hc5
   rw [Int.toNat_natCast] at hc5
   refine ZH isAgg3 rfl hc5 (Zf (r_shr rfl rfl (by omega) kv_eq) (Xd rfl rfl (Qs 1 rfl (Za (Zl (Qs 1 rfl (Xd rfl rfl (Qs 1 rfl (Za (Zl (Qs 1 rfl (Xd rfl rfl (Qs 1 rfl (Za ?_))))))))))))))
   refine ⟨_, ?_, (k + 1), (s + kv (l.getD k 0)), (u + 1), rfl, rfl, ⟨rfl, rfl, Zt, Zt, trivial⟩, (by omega), (by have := kv_bd (l.getD k 0); omega), (by omega), (fun _ => ⟨k, by omega, by omega⟩), (fun i hi => by rcases Nat.lt_or_ge i k with h9 | h9; exact hrg i h9; obtain rfl : i = k := (by omega); exact ⟨by omega, by omega⟩), (by have := kv_bd (l.getD k 0); omega), HL1⟩
   omega
  refine Zi (Zl (Qs 1 rfl (Xd rfl rfl (Qs 1 rfl (Za ?_)))))
  refine ⟨_, ?_, (k + 1), s, u, rfl, rfl, ⟨rfl, rfl, Zt, Zt, trivial⟩, (by omega), (by have := kv_bd (l.getD k 0); omega), (by omega), (fun h => by obtain ⟨i, h1, h2⟩ := hex h; exact ⟨i, by omega, h2⟩), (fun i hi => by rcases Nat.lt_or_ge i k with h9 | h9; exact hrg i h9; obtain rfl : i = k := (by omega); exact ⟨by omega, by omega⟩), (by have := kv_bd (l.getD k 0); omega), HL1⟩
  omega
 refine ZI (Sn (Qs 3 rfl ?_))
 by_cases q6 : 2 ≤ (u : Int)
 ·rw [decide_eq_true q6]
  refine Gt (Qs 1 rfl (Gt (Qs 1 rfl (Zf (Zx (v := .bool (decide (s = 2048))) rfl rfl) (Qs 1 rfl (Za (Zn (Zg rfl (Z9 results26 rfl) ?_))))))))
  obtain ⟨i9, hi9, hi8⟩ := hex (by omega)
  exact ⟨_, rfl, decide (s = 2048), (vbool (by rw [decide_eq_true_eq])), (fun _ => ⟨by omega, (fun i hi => hrg i (by omega)), ⟨i9, by omega, hi8⟩⟩), HU⟩
 rw [decide_eq_false q6]
 exact Gf (Gf (Zf (Zw (v := .bool false) rfl rfl) (Qs 1 rfl (Za (Zn (Zg rfl (Z9 results26 rfl) ⟨_, rfl, false, rfl, (fun h => by cases h), HU⟩))))))
theorem worder {a : Option Addr} {n c : Nat} {l : List Int} (w : World) (hs : Sl w (fun g => g < w.heap.size) 1 (.slice a n c) n (ints .i64 l)) (hRt : RtP l) :
  Calls Tryz.prog 165 #[.slice a n c] w (Ret fun v w' => ∃ (a' : Option Addr) (m' : Nat) (c' : Nat) (os : List Int), v = .slice a' m' c' ∧ Own w' (fun g => w.heap.size ≤ g) 3 1 (.slice a' m' c') m' (ints .i64 os) ∧ OrP l os ∧ os ≠ [] ∧ m' ≤ 3000 ∧ Upd No w w') := by
 have HU := Upd.Yo w
 have hl_hs := ZC hs
 have hc_hs := hs.cap.1
 have hln := hRt.ln
 refine Zq func165 rfl ntmps165 (by simp) (Sn (Qs 1 rfl (Za (Sn (Qs 1 rfl (Za (Sm (Qs 1 rfl (Za (Zs (ZS (fun mu ρ ds w' => ∃ (j : Nat) (os : List Int) (m9 : Nat) (a9 : Option Addr) (c9 : Nat), 11 - j = mu ∧ ds = [] ∧ Liv ρ [(0, .slice a n c), (3, .slice a9 m9 c9), (4, .int .i64 ((j + 1 : Nat) : Int))] ∧ j ≤ 11 ∧ m9 ≤ j * 256 ∧ OrP l os ∧ (∀ i, i < n → 1 ≤ l.getD i 0 → l.getD i 0 ≤ (j : Int) → os ≠ []) ∧ Own w' (fun g => w.heap.size ≤ g) 3 1 (.slice a9 m9 c9) m9 (ints .i64 os) ∧ Upd (fun g => w.heap.size ≤ g) w w') _ ⟨0, [], 0, none, 0, rfl, rfl, ⟨rfl, (by first | rfl | exact Zt (by omega) | exact Zt (by simp)), rfl, trivial⟩, (by omega), (by omega), (fun x hx => by cases hx), (fun i hi h1 h2 => absurd h1 (by omega)), (by exact Own.nil _ _ _ _), Upd.refl _ _⟩ ?_)))))))))))
 rintro m1 ρ1 ds1 w1 ⟨j, os, m9, a9, c9, rfl, rfl, hl1, hj, hm, hOr, hin, hO, hU1⟩
 obtain ⟨ρ1x, rfl⟩ : ∃ ρx, ρ1 = upds ρx [(0, .slice a n c), (3, .slice a9 m9 c9), (4, .int .i64 ((j + 1 : Nat) : Int))] := ⟨_, ZD hl1⟩
 clear hl1
 have:=hU1.size
 replace hO := hO.tight
 have hl_hO := ZC hO.sl
 have hc_hO := hO.sl.cap.1
 have HL1 := hU1
 refine Sm (Qs 2 rfl (Za (W_if rfl (fun q1 => ?_) fun q1 => ?_)))
 ·refine Zi (Zz (Zs (Sn (Qs 1 rfl (Za (Zs (ZS (fun mu ρ ds w' => ∃ (k : Nat) (os : List Int) (m9 : Nat) (a9 : Option Addr) (c9 : Nat), n - k = mu ∧ ds = [] ∧ Liv ρ [(0, .slice a n c), (3, .slice a9 m9 c9), (4, .int .i64 ((j + 1 : Nat) : Int)), (5, .int .i64 k)] ∧ k ≤ n ∧ m9 ≤ j * 256 + k ∧ OrP l os ∧ (∀ i, i < n → 1 ≤ l.getD i 0 → (l.getD i 0 ≤ (j : Int) ∨ (i < k ∧ l.getD i 0 = (j : Int) + 1)) → os ≠ []) ∧ Own w' (fun g => w.heap.size ≤ g) 3 1 (.slice a9 m9 c9) m9 (ints .i64 os) ∧ Upd (fun g => w.heap.size ≤ g) w1 w') _ ⟨0, os, m9, a9, c9, rfl, rfl, ⟨rfl, rfl, rfl, (by first | rfl | exact Zt (by omega) | exact Zt (by simp)), trivial⟩, (by omega), (by omega), hOr, (fun i hi h1 h2 => hin i hi h1 (by omega)), hO.weak, Upd.refl _ _⟩ ?_)))))))
  rintro m2 ρ2 ds2 w2 ⟨k, os, m9, a9, c9, rfl, rfl, hl2, hk, hm, hOr, hin, hO, hU2⟩
  obtain ⟨ρ2x, rfl⟩ : ∃ ρx, ρ2 = upds ρx [(0, .slice a n c), (3, .slice a9 m9 c9), (4, .int .i64 ((j + 1 : Nat) : Int)), (5, .int .i64 k)] := ⟨_, ZD hl2⟩
  replace hs := hs.upd hU1
  replace HU := HU.trans hU1
  clear hl2
  have:=hU2.size
  replace hO := hO.tight
  have hl_hO := ZC hO.sl
  have hc_hO := hO.sl.cap.1
  have HL2 := hU2
  refine Sm (Qs 2 rfl (Zf (ZM underlying51 rfl) (Qs 1 rfl (Za (W_if rfl (fun q2 => ?_) fun q2 => ?_)))))
  ·refine Zi (Zz (Zs (Sn (Qs 2 rfl (Z7 underlying51 sizeOf3 rfl rfl (hs.upd hU2) (by omega) (by omega) ?_)))))
   intro ib3 io3 hc3
   rw [Int.toNat_natCast] at hc3
   refine ZH isAgg3 rfl hc3 (Qs 2 rfl (Za (W_if rfl (fun q3 => ?_) fun q3 => ?_)))
   ·refine Zl (Qs 2 rfl (Xz [.int .i64 k] underlying51 sizeOf3 zeroValue3 ?_))
    intro B4 w4 hB4 hU4 hzz4 hs4
    replace hs4 : Own w4 (Is B4) 3 1 (.slice (some ⟨B4, 0, none⟩) 1 1) 1 (ints .i64 [(k : Int)]) := hs4
    replace hs4 : Own w4 (Is B4) 3 1 (.slice (some ⟨B4, 0, none⟩) 1 1) 1 (ints .i64 [(k : Int)]) := hs4
    replace hO := hO.Zc hU4
    refine Z1 (xs := os) (ys := [(k : Int)]) (zs := os ++ [(k : Int)]) (k' := .i64) (tot := m9 + 1) (by first | rfl | exact (ZR _ _).symm | simp) underlying51 (ti := Tryz.t3) (z := .int .i64 0) (sz := 1) (by' := 8) rfl rfl rfl rfl rfl (by decide) rfl hO rfl hs4.sl  (by omega) (by simp only [maxLen]; omega) (by omega) ?_
    intro a5 c5 w5 hU5 hzz5 hO5
    replace HL1 := HL1.trans hU2
    replace HL2 := HL2.Zb hU4
    clear hO
    have:=hU5.size
    replace hO5 := hO5.tight
    have hl_hO5 := ZC hO5.sl
    have hc_hO5 := hO5.sl.cap.1
    refine Qs 1 rfl (Za (Zl (Qs 1 rfl (Xd rfl rfl (Qs 1 rfl (Za ?_))))))
    refine ⟨_, ?_, (k + 1), (os ++ [(k : Int)]), (m9 + 1), a5, c5, rfl, rfl, ⟨rfl, rfl, rfl, Zt, trivial⟩, (by omega), (by omega), (OrP.snoc hOr (by omega) (by omega) (by omega)), (fun i hi h1 h2 => by simp), hO5.weak, (HL2.trans hU5)⟩
    omega
   refine Zi (Zl (Qs 1 rfl (Xd rfl rfl (Qs 1 rfl (Za ?_)))))
   refine ⟨_, ?_, (k + 1), os, m9, a9, c9, rfl, rfl, ⟨rfl, rfl, rfl, Zt, trivial⟩, (by omega), (by omega), hOr, (fun i hi h1 h2 => hin i hi h1 (by rcases Nat.lt_or_ge i k with h9 | h9; exact h2.imp id (fun h8 => ⟨h9, h8.2⟩); exact h2.imp id (fun h8 => absurd h8.2 (by rw [show i = k from by omega]; omega)))), hO.weak, HL2⟩
   omega
  refine ZI (Zl (Qs 1 rfl (Xd rfl rfl (Qs 1 rfl (Za ?_)))))
  refine ⟨_, ?_, (j + 1), os, m9, a9, c9, rfl, rfl, ⟨rfl, rfl, Zt, trivial⟩, (by omega), (by omega), hOr, (fun i hi h1 h2 => hin i (by omega) h1 (by omega)), hO.weak, (HL1.trans hU2)⟩
  omega
 refine ZI (Sn (Qs 2 rfl (Za (Zn (Zg rfl (Z9 results165 rfl) ?_)))))
 replace hs := hs.upd hU1
 replace HU := HU.trans hU1
 obtain rfl : j = 11 := by omega
 exact ⟨_, rfl, a9, m9, c9, os, rfl, hO.weak, hOr, (by obtain ⟨i, h1, h2⟩ := hRt.ex; exact hin i (by omega) (by omega) (by have := (hRt.rg i h1).2; omega)), (by omega), HU⟩
theorem wcodes {a : Option Addr} {n c : Nat} {l : List Int} (w : World) (hs : Sl w (fun g => g < w.heap.size) 1 (.slice a n c) n (ints .i64 l)) (hn : n ≤ 100000000) :
  Calls Tryz.prog 159 #[.slice a n c] w (Ret fun v w' => ∃ (a' : Option Addr) (m' : Nat) (c' : Nat) (cs : List (Int × Int)) (e : Int), v = .tuple #[.slice a' m' c', .int .i64 e] ∧ Own w' (fun g => w.heap.size ≤ g) 267 2 (.slice a' m' c') m' (rows encD cs) ∧ okD cs ∧ m' ≤ 256 ∧ Upd No w w') := by
 have HU := Upd.Yo w
 have hl_hs := ZC hs
 have hc_hs := hs.cap.1
 refine Zq func159 rfl ntmps159 (by simp) (Sn (Qs 2 rfl (Za (Sm (Qs 1 rfl (Zj (Zv rfl call26 rfl) (wright _ hs.any (by omega)) ?_))))))
 rintro v w1 ⟨r1, rfl, hr_1, hU1⟩
 have:=hU1.size
 refine Zf (YX rfl) (Za ?_)
 replace HU := HU.Zb hU1
 by_cases q1 : r1 = true
 ·rw [decide_eq_true q1]
  simp only [Bool.not_true, Bool.not_false]
  refine Cf (Zi (Sn (Qs 1 rfl (Zf (ZM underlying51 rfl) (Wl_makeo (c' := n) (zc := [.int .i64 0, .int .u32 0]) (cs := rows encD (List.replicate n (0, 0))) (sz := 2) underlying263 (ti := Tryz.t267) (z := .agg #[.int .i64 0, .int .u32 0]) rfl rfl rfl rfl (by decide) rfl rfl (by omega) (by omega) (by show 16 * _ ≤ _; omega) (by simp only [maxLen]; omega) (rows_rep (enc := encD) (0, 0) _) rfl ?_)))))
  intro B2 w2 hB2 hU2 hzz2 hO2
  have hl_hO2 := Ya encD_len (by decide) hO2.sl
  have hc_hO2 := hO2.sl.cap.1
  refine Qs 1 rfl (Za (Sn (Qs 1 rfl ?_)))
  replace hs := (hs.Zc hU1).Zc hU2
  refine Zj (Zv rfl call165 rfl) (worder _ hs.any (hr_1 (by assumption))) ?_
  rintro v w3 ⟨a3, m3, c3, os3, rfl, hO3, hOr_3, hne_3, hmo_3, hU3⟩
  have:=hU3.size
  replace hO3 := hO3.tight
  have hl_hO3 := ZC hO3.sl
  have hc_hO3 := hO3.sl.cap.1
  have hop : 0 < os3.length := List.length_pos_iff.2 hne_3
  have hog0 := hOr_3.gd hop
  have hln9 := (hr_1 (by assumption)).ln
  refine Qs 1 rfl (Za (Zz (ZJ rfl (l0 := tf 0 8) (by kernel_rfl) (Tq rfl (Tq rfl ?_)))))
  obtain ⟨ib4, io4, ha4, hib4, hc4⟩ := (hO3.sl).iat (i := 0) (by omega)
  replace hib4 : ((w2.heap.size ≤ ib4) ∧ ib4 < w3.heap.size) := hib4
  refine Tv rfl (fun _ _ => Yl (b := ib4) (off := io4) (m := m3) (c := c3) (o' := io4 + 0) underlying51 sizeOf3 (by rw [← ha4]; rfl) rfl (by omega) (by omega) (by omega)) (Tv rfl (v := .int .i64 (os3.getD 0 0)) (fun w' hw' => Yd isAgg3 rfl (hw'.Y8 hc4)) ?_)
  replace hs := hs.Zc hU3
  obtain ⟨ib5, io5, ha5, hib5, hc5⟩ := (hs).iat (i := (os3.getD 0 0).toNat) (by omega)
  replace hib5 : ib5 < w.heap.size := hib5
  refine Tv rfl (fun _ _ => Yl (b := ib5) (off := io5) (m := n) (c := c) (o' := io5 + (os3.getD 0 0).toNat) underlying51 sizeOf3 (by rw [← ha5]; rfl) rfl (by omega) (by omega) (by omega)) (Tv rfl (v := .int .i64 (l.getD (os3.getD 0 0).toNat 0)) (fun w' hw' => Yd isAgg3 rfl (hw'.Y8 hc5)) (Tq rfl (Tq rfl ?_)))
  intro w6 hU6
  have:=hU6.size
  replace hc4 := ZG hU6 hc4
  replace hc5 := ZG hU6 hc5
  refine Wd (Sm (Qs 1 rfl (Za (Zs (ZS (fun mu ρ ds w' => ∃ (i : Nat) (cs : List (Int × Int)) (bt : Int) (v : Int), os3.length - i = mu ∧ ds = [] ∧ Liv ρ [(0, .slice a n c), (4, .slice (some ⟨B2, 0, none⟩) n n), (5, .slice a3 m3 c3), (6, .int .u32 bt), (7, .int .i64 v), (8, .int .i64 i)] ∧ i ≤ os3.length ∧ okD cs ∧ 0 ≤ bt ∧ bt < 4294967296 ∧ 0 ≤ v ∧ v ≤ 11 ∧ Own w' (fun g => g = B2) 267 2 (.slice (some ⟨B2, 0, none⟩) n n) n (rows encD cs) ∧ Upd (Is B2) w6 w') _ ⟨0, List.replicate n (0, 0), 0, (l.getD (os3.getD 0 0).toNat 0), rfl, rfl, ⟨rfl, rfl, rfl, rfl, rfl, (by first | rfl | exact Zt (by omega) | exact Zt (by simp)), trivial⟩, (by omega), (okD_rep _), (by omega), (by omega), (by omega), (by omega), ((hO2.Zc hU3).Zc hU6), Upd.refl _ _⟩ ?_)))))
  rintro m7 ρ7 ds7 w7 ⟨i, cs, bt, v, rfl, rfl, hl7, hi, hod, hbt0, hbt1, hv0, hv1, hC, hU7⟩
  obtain ⟨ρ7x, rfl⟩ : ∃ ρx, ρ7 = upds ρx [(0, .slice a n c), (4, .slice (some ⟨B2, 0, none⟩) n n), (5, .slice a3 m3 c3), (6, .int .u32 bt), (7, .int .i64 v), (8, .int .i64 i)] := ⟨_, ZD hl7⟩
  replace HU := ((HU.Zb hU2).Zb hU3).Zb hU6
  replace hs := hs.Zc hU6
  replace hO3 := hO3.Zc hU6
  clear hl7
  have:=hU7.size
  replace hc4 := cell_upd1 hU7 hc4 (by show ib4 ≠ B2; omega)
  replace hc5 := cell_upd1 hU7 hc5 (by show ib5 ≠ B2; omega)
  have hl_hC := Ya encD_len (by decide) hC.sl
  have hc_hC := hC.sl.cap.1
  have HL7 := hU7
  refine Sm (Qs 2 rfl (Zf (ZM underlying51 rfl) (Qs 1 rfl (Za ?_))))
  by_cases q2 : (i : Int) < (m3 : Int)
  ·have hog := hOr_3.gd (i := i) (by omega)
   rw [decide_eq_true q2]
   refine Ct (Zi (Zz (Zs (Sn (Qs 2 rfl (Z7 underlying51 sizeOf3 rfl rfl (hO3.Zh hU7).sl (by omega) (by omega) ?_))))))
   intro ib8 io8 hc8
   rw [Int.toNat_natCast] at hc8
   refine ZH isAgg3 rfl hc8 (Qs 1 rfl (Za (Zz (Zs (ZS (fun mu ρ ds w' => ∃ (bt : Int) (v : Int), (12 - v).toNat = mu ∧ ds = [] ∧ Liv ρ [(0, .slice a n c), (4, .slice (some ⟨B2, 0, none⟩) n n), (5, .slice a3 m3 c3), (6, .int .u32 bt), (7, .int .i64 v), (8, .int .i64 i), (9, .int .i64 (os3.getD i 0))] ∧ 0 ≤ bt ∧ bt < 4294967296 ∧ 0 ≤ v ∧ v ≤ 11 ∧ Upd No w7 w') _ ⟨bt, v, rfl, rfl, ⟨rfl, rfl, rfl, (by first | rfl | exact Zt (by omega) | exact Zt (by simp)), (by first | rfl | exact Zt (by omega) | exact Zt (by simp)), rfl, rfl, trivial⟩, hbt0, hbt1, hv0, hv1, Upd.refl _ _⟩ ?_)))))
   rintro m9 ρ9 ds9 w9 ⟨bt, v, rfl, rfl, hl9, hbt0, hbt1, hv0, hv1, hU9⟩
   obtain ⟨ρ9x, rfl⟩ : ∃ ρx, ρ9 = upds ρx [(0, .slice a n c), (4, .slice (some ⟨B2, 0, none⟩) n n), (5, .slice a3 m3 c3), (6, .int .u32 bt), (7, .int .i64 v), (8, .int .i64 i), (9, .int .i64 (os3.getD i 0))] := ⟨_, ZD hl9⟩
   replace hs := hs.Zh hU7
   replace HU := HU.t1 hU7
   clear hl9
   have:=hU9.size
   replace hc4 := ZG hU9 hc4
   replace hc5 := ZG hU9 hc5
   have HL9 := hU9
   refine Sm (Qs 3 rfl (Z7 underlying51 sizeOf3 rfl rfl (hs.Zc hU9) (by omega) (by omega) ?_))
   intro ib10 io10 hc10
   refine ZH isAgg3 rfl hc10 (Qs 1 rfl (Za (W_if rfl (fun q3 => ?_) fun q3 => ?_)))
   ·refine Zi (Zs (Sn (Qs 1 rfl (Zf (YM rfl rfl (mu32 _)) (Qs 1 rfl (Za (Zl (Qs 1 rfl (Xd rfl rfl (Qs 1 rfl (Za ?_)))))))))))
    refine ⟨_, ?_, ((2 * bt) % 4294967296), (v + 1), rfl, rfl, ⟨rfl, rfl, rfl, rfl, rfl, rfl, rfl, trivial⟩, (by omega), (by omega), (by omega), (by omega), HL9⟩
    omega
   refine ZI (Sn (Qs 4 rfl (Zf (ZF (pl := #[(0, 1), (1, 1)]) (pv := [(0, .int .i64 v), (1, .int .u32 bt)]) (cs := #[.int .i64 v, .int .u32 bt]) zeroValue267 underlying267 (fun w => by kernel_rfl)) (Zf (r_idxor (i' := (os3.getD i 0).toNat) (o' := ((os3.getD i 0).toNat) * 2) underlying263 sizeOf267 rfl rfl (by omega) (by omega) rfl) ?_))))
   replace hC := hC.Zc hU9
   refine Wl_storer (i := (os3.getD i 0).toNat) (v, bt) encD_len (by decide) (encD_one _) sizeOf267 rfl rfl rfl hC (by omega) ?_
   intro w11 hU11 hzz11 hO11
   replace HL7 := HL7.Zb hU9
   clear hC
   have:=hU11.size
   replace hc4 := cell_upd1 hU11 hc4 (by show ib4 ≠ B2; omega)
   replace hc5 := cell_upd1 hU11 hc5 (by show ib5 ≠ B2; omega)
   have hl_hO11 := Ya encD_len (by decide) hO11.sl
   have hc_hO11 := hO11.sl.cap.1
   refine Za (Zl (Qs 1 rfl (Zf (Yf rfl rfl (mu32 _)) (Qs 1 rfl (Za (Zl (Qs 1 rfl (Xd rfl rfl (Qs 1 rfl (Za ?_))))))))))
   refine ⟨_, ?_, (i + 1), (cs.set ((os3.getD i 0).toNat) (v, bt)), ((bt + 1) % 4294967296), v, rfl, rfl, ⟨rfl, rfl, rfl, rfl, rfl, Zt, trivial⟩, (by omega), (okD_set hod (by omega) (by dsimp only; omega) (by dsimp only; omega)), (by omega), (by omega), (by omega), (by omega), hO11, (HL7.Zr hU11)⟩
   omega
  rw [decide_eq_false q2]
  exact Cf (ZI (Sn (Qs 3 rfl (Za (Zn (Zg rfl (Z2 results159 rfl rfl) ⟨_, rfl, (some ⟨B2, 0, none⟩), n, n, cs, 0, rfl, hC.weak, hod, (by omega), (HU.t1 hU7)⟩))))))
 rw [decide_eq_false q1]
 simp only [Bool.not_true, Bool.not_false]
 refine Ct (Sn (Qs 2 rfl (Za (Zn (Zg (v := .tuple #[.slice none 0 0, .int .i64 12]) rfl (Z2 results159 rfl rfl) ?_)))))
 exact ⟨_, rfl, none, 0, 0, [], 12, rfl, Own.nil _ _ _ _, (fun j hj => absurd hj (by simp)), (by omega), HU⟩
theorem wread14 {a : Option Addr} {n c : Nat} {l : List Int} {y k : Nat} (w : World) (hs : Sl w (fun g => g < w.heap.size) 1 (.slice a n c) n (ints .i64 l)) (hn : n ≤ 100000000) (hk : k ≤ 11) :
  Calls Tryz.prog 145 #[.slice a n c, .int .u64 y, .int .i64 k] w (Ret fun v w' => ∃ (s : Int) (u : Int) (e : Int), v = .tuple #[.int .i64 s, .int .i64 u, .int .i64 e] ∧ (e = 0 → 0 ≤ s ∧ s < 256 ∧ 1 ≤ u ∧ u ≤ (k : Int)) ∧ Upd No w w') := by
 have HU := Upd.Yo w
 have hl_hs := ZC hs
 have hc_hs := hs.cap.1
 refine Zq func145 rfl ntmps145 (by simp) (Sn (Qs 3 rfl (Za (Sn (Qs 1 rfl (Zj (Zv rfl call159 rfl) (wcodes _ hs.any (by omega)) ?_))))))
 rintro v w1 ⟨a1, m1, c1, cs1, e1, rfl, hO1, hod_1, hm9_1, hU1⟩
 have:=hU1.size
 replace hO1 := hO1.tight
 have hl_hO1 := Ya encD_len (by decide) hO1.sl
 have hc_hO1 := hO1.sl.cap.1
 refine Qs 5 rfl (Za (Sm (Qs 2 rfl (Za ?_))))
 replace HU := HU.Zb hU1
 refine W_if rfl (fun q1 => ?_) fun q1 => ?_
 ·exact Sn (Qs 4 rfl (Za (Zn (Zg rfl (Yr results145 rfl rfl rfl) ⟨_, rfl, 0, 0, e1, rfl, (fun h => absurd h q1), HU⟩))))
 refine Zi (Sm (Qs 3 rfl ?_))
 by_cases q2 : (k : Int) < 0
 ·rw [decide_eq_true q2]
  exact Gf (Gf (Zf (Zx (v := .bool true) rfl rfl) (Qs 1 rfl (Gf (Gf (Gf (Z6 rfl (Z6 rfl (Z6 rfl (Z6 rfl (Gf (Zf (Zx (v := .bool true) rfl rfl) (Za (Ct (Sn (Qs 3 rfl (Za (Zn (Zg rfl (Yr results145 rfl rfl rfl) ⟨_, rfl, 0, 0, 2, rfl, (fun h => absurd h (by decide)), HU⟩)))))))))))))))))))
 rw [decide_eq_false q2]
 refine Gt (Qs 1 rfl (Gt (Qs 1 rfl (Zf (Zw (v := .bool (decide (64 < (k : Int)))) rfl rfl) (Qs 1 rfl ?_)))))
 by_cases q3 : 64 < (k : Int)
 ·rw [decide_eq_true q3]
  exact Gf (Gf (Gf (Z6 rfl (Z6 rfl (Z6 rfl (Z6 rfl (Gf (Zf (Zx (v := .bool true) rfl rfl) (Za (Ct (Sn (Qs 3 rfl (Za (Zn (Zg rfl (Yr results145 rfl rfl rfl) ⟨_, rfl, 0, 0, 2, rfl, (fun h => absurd h (by decide)), HU⟩)))))))))))))))
 rw [decide_eq_false q3]
 refine Gt (Qs 1 rfl (Gt (Qs 1 rfl (Gt (Qs 1 rfl ?_)))))
 by_cases q4 : (k : Int) < 64
 ·rw [decide_eq_true q4]
  refine Gt (Qs 1 rfl (Gt (Qs 1 rfl (Gt (Zf (r_shr rfl rfl (by omega) rfl) (Gt (Qs 1 rfl (Gt (Zf (Zx (v := .bool (decide (0 < ((y : Int) / 2 ^ (min ((k : Int)).toNat IntKind.u64.bits))))) rfl rfl) (Zf (Zw (v := .bool (decide (0 < ((y : Int) / 2 ^ (min ((k : Int)).toNat IntKind.u64.bits))))) rfl rfl) (Za (W_if rfl (fun q5 => ?_) fun q5 => ?_))))))))))))
  ·exact Sn (Qs 3 rfl (Za (Zn (Zg rfl (Yr results145 rfl rfl rfl) ⟨_, rfl, 0, 0, 2, rfl, (fun h => absurd h (by decide)), HU⟩))))
  refine Zi (Sm (Qs 1 rfl (Za (Zs (ZS (fun mu ρ ds w' => ∃ (i : Nat), m1 - i = mu ∧ ds = [] ∧ Liv ρ [(1, .int .u64 y), (2, .int .i64 k), (9, .slice a1 m1 c1), (11, .int .i64 i)] ∧ i ≤ m1 ∧ Upd No w1 w') _ ⟨0, rfl, rfl, ⟨rfl, rfl, rfl, (by first | rfl | exact Zt (by omega) | exact Zt (by simp)), trivial⟩, (by omega), Upd.refl _ _⟩ ?_)))))
  rintro m2 ρ2 ds2 w2 ⟨i, rfl, rfl, hl2, hi, hU2⟩
  obtain ⟨ρ2x, rfl⟩ : ∃ ρx, ρ2 = upds ρx [(1, .int .u64 y), (2, .int .i64 k), (9, .slice a1 m1 c1), (11, .int .i64 i)] := ⟨_, ZD hl2⟩
  clear hl2
  have:=hU2.size
  have HL2 := hU2
  refine Sm (Qs 2 rfl (Zf (ZM underlying263 rfl) (Qs 1 rfl (Za ?_))))
  replace HU := HU.Zb hU2
  by_cases q6 : (i : Int) < (m1 : Int)
  ·have hog := hod_1 i (by omega)
   rw [decide_eq_true q6]
   refine Ct (Zi (Zz (Zs (Sn (Qs 2 rfl ?_)))))
   replace hO1 := hO1.Zc hU2
   refine Yg (0, 0) encD_len (by decide) underlying263 sizeOf267 rfl rfl hO1.sl (by omega) (by omega) ?_
   intro ib3 io3 hc3
   try rw [Int.toNat_natCast] at hc3
   refine Zf (Zo underlying267 rfl sizeOf3 rfl rfl) (ZH (v := .int .i64 ((cs1.getD i (0, 0)).1)) isAgg3 rfl (hc3 0 (by decide)) (Qs 1 rfl (Za (Zz (ZJ rfl (l0 := tf 0 21) (by kernel_rfl) (Tq rfl (Tq rfl (Tq rfl ?_))))))))
   by_cases q7 : 0 < ((cs1.getD i (0, 0)).1)
   ·rw [decide_eq_true q7]
    refine Tq rfl (Tq rfl (Tq rfl (Tq rfl (Tq rfl ?_))))
    by_cases q8 : ((cs1.getD i (0, 0)).1) ≤ (k : Int)
    ·rw [decide_eq_true q8]
     refine Tq rfl (Tq rfl (Tq rfl (Tv rfl (fun _ _ => Y7 rfl rfl ZY) (Tv rfl (v := .int .u64 ((y : Int) / 2 ^ (min ((k : Int) - ((cs1.getD i (0, 0)).1)).toNat IntKind.u64.bits))) (fun _ _ => r_shr rfl rfl (by omega) rfl) (Tq rfl (Tq rfl ?_))))))
     obtain ⟨ib4, io4, ha4, hib4, hc4⟩ := Sl.rat (0, 0) encD_len (by decide) (hO1.sl) (i := i) (by omega)
     refine Tv rfl (fun _ _ => Yl (b := ib4) (off := io4) (m := m1) (c := c1) (o' := io4 + i * 2) underlying263 sizeOf267 (by rw [← ha4]; rfl) rfl (by omega) (by omega) (by omega)) (Tv rfl (fun _ _ => Zo underlying267 rfl sizeOf32 rfl rfl) (Tv rfl (v := .int .u32 ((cs1.getD i (0, 0)).2)) (fun w' hw' => Yd (v := .int .u32 ((cs1.getD i (0, 0)).2)) isAgg32 rfl (hw'.Y8 (hc4 1 (by decide)))) (Tv rfl (fun _ _ => ZZ underlying32 underlying101 rfl (wu64 (by omega) (by omega))) (Tq rfl (Tq rfl ?_)))))
     intro w5 hU5
     have:=hU5.size
     refine Wd (W_if rfl (fun q9 => ?_) fun q9 => ?_)
     ·exact Sn (Qs 5 rfl (Za (Zn (Zg rfl (Yr results145 rfl rfl rfl) ⟨_, rfl, (i : Int), ((cs1.getD i (0, 0)).1), 0, rfl, (fun _ => ⟨by omega, by omega, by omega, by omega⟩), (HU.Zb hU5)⟩))))
     refine Zi (Zl (Qs 1 rfl (Xd rfl rfl (Qs 1 rfl (Za ?_)))))
     refine ⟨_, ?_, (i + 1), rfl, rfl, ⟨rfl, rfl, rfl, Zt, trivial⟩, (by omega), (HL2.Zb hU5)⟩
     omega
    rw [decide_eq_false q8]
    refine Tq rfl (Tq rfl (Tq rfl (Tq rfl (Tq rfl (Tq rfl (Tq rfl (Tq rfl (Tq rfl (Tq rfl (Tq rfl (Tq rfl (Tq rfl ?_))))))))))))
    intro w6 hU6
    have:=hU6.size
    refine Wd (Cf (Zi (Zl (Qs 1 rfl (Xd rfl rfl (Qs 1 rfl (Za ?_)))))))
    refine ⟨_, ?_, (i + 1), rfl, rfl, ⟨rfl, rfl, rfl, Zt, trivial⟩, (by omega), (HL2.Zb hU6)⟩
    omega
   rw [decide_eq_false q7]
   refine Tq rfl (Tq rfl (Tq rfl (Tq rfl (Tq rfl (Tq rfl (Tq rfl (Tq rfl (Tq rfl (Tq rfl (Tq rfl (Tq rfl (Tq rfl (Tq rfl (Tq rfl (Tq rfl (Tq rfl (Tq rfl ?_)))))))))))))))))
   intro w7 hU7
   have:=hU7.size
   refine Wd (Cf (Zi (Zl (Qs 1 rfl (Xd rfl rfl (Qs 1 rfl (Za ?_)))))))
   refine ⟨_, ?_, (i + 1), rfl, rfl, ⟨rfl, rfl, rfl, Zt, trivial⟩, (by omega), (HL2.Zb hU7)⟩
   omega
  rw [decide_eq_false q6]
  exact Cf (ZI (Sn (Qs 3 rfl (Za (Zn (Zg rfl (Yr results145 rfl rfl rfl) ⟨_, rfl, 0, 0, 3, rfl, (fun h => absurd h (by decide)), HU⟩))))))
 rw [decide_eq_false q4]
 refine Gf (Gf (Gf (Gf (Gt (Zf (Zw (v := .bool false) rfl rfl) (Zf (Zw (v := .bool false) rfl rfl) (Za (Cf (Zi (Sm (Qs 1 rfl (Za (Zs (ZS (fun mu ρ ds w' => ∃ (i : Nat), m1 - i = mu ∧ ds = [] ∧ Liv ρ [(1, .int .u64 y), (2, .int .i64 k), (9, .slice a1 m1 c1), (11, .int .i64 i)] ∧ i ≤ m1 ∧ Upd No w1 w') _ ⟨0, rfl, rfl, ⟨rfl, rfl, rfl, (by first | rfl | exact Zt (by omega) | exact Zt (by simp)), trivial⟩, (by omega), Upd.refl _ _⟩ ?_))))))))))))))
 rintro m8 ρ8 ds8 w8 ⟨i, rfl, rfl, hl8, hi, hU8⟩
 obtain ⟨ρ8x, rfl⟩ : ∃ ρx, ρ8 = upds ρx [(1, .int .u64 y), (2, .int .i64 k), (9, .slice a1 m1 c1), (11, .int .i64 i)] := ⟨_, ZD hl8⟩
 clear hl8
 have:=hU8.size
 have HL8 := hU8
 refine Sm (Qs 2 rfl (Zf (ZM underlying263 rfl) (Qs 1 rfl (Za ?_))))
 replace HU := HU.Zb hU8
 by_cases q10 : (i : Int) < (m1 : Int)
 ·have hog := hod_1 i (by omega)
  rw [decide_eq_true q10]
  refine Ct (Zi (Zz (Zs (Sn (Qs 2 rfl ?_)))))
  replace hO1 := hO1.Zc hU8
  refine Yg (0, 0) encD_len (by decide) underlying263 sizeOf267 rfl rfl hO1.sl (by omega) (by omega) ?_
  intro ib9 io9 hc9
  try rw [Int.toNat_natCast] at hc9
  refine Zf (Zo underlying267 rfl sizeOf3 rfl rfl) (ZH (v := .int .i64 ((cs1.getD i (0, 0)).1)) isAgg3 rfl (hc9 0 (by decide)) (Qs 1 rfl (Za (Zz (ZJ rfl (l0 := tf 0 21) (by kernel_rfl) (Tq rfl (Tq rfl (Tq rfl ?_))))))))
  by_cases q11 : 0 < ((cs1.getD i (0, 0)).1)
  ·rw [decide_eq_true q11]
   refine Tq rfl (Tq rfl (Tq rfl (Tq rfl (Tq rfl ?_))))
   by_cases q12 : ((cs1.getD i (0, 0)).1) ≤ (k : Int)
   ·rw [decide_eq_true q12]
    refine Tq rfl (Tq rfl (Tq rfl (Tv rfl (fun _ _ => Y7 rfl rfl ZY) (Tv rfl (v := .int .u64 ((y : Int) / 2 ^ (min ((k : Int) - ((cs1.getD i (0, 0)).1)).toNat IntKind.u64.bits))) (fun _ _ => r_shr rfl rfl (by omega) rfl) (Tq rfl (Tq rfl ?_))))))
    obtain ⟨ib10, io10, ha10, hib10, hc10⟩ := Sl.rat (0, 0) encD_len (by decide) (hO1.sl) (i := i) (by omega)
    refine Tv rfl (fun _ _ => Yl (b := ib10) (off := io10) (m := m1) (c := c1) (o' := io10 + i * 2) underlying263 sizeOf267 (by rw [← ha10]; rfl) rfl (by omega) (by omega) (by omega)) (Tv rfl (fun _ _ => Zo underlying267 rfl sizeOf32 rfl rfl) (Tv rfl (v := .int .u32 ((cs1.getD i (0, 0)).2)) (fun w' hw' => Yd (v := .int .u32 ((cs1.getD i (0, 0)).2)) isAgg32 rfl (hw'.Y8 (hc10 1 (by decide)))) (Tv rfl (fun _ _ => ZZ underlying32 underlying101 rfl (wu64 (by omega) (by omega))) (Tq rfl (Tq rfl ?_)))))
    intro w11 hU11
    have:=hU11.size
    refine Wd (W_if rfl (fun q13 => ?_) fun q13 => ?_)
    ·exact Sn (Qs 5 rfl (Za (Zn (Zg rfl (Yr results145 rfl rfl rfl) ⟨_, rfl, (i : Int), ((cs1.getD i (0, 0)).1), 0, rfl, (fun _ => ⟨by omega, by omega, by omega, by omega⟩), (HU.Zb hU11)⟩))))
    refine Zi (Zl (Qs 1 rfl (Xd rfl rfl (Qs 1 rfl (Za ?_)))))
    refine ⟨_, ?_, (i + 1), rfl, rfl, ⟨rfl, rfl, rfl, Zt, trivial⟩, (by omega), (HL8.Zb hU11)⟩
    omega
   rw [decide_eq_false q12]
   refine Tq rfl (Tq rfl (Tq rfl (Tq rfl (Tq rfl (Tq rfl (Tq rfl (Tq rfl (Tq rfl (Tq rfl (Tq rfl (Tq rfl (Tq rfl ?_))))))))))))
   intro w12 hU12
   have:=hU12.size
   refine Wd (Cf (Zi (Zl (Qs 1 rfl (Xd rfl rfl (Qs 1 rfl (Za ?_)))))))
   refine ⟨_, ?_, (i + 1), rfl, rfl, ⟨rfl, rfl, rfl, Zt, trivial⟩, (by omega), (HL8.Zb hU12)⟩
   omega
  rw [decide_eq_false q11]
  refine Tq rfl (Tq rfl (Tq rfl (Tq rfl (Tq rfl (Tq rfl (Tq rfl (Tq rfl (Tq rfl (Tq rfl (Tq rfl (Tq rfl (Tq rfl (Tq rfl (Tq rfl (Tq rfl (Tq rfl (Tq rfl ?_)))))))))))))))))
  intro w13 hU13
  have:=hU13.size
  refine Wd (Cf (Zi (Zl (Qs 1 rfl (Xd rfl rfl (Qs 1 rfl (Za ?_)))))))
  refine ⟨_, ?_, (i + 1), rfl, rfl, ⟨rfl, rfl, rfl, Zt, trivial⟩, (by omega), (HL8.Zb hU13)⟩
  omega
 rw [decide_eq_false q10]
 exact Cf (ZI (Sn (Qs 3 rfl (Za (Zn (Zg rfl (Yr results145 rfl rfl rfl) ⟨_, rfl, 0, 0, 3, rfl, (fun h => absurd h (by decide)), HU⟩))))))
theorem wturned {h : Int} (w : World) (h0 : 0 ≤ h ∧ h < 18446744073709551616) :
  Calls Tryz.prog 61 #[.int .u64 h] w (Ret fun v w' => ∃ (y : Int), v = .int .u64 y ∧ 0 ≤ y ∧ y < 18446744073709551616 ∧ Upd No w w') := by
 have HU := Upd.Yo w
 exact Zq func61 rfl ntmps61 (by simp) (Sn (Qs 1 rfl (Za (Sn (Qs 1 rfl (Zf (YM rfl rfl (mu64 _)) (Qs 1 rfl (Zf (YT rfl rfl (by omega) (tq (by omega) (wu64 (by omega) (by omega)))) (Zf (Yf rfl rfl (mu64 _)) (Qs 1 rfl (Za (Zn (Zg rfl (Z9 results61 rfl) ⟨_, rfl, ((((h * 2147483648) % 18446744073709551616) + (h / 8589934592)) % 18446744073709551616), rfl, (by omega), (by omega), HU⟩)))))))))))))
theorem wsum {a : Option Addr} {n c : Nat} {b : List Int} (w : World) (hs : Sl w (fun g => g < w.heap.size) 1 (.slice a n c) n (ints .u8 b)) (hb : Byt b) (hn : n ≤ 1000000000) :
  Calls Tryz.prog 35 #[.slice a n c] w (Ret fun v w' => ∃ (y : Int), v = .int .u64 y ∧ 0 ≤ y ∧ y < 18446744073709551616 ∧ Upd No w w') := by
 have HU := Upd.Yo w
 have hl_hs := ZC hs
 have hc_hs := hs.cap.1
 refine Zq func35 rfl ntmps35 (by simp) (Sn (Qs 1 rfl (Za (Sn (Qs 1 rfl (Za (Sm (Qs 1 rfl (Za (Zs (ZS (fun mu ρ ds w' => ∃ (j : Nat) (h : Int), n + 8 - 8 * j = mu ∧ ds = [] ∧ Liv ρ [(0, .slice a n c), (3, .int .u64 h), (4, .int .i64 ((8 * j : Nat) : Int))] ∧ 8 * j ≤ n + 7 ∧ 0 ≤ h ∧ h < 18446744073709551616 ∧ Upd No w w') _ ⟨0, 18397679294719823053, rfl, rfl, ⟨rfl, rfl, rfl, trivial⟩, (by omega), (by omega), (by omega), Upd.refl _ _⟩ ?_)))))))))))
 rintro m1 ρ1 ds1 w1 ⟨j, h, rfl, rfl, hl1, hj, hh0, hh1, hU1⟩
 obtain ⟨ρ1x, rfl⟩ : ∃ ρx, ρ1 = upds ρx [(0, .slice a n c), (3, .int .u64 h), (4, .int .i64 ((8 * j : Nat) : Int))] := ⟨_, ZD hl1⟩
 clear hl1
 have:=hU1.size
 have HL1 := hU1
 refine Sm (Qs 2 rfl (Zf (ZM underlying22 rfl) (Qs 1 rfl (Za (W_if rfl (fun q1 => ?_) fun q1 => ?_)))))
 ·refine Zi (Zz (Zs (Sn (Qs 1 rfl (Za (Sm (Qs 1 rfl (Za (Zs (ZS (fun mu ρ ds w' => ∃ (k : Nat) (z : Int), 8 - k = mu ∧ ds = [] ∧ Liv ρ [(0, .slice a n c), (3, .int .u64 h), (4, .int .i64 ((8 * j : Nat) : Int)), (5, .int .u64 z), (6, .int .i64 (7 - (k : Int)))] ∧ k ≤ 8 ∧ 0 ≤ z ∧ z < 18446744073709551616 ∧ Upd No w1 w') _ ⟨0, 0, rfl, rfl, ⟨rfl, rfl, rfl, rfl, Zt, trivial⟩, (by omega), (by omega), (by omega), Upd.refl _ _⟩ ?_))))))))))
  rintro m2 ρ2 ds2 w2 ⟨k, z, rfl, rfl, hl2, hk, hz0, hz1, hU2⟩
  obtain ⟨ρ2x, rfl⟩ : ∃ ρx, ρ2 = upds ρx [(0, .slice a n c), (3, .int .u64 h), (4, .int .i64 ((8 * j : Nat) : Int)), (5, .int .u64 z), (6, .int .i64 (7 - (k : Int)))] := ⟨_, ZD hl2⟩
  replace hs := hs.Zc hU1
  replace HU := HU.Zb hU1
  clear hl2
  have:=hU2.size
  have hgb := Yi hb (((8 * j : Nat) : Int) + (7 - (k : Int))).toNat
  have HL2 := hU2
  refine Sm (Qs 2 rfl (Za (W_if rfl (fun q2 => ?_) fun q2 => ?_)))
  ·refine Zi (Zz (Zs (Sn (Qs 1 rfl (Zf (YM rfl rfl (mu64 _)) (Qs 1 rfl (Za (Sn (Qs 2 rfl (Xd rfl rfl (Qs 1 rfl (Zf (ZM underlying22 rfl) (Qs 1 rfl (Za (W_if rfl (fun q3 => ?_) fun q3 => ?_)))))))))))))))
   ·refine Zl (Qs 4 rfl (Xd rfl rfl (Z7 underlying22 sizeOf5 rfl rfl (hs.Zc hU2) (by omega) (by omega) ?_)))
    intro ib3 io3 hc3
    refine ZH isAgg5 rfl hc3 (Zf (ZZ underlying5 underlying101 rfl (wu64 (by omega) (by omega))) (Zf (Yf rfl rfl (mu64 _)) (Qs 1 rfl (Za (Zl (Qs 1 rfl (Xs rfl rfl (Qs 1 rfl (Za ?_)))))))))
    refine ⟨_, ?_, (k + 1), ((((256 * z) % 18446744073709551616) + (b.getD (((8 * j : Nat) : Int) + (7 - (k : Int))).toNat 0)) % 18446744073709551616), rfl, rfl, ⟨rfl, rfl, rfl, rfl, Zt, trivial⟩, (by omega), (by omega), (by omega), HL2⟩
    omega
   refine Zi (Zl (Qs 1 rfl (Xs rfl rfl (Qs 1 rfl (Za ?_)))))
   refine ⟨_, ?_, (k + 1), ((256 * z) % 18446744073709551616), rfl, rfl, ⟨rfl, rfl, rfl, rfl, Zt, trivial⟩, (by omega), (by omega), (by omega), HL2⟩
   omega
  refine ZI (Zl (Qs 2 rfl (Zf (YM rfl rfl (mu64 _)) (Zf (r_xor rfl rfl xr_eq) ?_))))
  have hxb37 := xr_bd h ((z * 11400714819323198485) % 18446744073709551616)
  refine Zj (Zv rfl call61 rfl) (wturned _ (by omega)) ?_
  rintro v w4 ⟨y4, rfl, hy_4, hy2_4, hU4⟩
  have:=hU4.size
  refine Zf (YM rfl rfl (mu64 _)) (Qs 1 rfl (Za (Zl (Qs 1 rfl (Xd rfl rfl (Qs 1 rfl (Za ?_)))))))
  refine ⟨_, ?_, (j + 1), ((y4 * 15485907386658061715) % 18446744073709551616), rfl, rfl, ⟨rfl, rfl, Zt, trivial⟩, (by omega), (by omega), (by omega), ((HL1.Zb hU2).Zb hU4)⟩
  omega
 refine ZI (Sn (Qs 2 rfl (Zf (ZM underlying22 rfl) (Zf (ZZ underlying3 underlying101 rfl (wu64 (by omega) (by omega))) (Zf (r_xor rfl rfl xr_eq) ?_)))))
 have hxb44 := xr_bd h (n : Int)
 refine Qs 1 rfl (Za (Sn (Qs 2 rfl (Zf (YT rfl rfl (by omega) (tq (by omega) (wu64 (by omega) (by omega)))) (Zf (r_xor rfl rfl xr_eq) ?_)))))
 have hxb48 := xr_bd (xr h (n : Int)) ((xr h (n : Int)) / 536870912)
 refine Qs 1 rfl (Za (Sn (Qs 1 rfl (Zf (YM rfl rfl (mu64 _)) (Qs 1 rfl (Za (Sn (Qs 2 rfl (Zf (YT rfl rfl (by omega) (tq (by omega) (wu64 (by omega) (by omega)))) (Zf (r_xor rfl rfl xr_eq) ?_))))))))))
 have hxb54 := xr_bd (((xr (xr h (n : Int)) ((xr h (n : Int)) / 536870912)) * 11400714819323198485) % 18446744073709551616) ((((xr (xr h (n : Int)) ((xr h (n : Int)) / 536870912)) * 11400714819323198485) % 18446744073709551616) / 4294967296)
 exact Qs 1 rfl (Za (Zn (Zg rfl (Z9 results35 rfl) ⟨_, rfl, (xr (((xr (xr h (n : Int)) ((xr h (n : Int)) / 536870912)) * 11400714819323198485) % 18446744073709551616) ((((xr (xr h (n : Int)) ((xr h (n : Int)) / 536870912)) * 11400714819323198485) % 18446744073709551616) / 4294967296)), rfl, (by omega), (by omega), (HU.Zb hU1)⟩)))
theorem weach17 {a2 a : Option Addr} {n2 c2 m c : Nat} {l b : List Int} (w : World) (hs2 : Sl w (fun g => g < w.heap.size) 1 (.slice a2 n2 c2) n2 (ints .i64 l)) (hn2 : n2 ≤ 100000000) (hs : Sl w (fun g => g < w.heap.size) 1 (.slice a m c) m (ints .u8 b)) (hb : Byt b) (hm : m ≤ 1000000) :
  Calls Tryz.prog 125 #[.slice a2 n2 c2, .slice a m c] w (Ret fun v w' => ∃ (a' : Option Addr) (m' : Nat) (c' : Nat) (d' : Option Addr) (e' : Nat) (f' : Nat) (xs : List Int) (r : Bool), v = .tuple #[.slice a' m' c', .slice d' e' f', .bool (decide (r = true))] ∧ Own w' (fun g => w.heap.size ≤ g) 5 1 (.slice a' m' c') m' (ints .u8 xs) ∧ Byt xs ∧ m' ≤ 8000000 ∧ Upd No w w') := by
 have HU := Upd.Yo w
 have hl_hs2 := ZC hs2
 have hc_hs2 := hs2.cap.1
 have hl_hs := ZC hs
 have hc_hs := hs.cap.1
 refine Zq func125 rfl ntmps125 (by simp) (Sn (Qs 3 rfl (Za (Sn (Qs 1 rfl ?_)))))
 by_cases q1 : 0 < m ∧ b.getD (m - 1) 0 ≠ 0
 ·refine Zj (Zv rfl call133 rfl) (wbwd_ok _ hs.any hb (by omega) q1) ?_
  rintro v w1 ⟨rr1, hi1, qn1, rfl, hR1, hq_1, hU1⟩
  have:=hU1.size
  obtain ⟨hrl2, hrh2, ra2, rc2, rx2, hrB2, hrS2⟩ := hR1
  have hrz2 := hrB2.lt
  have hl_hrS2 := Ya Z4 (by decide) hrS2
  have hc_hrS2 := hrS2.cap.1
  skip
  refine Qs 5 rfl (Za (Sm (Qs 1 rfl (Zf (v := .bool false) (Yh (a := 0) (b := 0) rfl rfl) (Za (Cf (Zi (Sn (Qs 1 rfl (Za (Sn (Qs 1 rfl (Za (Sn (Qs 1 rfl (Zf (Yj rfl) (Zf (Zo underlying240 rfl sizeOf238 rfl rfl) (Zk isAgg238 rfl hrB2 rfl (Qs 1 rfl (Za (Zz (Zs (ZS (fun mu ρ ds w' => ∃ (q : Nat) (ys : List Bool) (k1 : Nat) (xs1 : List Int) (aA : Option Addr) (cA : Nat) (g1 : Nat) (xs2 : List Int) (aB : Option Addr) (cB : Nat) (g2 : Nat), q = mu ∧ ds = [] ∧ Liv ρ [(0, .slice a2 n2 c2), (9, .slice aA k1 cA), (10, .slice aB k1 cB), (11, .slice ra2 q rc2)] ∧ q ≤ 8000000 ∧ k1 + q ≤ 8000000 ∧ Byt xs1 ∧ (g1 ≠ g2 ∨ k1 = 0) ∧ Sl w' (fun g => (w.heap.size ≤ g ∧ g < hi1)) 1 (.slice ra2 q rc2) q (rows encB ys) ∧ Own w' (fun g => g = g1 ∧ 0 < k1 ∧ w1.heap.size ≤ g) 5 1 (.slice aA k1 cA) k1 (ints .u8 xs1) ∧ Own w' (fun g => g = g2 ∧ 0 < k1 ∧ w1.heap.size ≤ g) 3 1 (.slice aB k1 cB) k1 (ints .i64 xs2) ∧ Upd (fun g => w1.heap.size ≤ g) w1 w') _ ⟨qn1, rx2, 0, [], none, 0, 0, [], none, 0, 0, rfl, rfl, ⟨rfl, rfl, rfl, rfl, trivial⟩, (by omega), (by omega), ZO, (.inr rfl), hrS2, (by exact Own.nil _ _ _ _), (by exact Own.nil _ _ _ _), Upd.refl _ _⟩ ?_)))))))))))))))))))))))
  rintro m3 ρ3 ds3 w3 ⟨q, ys, k1, xs1, aA, cA, g1, xs2, aB, cB, g2, rfl, rfl, hl3, hq8, hkq, hby, hgg, hS9, hO1, hO2, hU3⟩
  obtain ⟨ρ3x, rfl⟩ : ∃ ρx, ρ3 = upds ρx [(0, .slice a2 n2 c2), (9, .slice aA k1 cA), (10, .slice aB k1 cB), (11, .slice ra2 q rc2)] := ⟨_, ZD hl3⟩
  replace hs2 := hs2.Zc hU1
  replace HU := HU.Zb hU1
  clear hl3
  have:=hU3.size
  have hl_hS9 := Ya Z4 (by decide) hS9
  have hc_hS9 := hS9.cap.1
  replace hO1 := hO1.tight
  have hl_hO1 := ZC hO1.sl
  replace hO2 := hO2.tight
  have hl_hO2 := ZC hO2.sl
  have hc_hO1 := hO1.sl.cap.1
  have hc_hO2 := hO2.sl.cap.1
  have HL3 := hU3
  refine Sm (Qs 1 rfl (Zf (ZM underlying238 rfl) (Qs 1 rfl (Za ?_))))
  replace HU := HU.trans hU3
  refine W_if rfl (fun q2 => ?_) fun q2 => ?_
  ·refine Zi (Zs (Sn (Qs 1 rfl (Zf (ZM underlying238 rfl) (Zf (r_min rfl rfl) (Qs 1 rfl (Za (Sn (Qs 1 rfl (Za (Sm (Qs 1 rfl (Za (Zs (ZS (fun mu ρ ds w' => ∃ (i : Nat) (z : Nat), 11 - i = mu ∧ ds = [] ∧ Liv ρ [(0, .slice a2 n2 c2), (9, .slice aA k1 cA), (10, .slice aB k1 cB), (11, .slice ra2 q rc2), (12, .int .i64 (min (q : Int) 11)), (13, .int .u64 z), (14, .int .i64 i)] ∧ (i : Int) ≤ min (q : Int) 11 ∧ z < 2 ^ i ∧ Upd No w3 w') _ ⟨0, 0, rfl, rfl, ⟨rfl, rfl, rfl, rfl, rfl, (by first | rfl | exact Zt (by omega) | exact Zt (by simp)), (by first | rfl | exact Zt (by omega) | exact Zt (by simp)), trivial⟩, (by omega), (by decide), Upd.refl _ _⟩ ?_)))))))))))))))
   rintro m4 ρ4 ds4 w4 ⟨i, z, rfl, rfl, hl4, hi, hz, hU4⟩
   obtain ⟨ρ4x, rfl⟩ : ∃ ρx, ρ4 = upds ρx [(0, .slice a2 n2 c2), (9, .slice aA k1 cA), (10, .slice aB k1 cB), (11, .slice ra2 q rc2), (12, .int .i64 (min (q : Int) 11)), (13, .int .u64 z), (14, .int .i64 i)] := ⟨_, ZD hl4⟩
   replace hs2 := hs2.upd hU3
   clear hl4
   have:=hU4.size
   have hv4 := v64 hz (by omega)
   have HL4 := hU4
   refine Sm (Qs 3 rfl (Za ?_))
   replace hS9 := hS9.Zc hU4
   refine W_if rfl (fun q3 => ?_) fun q3 => ?_
   ·refine Zi (Zz (Zs (Sn (Qs 1 rfl (Zf (YM rfl rfl (wu64 (by omega) (by omega))) (Qs 1 rfl (Za (Sn (Qs 2 rfl (Zf (ZM underlying238 rfl) (Xs rfl rfl (Qs 1 rfl (Xs rfl rfl (Yg false Z4 (by decide) underlying238 sizeOf4 rfl rfl hS9 (by omega) (by omega) ?_))))))))))))))
    intro ib5 io5 hc5
    refine ZH (v := .bool (decide ((ys.getD (((q : Int) - 1) - (i : Int)).toNat false) = true))) isAgg4 rfl (hc5 0 (by decide)) (Za (W_if rfl (fun q4 => ?_) fun q4 => ?_))
    ·refine Zl (Qs 1 rfl (Zf (Yf rfl rfl (wu64 (by omega) (by omega))) (Qs 1 rfl (Za (Zl (Qs 1 rfl (Xd rfl rfl (Qs 1 rfl (Za ?_)))))))))
     refine ⟨_, ?_, (i + 1), (2 * z + 1), rfl, rfl, ⟨rfl, rfl, rfl, rfl, rfl, Zt, Zt, trivial⟩, (by omega), (by omega), HL4⟩
     omega
    refine Zi (Zl (Qs 1 rfl (Xd rfl rfl (Qs 1 rfl (Za ?_)))))
    refine ⟨_, ?_, (i + 1), (2 * z), rfl, rfl, ⟨rfl, rfl, rfl, rfl, rfl, Zt, Zt, trivial⟩, (by omega), (by omega), HL4⟩
    omega
   refine ZI (Sn (Qs 3 rfl (Zj (Z5 rfl call145 (v2 := .int .i64 ((min q 11 : Nat) : Int)) rfl rfl Zt) (wread14 _ (hs2.Zc hU4).any (by omega) (by omega)) ?_)))
   rintro v w6 ⟨s6, u6, e6, rfl, hs_6, hU6⟩
   have:=hU6.size
   refine Qs 7 rfl (Za (Sm (Qs 2 rfl (Za ?_))))
   replace hO1 := (hO1.Zc hU4).Zc hU6
   by_cases q5 : e6 ≠ 0
   ·rw [decide_eq_true q5]
    exact Ct (Sn (Qs 5 rfl (Za (Zn (Zg rfl (Yr results125 rfl rfl rfl) ⟨_, rfl, aA, k1, cA, aB, k1, cB, xs1, false, rfl, hO1.weak, hby, (by omega), ((HU.Zb hU4).Zb hU6)⟩)))))
   have hss := hs_6 (Classical.not_not.1 q5)
   have hmn := Nat.min_le_left q 11
   rw [decide_eq_false q5]
   refine Cf (Zi (Sn (Qs 2 rfl (Zf (ZM underlying238 rfl) (Qs 1 rfl (Xs rfl rfl (Zf (Y5 (h' := ((q : Int) - u6).toNat) underlying238 sizeOf4 rfl rfl (by omega) (by omega)) ?_)))))))
   have hT7 := Sl.rhd (k := ((q : Int) - u6).toNat) Z4 (hS9.Zc hU6) (by omega)
   refine Qs 1 rfl (Za (Zl (Qs 2 rfl (Zf (ZZ underlying3 underlying5 rfl (mu8 _)) (Xz [.int .u8 (s6 % 256)] underlying22 sizeOf5 zeroValue5 ?_)))))
   intro B8 w8 hB8 hU8 hzz8 hs8
   replace hs8 : Own w8 (Is B8) 5 1 (.slice (some ⟨B8, 0, none⟩) 1 1) 1 (ints .u8 [s6 % 256]) := hs8
   replace hs8 : Own w8 (Is B8) 5 1 (.slice (some ⟨B8, 0, none⟩) 1 1) 1 (ints .u8 [s6 % 256]) := hs8
   replace hO1 := hO1.Zc hU8
   refine Z1 (xs := xs1) (ys := [s6 % 256]) (zs := xs1 ++ [s6 % 256]) (k' := .u8) (tot := k1 + 1) (by first | rfl | exact (ZR _ _).symm | simp) underlying22 (ti := Tryz.t5) (z := .int .u8 0) (sz := 1) (by' := 1) rfl rfl rfl rfl rfl (by decide) rfl hO1 rfl hs8.sl  (by omega) (by simp only [maxLen]; omega) (by omega) ?_
   intro a9 c9 w9 hU9 hzz9 hO9
   replace HU := (HU.Zb hU4).Zb hU6
   replace hO2 := ((hO2.Zc hU4).Zc hU6).Zc hU8
   replace HL3 := ((HL3.Zb hU4).Zb hU6).Zb hU8
   replace hT7 := hT7.Zc hU8
   clear hO1
   have:=hU9.size
   replace hO9 := hO9.tight
   have hl_hO9 := ZC hO9.sl
   have hc_hO9 := hO9.sl.cap.1
   obtain ⟨go10, hgo10, hOo10⟩ := hO9.one (by omega)
   replace hgo10 : ((((((go10 = g1 ∧ 0 < k1 ∧ w1.heap.size ≤ go10) ∧ go10 < w3.heap.size)) ∨ go10 = w8.heap.size)) ∧ go10 < w9.heap.size) := hgo10
   replace hO2 := hO2.upd hU9
   replace HL3 := HL3.trans hU9
   replace hT7 := hT7.upd hU9
   clear hO9
   refine Qs 2 rfl (Zf (ZM underlying238 rfl) (Xz [.int .i64 ((((q : Int) - u6).toNat : Nat) : Int)] underlying51 sizeOf3 zeroValue3 ?_))
   intro B11 w11 hB11 hU11 hzz11 hs11
   replace hs11 : Own w11 (Is B11) 3 1 (.slice (some ⟨B11, 0, none⟩) 1 1) 1 (ints .i64 [((((q : Int) - u6).toNat : Nat) : Int)]) := hs11
   replace hs11 : Own w11 (Is B11) 3 1 (.slice (some ⟨B11, 0, none⟩) 1 1) 1 (ints .i64 [((((q : Int) - u6).toNat : Nat) : Int)]) := hs11
   replace hO2 := hO2.Zc hU11
   refine Z1 (xs := xs2) (ys := [((((q : Int) - u6).toNat : Nat) : Int)]) (zs := xs2 ++ [((((q : Int) - u6).toNat : Nat) : Int)]) (k' := .i64) (tot := k1 + 1) (by first | rfl | exact (ZR _ _).symm | simp) underlying51 (ti := Tryz.t3) (z := .int .i64 0) (sz := 1) (by' := 8) rfl rfl rfl rfl rfl (by decide) rfl hO2 rfl hs11.sl  (by omega) (by simp only [maxLen]; omega) (by omega) ?_
   intro a12 c12 w12 hU12 hzz12 hO12
   replace hOo10 := (hOo10.tight).Zc hU11
   replace HL3 := HL3.Zb hU11
   replace hT7 := hT7.Zc hU11
   clear hO2
   have:=hU12.size
   replace hO12 := hO12.tight
   have hl_hO12 := ZC hO12.sl
   have hc_hO12 := hO12.sl.cap.1
   obtain ⟨go13, hgo13, hOo13⟩ := hO12.one (by omega)
   replace hgo13 : ((((((go13 = g2 ∧ 0 < k1 ∧ w1.heap.size ≤ go13) ∧ go13 < w3.heap.size)) ∨ go13 = w11.heap.size)) ∧ go13 < w12.heap.size) := hgo13
   replace HL3 := HL3.trans hU12
   replace hT7 := hT7.upd hU12
   replace hOo10 := hOo10.upd hU12
   clear hO12
   refine Qs 2 rfl (Za ?_)
   refine ⟨_, ?_, (((q : Int) - u6).toNat), (ys.take (((q : Int) - u6).toNat)), (k1 + 1), (xs1 ++ [s6 % 256]), a9, c9, go10, (xs2 ++ [((((q : Int) - u6).toNat : Nat) : Int)]), a12, c12, go13, rfl, rfl, ⟨rfl, rfl, rfl, rfl, trivial⟩, (by omega), (by omega), (Yq hby (fun x hx => by rw [List.mem_singleton.1 hx]; omega)), (by omega), hT7, hOo10.weak, ((hOo13.tight).weak), HL3⟩
   omega
  exact ZI (Sn (Qs 5 rfl (Za (Zn (Zg rfl (Yr results125 rfl rfl rfl) ⟨_, rfl, aA, k1, cA, aB, k1, cB, xs1, true, rfl, hO1.weak, hby, (by omega), HU⟩)))))
 refine Zj (Zv rfl call133 rfl) (wbwd_no _ hs.any hb (by omega) q1) ?_
 rintro v w14 ⟨rfl, hU14⟩
 have:=hU14.size
 exact Qs 5 rfl (Za (Sm (Qs 1 rfl (Zf (v := .bool true) (Yh (a := 14) (b := 0) rfl rfl) (Za (Ct (Sn (Qs 3 rfl (Za (Zn (Zg rfl (Yr results125 rfl rfl rfl) ⟨_, rfl, none, 0, 0, none, 0, 0, [], false, rfl, Own.nil _ _ _ _, ZO, (by omega), (HU.Zb hU14)⟩)))))))))))
theorem wdec17 {a2 a : Option Addr} {n2 c2 m c : Nat} {l b : List Int} {x : Int} (w : World) (hs2 : Sl w (fun g => g < w.heap.size) 1 (.slice a2 n2 c2) n2 (ints .i64 l)) (hn2 : n2 ≤ 100000000) (hs : Sl w (fun g => g < w.heap.size) 1 (.slice a m c) m (ints .u8 b)) (hb : Byt b) (hm : m ≤ 1000000) :
  Calls Tryz.prog 105 #[.slice a2 n2 c2, .slice a m c, .int .i64 x] w (Ret fun v w' => ∃ (a' : Option Addr) (m' : Nat) (c' : Nat) (xs : List Int) (e : Int), v = .tuple #[.slice a' m' c', .int .i64 e] ∧ Own w' (fun g => w.heap.size ≤ g) 5 1 (.slice a' m' c') m' (ints .u8 xs) ∧ Byt xs ∧ (e = 0 → ((m' : Nat) : Int) = x) ∧ m' ≤ 8000000 ∧ Upd No w w') := by
 have HU := Upd.Yo w
 have hl_hs2 := ZC hs2
 have hc_hs2 := hs2.cap.1
 have hl_hs := ZC hs
 have hc_hs := hs.cap.1
 refine Zq func105 rfl ntmps105 (by simp) (Sn (Qs 2 rfl (Za (Sm (Qs 1 rfl (Zj (Zv rfl call26 rfl) (wright _ hs2.any (by omega)) ?_))))))
 rintro v w1 ⟨r1, rfl, hr_1, hU1⟩
 have:=hU1.size
 refine Zf (YX rfl) (Za ?_)
 replace HU := HU.Zb hU1
 by_cases q1 : r1 = true
 ·rw [decide_eq_true q1]
  simp only [Bool.not_true, Bool.not_false]
  refine Cf (Zi (Sm (Qs 3 rfl ?_)))
  by_cases q2 : x < 0
  ·rw [decide_eq_true q2]
   exact Gf (Gf (Zf (Zx (v := .bool true) rfl rfl) (Za (Ct (Sn (Qs 2 rfl (Za (Zn (Zg rfl (Z2 results105 rfl rfl) ⟨_, rfl, none, 0, 0, [], 2, rfl, Own.nil _ _ _ _, ZO, (fun h => absurd h (by decide)), (by omega), HU⟩)))))))))
  rw [decide_eq_false q2]
  refine Gt (Qs 1 rfl (Gt (Qs 1 rfl (Zf (Zw (v := .bool (decide (131072 < x))) rfl rfl) (Za (W_if rfl (fun q3 => ?_) fun q3 => ?_))))))
  ·exact Sn (Qs 2 rfl (Za (Zn (Zg rfl (Z2 results105 rfl rfl) ⟨_, rfl, none, 0, 0, [], 2, rfl, Own.nil _ _ _ _, ZO, (fun h => absurd h (by decide)), (by omega), HU⟩))))
  refine Zi (Sn (Qs 2 rfl (Zj (Zy rfl call125 rfl rfl) (weach17 _ (hs2.Zc hU1).any (by omega) (hs.Zc hU1).any hb (by omega)) ?_)))
  rintro v w2 ⟨a2x, m2, c2x, d2, e2, f2, xs2, r2, rfl, hO2, hby_2, hm8_2, hU2⟩
  have:=hU2.size
  replace hO2 := hO2.tight
  have hl_hO2 := ZC hO2.sl
  have hc_hO2 := hO2.sl.cap.1
  refine Qs 7 rfl (Za (Sm (Qs 1 rfl (Zf (YX rfl) (Qs 1 rfl ?_)))))
  replace HU := HU.Zb hU2
  by_cases q4 : r2 = true
  ·rw [decide_eq_true q4]
   simp only [Bool.not_true, Bool.not_false]
   refine Gt (Qs 1 rfl (Gt (Zf (ZM underlying22 rfl) (Gt (Qs 1 rfl (Gt (Qs 1 rfl (Zf (Zw (v := .bool (decide ((m2 : Int) ≠ x))) rfl rfl) (Za (W_if rfl (fun q5 => ?_) fun q5 => ?_))))))))))
   ·exact Sn (Qs 2 rfl (Za (Zn (Zg rfl (Z2 results105 rfl rfl) ⟨_, rfl, none, 0, 0, [], 14, rfl, Own.nil _ _ _ _, ZO, (fun h => absurd h (by decide)), (by omega), HU⟩))))
   exact Zi (Sn (Qs 3 rfl (Za (Zn (Zg rfl (Z2 results105 rfl rfl) ⟨_, rfl, a2x, m2, c2x, xs2, 0, rfl, hO2.weak, hby_2, (fun _ => by omega), (by omega), HU⟩)))))
  rw [decide_eq_false q4]
  simp only [Bool.not_true, Bool.not_false]
  exact Gf (Gf (Gf (Gf (Zf (Zx (v := .bool true) rfl rfl) (Za (Ct (Sn (Qs 2 rfl (Za (Zn (Zg rfl (Z2 results105 rfl rfl) ⟨_, rfl, none, 0, 0, [], 14, rfl, Own.nil _ _ _ _, ZO, (fun h => absurd h (by decide)), (by omega), HU⟩)))))))))))
 rw [decide_eq_false q1]
 simp only [Bool.not_true, Bool.not_false]
 exact Ct (Sn (Qs 2 rfl (Za (Zn (Zg rfl (Z2 results105 rfl rfl) ⟨_, rfl, none, 0, 0, [], 12, rfl, Own.nil _ _ _ _, ZO, (fun h => absurd h (by decide)), (by omega), HU⟩)))))
end Go.Proofs.YtbjjhfoeckkacaaGreatDoor
