/-
  Several texts of this project, put together.
-/
import Derived.Test.YtbjjhfoeckkacaaGreatDoorFZ
import Derived.Test.YtbjjhfoeckkacaaGreatDoorDT
import Derived.Test.YtbjjhfoeckkacaaGreatDoorDA
set_option linter.unusedVariables false
set_option linter.unusedSimpArgs false
set_option maxRecDepth 100000
set_option maxHeartbeats 16000000
namespace Go.Proofs.YtbjjhfoeckkacaaGreatDoor
open Go.Fw _root_.Go.Proofs.Tryz
theorem wcopy {sz n c : Nat} {a : Option Addr} {b : List Int} {tt of ln : Int} {R : Nat → Prop} (w : World) (hs : Sl w R 1 (.slice a n c) n (ints .u8 b)) (hsz : 1 ≤ sz ∧ sz ≤ 134217728) (hn : n ≤ 134217728) (hb : Byt b) (htt : 0 ≤ tt ∧ tt ≤ 1000000000000000) :
  Calls Tryz.prog 112 #[.agg #[.int .i64 sz, .slice a n c, .int .i64 tt], .int .i64 of, .int .i64 ln] w (Ret fun v w' => ∃ (a' : Option Addr) (m' : Nat) (c' : Nat) (z : List Int) (ty : Int) (d' : Option Addr) (s' : Nat) (f' : Nat) (x : List Int) (e : Int), v = .tuple #[.agg #[.int .i64 sz, .slice a' m' c', .int .i64 ty], .slice d' s' f', .int .i64 e] ∧ Sl w' (fun g => R g ∨ w.heap.size ≤ g) 1 (.slice a' m' c') m' (ints .u8 z) ∧ Sl w' (fun g => w.heap.size ≤ g) 1 (.slice d' s' f') s' (ints .u8 x) ∧ Byt z ∧ m' ≤ 134217728 ∧ Byt x ∧ s' ≤ 131072 ∧ tt ≤ ty ∧ ty ≤ tt + 131072 ∧ Upd No w w') := by
 have HU := Upd.Yo w
 have hl_hs := ZC hs
 have hc_hs := hs.cap.1
 refine Zq func112 rfl ntmps112 (by simp) (Sn (Xb rfl ?_))
 intro B1 w1 hB1 hU1 hzz1 hb1
 refine ZB zeroValue95 rfl ?_
 intro B2 w2 hB2 hU2 hzz2 hb2
 refine Qs 2 rfl (Za (Sm (Qs 3 rfl ?_)))
 replace hs := ((hs.tight).Zc hU1).Zc hU2
 replace HU := (HU.Zb hU1).Zb hU2
 replace hb1 := hb1.Zc hU2
 by_cases q1 : ln < 0
 ·rw [decide_eq_true q1]
  refine Gf (Gf (Zf (Zx (v := .bool true) rfl rfl) (Za (Ct (Sn (Xl isAgg95 sizeOf95 rfl hb1 rfl (Xa sizeOf95 rfl rfl rfl rfl hb2 rfl ?_)))))))
  intro w3 hU3 hzz3 hb2
  exact Qs 2 rfl (Za (Zn (Zg rfl (Yb results112 rfl rfl rfl (Zu isAgg95 sizeOf95 rfl hb2)) ⟨_, rfl, a, n, c, b, tt, none, 0, 0, [], 2, rfl, ((hs.Zh hU3).weak (fun g h => .inl h.1)), Sl.nil _ _ _, hb, (by omega), ZO, (by omega), (by omega), (by omega), (HU.t1 hU3)⟩)))
 rw [decide_eq_false q1]
 refine Gt (Qs 1 rfl (Gt (Qs 1 rfl (Zf (Zw (v := .bool (decide (131072 < ln))) rfl rfl) (Za (W_if rfl (fun q2 => ?_) fun q2 => ?_))))))
 ·refine Sn (Xl isAgg95 sizeOf95 rfl hb1 rfl (Xa sizeOf95 rfl rfl rfl rfl hb2 rfl ?_))
  intro w4 hU4 hzz4 hb2
  exact Qs 2 rfl (Za (Zn (Zg rfl (Yb results112 rfl rfl rfl (Zu isAgg95 sizeOf95 rfl hb2)) ⟨_, rfl, a, n, c, b, tt, none, 0, 0, [], 2, rfl, ((hs.Zh hU4).weak (fun g h => .inl h.1)), Sl.nil _ _ _, hb, (by omega), ZO, (by omega), (by omega), (by omega), (HU.t1 hU4)⟩)))
 refine Zi (Sm (Qs 3 rfl ?_))
 by_cases q3 : of < 1
 ·rw [decide_eq_true q3]
  refine Gf (Gf (Gf (Gf (Gf (Zf (Zx (v := .bool true) rfl rfl) (Za (Ct (Sn (Xl isAgg95 sizeOf95 rfl hb1 rfl (Xa sizeOf95 rfl rfl rfl rfl hb2 rfl ?_))))))))))
  intro w5 hU5 hzz5 hb2
  exact Qs 2 rfl (Za (Zn (Zg rfl (Yb results112 rfl rfl rfl (Zu isAgg95 sizeOf95 rfl hb2)) ⟨_, rfl, a, n, c, b, tt, none, 0, 0, [], 15, rfl, ((hs.Zh hU5).weak (fun g h => .inl h.1)), Sl.nil _ _ _, hb, (by omega), ZO, (by omega), (by omega), (by omega), (HU.t1 hU5)⟩)))
 rw [decide_eq_false q3]
 refine Gt (Qs 1 rfl (Gt (Zf (Zo underlying95 rfl sizeOf22 rfl rfl) (Gt (Zk isAgg22 rfl hb1 rfl (Gt (Zf (ZM underlying22 rfl) (Gt (Qs 1 rfl (Zf (Zw (v := .bool (decide ((n : Int) < of))) rfl rfl) (Za (W_if rfl (fun q4 => ?_) fun q4 => ?_))))))))))))
 ·refine Sn (Xl isAgg95 sizeOf95 rfl hb1 rfl (Xa sizeOf95 rfl rfl rfl rfl hb2 rfl ?_))
  intro w6 hU6 hzz6 hb2
  exact Qs 2 rfl (Za (Zn (Zg rfl (Yb results112 rfl rfl rfl (Zu isAgg95 sizeOf95 rfl hb2)) ⟨_, rfl, a, n, c, b, tt, none, 0, 0, [], 15, rfl, ((hs.Zh hU6).weak (fun g h => .inl h.1)), Sl.nil _ _ _, hb, (by omega), ZO, (by omega), (by omega), (by omega), (HU.t1 hU6)⟩)))
 refine Zi (Sn (Wl_lit0 underlying22 sizeOf5 ?_))
 intro B7 w7 hB7 hU7 hzz7 hs7
 refine Zf (Zo underlying95 rfl sizeOf22 rfl rfl) ?_
 replace hb1 := hb1.Zc hU7
 refine Zk isAgg22 rfl hb1 rfl ?_
 replace hs := hs.Zc hU7
 refine Z1 (xs := []) (ys := b) (zs := b) (k' := .u8) (tot := n) (by first | rfl | exact (ZR _ _).symm | simp) underlying22 (ti := Tryz.t5) (z := .int .u8 0) (sz := 1) (by' := 1) rfl rfl rfl rfl rfl (by decide) rfl hs7 rfl hs  (by omega) (by simp only [maxLen]; omega) (by omega) ?_
 intro a8 c8 w8 hU8 hzz8 hO8
 replace HU := HU.Zb hU7
 replace hb2 := hb2.Zc hU7
 clear hs7
 have:=hU8.size
 replace hO8 := hO8.tight
 have hl_hO8 := ZC hO8.sl
 have hc_hO8 := hO8.sl.cap.1
 refine Qs 1 rfl (Za (Sn (Qs 1 rfl (Zf (ZM underlying22 rfl) (Qs 1 rfl (Za (Sm (Qs 1 rfl (Za (Zs (ZS (fun mu ρ ds w' => ∃ (i : Nat) (xs : List Int) (a9 : Option Addr) (c9 : Nat), ln.toNat - i = mu ∧ ds = [] ∧ Liv ρ [(1, .int .i64 of), (2, .int .i64 ln), (3, .pointer (some ⟨B1, 0, none⟩)), (6, .pointer (some ⟨B2, 0, none⟩)), (9, .slice a9 (n + i) c9), (10, .int .i64 n), (11, .int .i64 i)] ∧ (i : Int) ≤ ln ∧ Byt xs ∧ Own w' (fun g => w2.heap.size ≤ g) 5 1 (.slice a9 (n + i) c9) (n + i) (ints .u8 xs) ∧ Upd (fun g => w2.heap.size ≤ g) w8 w') _ ⟨0, b, a8, c8, rfl, rfl, ⟨rfl, rfl, rfl, rfl, rfl, rfl, (by first | rfl | exact Zt (by omega) | exact Zt (by simp)), trivial⟩, (by omega), hb, hO8.weak, Upd.refl _ _⟩ ?_)))))))))))
 rintro m9 ρ9 ds9 w9 ⟨i, xs, a9, c9, rfl, rfl, hl9, hi, hby, hO, hU9⟩
 obtain ⟨ρ9x, rfl⟩ : ∃ ρx, ρ9 = upds ρx [(1, .int .i64 of), (2, .int .i64 ln), (3, .pointer (some ⟨B1, 0, none⟩)), (6, .pointer (some ⟨B2, 0, none⟩)), (9, .slice a9 (n + i) c9), (10, .int .i64 n), (11, .int .i64 i)] := ⟨_, ZD hl9⟩
 replace hs := hs.upd hU8
 replace HU := HU.trans hU8
 replace hb1 := hb1.upd hU8
 replace hb2 := hb2.upd hU8
 clear hl9
 have:=hU9.size
 replace hO := hO.tight
 have hl_hO := ZC hO.sl
 have hc_hO := hO.sl.cap.1
 have hbq := Yi hby (((n + i : Nat) : Int) - of).toNat
 have HL9 := hU9
 refine Sm (Qs 3 rfl (Za (W_if rfl (fun q5 => ?_) fun q5 => ?_)))
 ·refine Zi (Zz (Zs (Zl (Qs 3 rfl (Zf (ZM underlying22 rfl) (Qs 1 rfl (Xs rfl rfl (Z7 underlying22 sizeOf5 rfl rfl hO.sl (by omega) (by omega) ?_))))))))
  intro ib10 io10 hc10
  refine ZH isAgg5 rfl hc10 (Xz [.int .u8 (xs.getD (((n + i : Nat) : Int) - of).toNat 0)] underlying22 sizeOf5 zeroValue5 ?_)
  intro B11 w11 hB11 hU11 hzz11 hs11
  replace hs11 : Own w11 (Is B11) 5 1 (.slice (some ⟨B11, 0, none⟩) 1 1) 1 (ints .u8 [xs.getD (((n + i : Nat) : Int) - of).toNat 0]) := hs11
  replace hO := hO.Zc hU11
  refine Z1 (xs := xs) (ys := [xs.getD (((n + i : Nat) : Int) - of).toNat 0]) (zs := xs ++ [xs.getD (((n + i : Nat) : Int) - of).toNat 0]) (k' := .u8) (tot := n + i + 1) (by first | rfl | exact (ZR _ _).symm | simp) underlying22 (ti := Tryz.t5) (z := .int .u8 0) (sz := 1) (by' := 1) rfl rfl rfl rfl rfl (by decide) rfl hO rfl hs11.sl  (by omega) (by simp only [maxLen]; omega) (by omega) ?_
  intro a12 c12 w12 hU12 hzz12 hO12
  replace hs := hs.upd hU9
  replace HU := HU.trans hU9
  replace hb1 := hb1.upd hU9
  replace hb2 := hb2.upd hU9
  replace HL9 := HL9.Zb hU11
  clear hO
  have:=hU12.size
  replace hO12 := hO12.tight
  have hl_hO12 := ZC hO12.sl
  have hc_hO12 := hO12.sl.cap.1
  refine Qs 1 rfl (Za (Zl (Qs 1 rfl (Xd rfl rfl (Qs 1 rfl (Za ?_))))))
  refine ⟨_, ?_, (i + 1), (xs ++ [xs.getD (((n + i : Nat) : Int) - of).toNat 0]), a12, c12, rfl, rfl, ⟨rfl, rfl, rfl, rfl, rfl, rfl, Zt, trivial⟩, (by omega), (Yq hby (fun x hx => by rw [List.mem_singleton.1 hx]; exact hbq)), hO12.weak, (HL9.trans hU12)⟩
  omega
 refine ZI (Zz (Yk (T := fun g => g = B2) rfl (l0 := tf 0 11) (by kernel_rfl) (Sv (Upd.refl _ _) rfl (fun w' hw' => Xt (cs := [.int .i64 sz, .slice a n c, .int .i64 tt]) isAgg95 sizeOf95 rfl ((hb1.upd hU9).Zh hw') rfl rfl) (Sq (Upd.refl _ _) rfl (Sq (Upd.refl _ _) rfl (Sv (Upd.refl _ _) rfl (fun _ _ => Ym (l' := n) (n' := (n + i) - n) underlying22 sizeOf5 rfl rfl (by omega) (by omega) (by omega)) ?_))))))
 have hT13 := Sl.cutl (l := n) (n := (n + i) - n) hO.sl (by omega) (by omega)
 have hl_hT13 := ZC hT13
 have hc_hT13 := hT13.cap.1
 refine Yp (i := 5) (listed' := #[true, true, true, true, false, true, false, false, false, false, false]) (Upd.refl _ _) (by kernel_rfl) rfl (by kernel_rfl) (by kernel_rfl) (by kernel_rfl) (by kernel_rfl) (YS_v (v := .slice a9 (n + i) c9) rfl (fun w' hw' => r_mv (v := .slice a9 (n + i) c9) rfl)) (Yp (i := 6) (listed' := #[true, true, true, true, false, true, true, false, false, false, false]) (Upd.refl _ _) (by kernel_rfl) rfl (by kernel_rfl) (by kernel_rfl) (by kernel_rfl) (by kernel_rfl) (YS_v (v := .int .i64 n) rfl (fun w' hw' => r_mv (v := .int .i64 n) rfl)) (Yp (i := 7) (listed' := #[true, true, true, true, false, true, true, true, false, false, false]) (Upd.refl _ _) (by kernel_rfl) rfl (by kernel_rfl) (by kernel_rfl) (by kernel_rfl) (by kernel_rfl) (YS_v (v := .slice (if c9 = n then a9 else a9.map (·.add (n * 1))) ((n + i) - n) (c9 - n)) rfl (fun w' hw' => Ym (l' := n) (n' := (n + i) - n) underlying22 sizeOf5 rfl rfl (by omega) (by omega) (by omega))) ?_))
 intro w14 hU14
 have:=hU14.size
 refine Wo 4 (tf 8 11) rfl ?_
 have hW : Upd (fun g => g = B2) w9 w9 := (Upd.refl _ _)
 replace hT13 := hT13.Zc hU14
 refine Zj (Zy rfl call59 rfl rfl) (wadd _ ((hs.upd hU9).Zc hU14).any hT13.any (by omega) (by omega) hb (ZL hby _) (by omega) (by omega)) ?_
 rintro v w15 ⟨a15, m15, c15, z15, rfl, hO15, hz_15, hm9_15, hU15⟩
 have:=hU15.size
 have hl_hO15 := ZC hO15
 have hc_hO15 := hO15.cap.1
 refine Za ?_
 intro w16 hS16
 replace hW := (hW.Zb hU14).Zb hU15
 have hX16 : Upd _ w9 w16 := hW.Zb hS16.upd
 refine bF hX16 ?_
 have hU16 := hS16.upd
 have:=hU16.size
 refine Z8 ?_
 intro w17 hU17
 have:=hU17.size
 refine Wo 8 (tf 9 11) rfl ?_
 have hW : Upd (fun g => g = B2) w9 w16 := hX16
 replace hb2 := ((((hb2.upd hU9).Zc hU14).Zc hU15).Zc hU16).Zc hU17
 refine Xa sizeOf95 rfl rfl rfl rfl hb2 rfl ?_
 intro w18 hU18 hzz18 hb2
 refine Za ?_
 intro w19 hS19
 have hX19 : Upd _ w9 w19 := ((hW.Zb hU17).Zr hU18).Zb hS19.upd
 refine bF hX19 ?_
 have hU19 := hS19.upd
 have:=hU19.size
 refine Z8 (Sq hX19 rfl (Sq hX19 rfl ?_))
 intro w20 hU20
 have:=hU20.size
 exact Wd (Zn (Zg rfl (Yb results112 rfl rfl rfl (Zu isAgg95 sizeOf95 rfl ((hb2.Zc hU19).Zc hU20))) ⟨_, rfl, a15, m15, c15, z15, (tt + ((((n + i) - n) : Nat) : Int)), (if c9 = n then a9 else a9.map (·.add (n * 1))), ((n + i) - n), (c9 - n), (xs.drop n), 0, rfl, ((((((hO15.Zc hU16).Zc hU17).Zh hU18).Zc hU19).Zc hU20).weak (fun g h => .inr (Nat.le_trans (by omega) h))), (((((((hT13.Zc hU15).Zc hU16).Zc hU17).Zh hU18).Zc hU19).Zc hU20).weak), hz_15, (by omega), (ZL hby _), (by omega), (by omega), (by omega), ((((((((HU.trans hU9).Zb hU14).Zb hU15).Zb hU16).Zb hU17).t1 hU18).Zb hU19).Zb hU20)⟩))
theorem wwhere {sz n m y k c : Nat} {a : Option Addr} {q : List (Int × Int × Int)} (w : World) (hs : Sl w (fun g => g < w.heap.size) 3 (.slice a k c) k (rows encQ q)) (hu : okU q) (hsz : 1 ≤ sz ∧ sz ≤ 134217728) (hn : n ≤ 134217728) (hm : m ≤ 400000000) (hk : k ≤ 65536) (hy : y ≤ 131072) :
  Calls Tryz.prog 111 #[.int .i64 sz, .int .i64 n, .int .i64 m, .int .i64 y, .slice a k c] w (Ret fun v w' => ∃ (xx : Int) (yy : Int) (e : Int), v = .tuple #[.int .i64 xx, .int .i64 yy, .int .i64 e] ∧ (e = 0 → okE (m : Int) q ∧ m ≤ 131072) ∧ Upd No w w') := by
 have HU := Upd.Yo w
 have hl_hs := Ya ZP (by decide) hs
 have hc_hs := hs.cap.1
 refine Zq func111 rfl ntmps111 (by simp) (Sn (Qs 3 rfl (Za (Sm (Qs 3 rfl ?_)))))
 have q1 : ¬ ((sz : Int) < 1) := (by omega)
 rw [decide_eq_false q1]
 refine Gt (Qs 1 rfl (Gt (Qs 1 rfl (Zf (Zw (v := .bool (decide (134217728 < (sz : Int)))) rfl rfl) (Qs 1 rfl ?_)))))
 have q2 : ¬ (134217728 < (sz : Int)) := (by omega)
 rw [decide_eq_false q2]
 refine Gt (Qs 1 rfl (Gt (Qs 1 rfl (Zf (Zw (v := .bool (decide ((n : Int) < 0))) rfl rfl) (Qs 1 rfl ?_)))))
 have q3 : ¬ ((n : Int) < 0) := (by omega)
 rw [decide_eq_false q3]
 refine Gt (Qs 1 rfl (Gt (Qs 1 rfl (Zf (Zw (v := .bool (decide ((m : Int) < 0))) rfl rfl) (Qs 1 rfl ?_)))))
 have q4 : ¬ ((m : Int) < 0) := (by omega)
 rw [decide_eq_false q4]
 refine Gt (Qs 1 rfl (Gt (Qs 1 rfl (Zf (Zw (v := .bool (decide ((y : Int) < 0))) rfl rfl) (Qs 1 rfl ?_)))))
 have q5 : ¬ ((y : Int) < 0) := (by omega)
 rw [decide_eq_false q5]
 refine Gt (Qs 1 rfl (Gt (Qs 1 rfl (Zf (Zw (v := .bool (decide (131072 < (y : Int)))) rfl rfl) (Za ?_)))))
 have q6 : ¬ (131072 < (y : Int)) := (by omega)
 rw [decide_eq_false q6]
 refine Cf (Zi (Sn (Qs 2 rfl (Zf (r_min rfl rfl) (Qs 1 rfl (Za (Sn (Qs 1 rfl (Za (Sm (Qs 1 rfl (Za (Zs (ZS (fun mu ρ ds w' => ∃ (i : Nat) (T : Int), k - i = mu ∧ ds = [] ∧ Liv ρ [(0, .int .i64 sz), (1, .int .i64 (min (n : Int) (sz : Int))), (2, .int .i64 ((m : Int) - ls q i)), (3, .int .i64 y), (4, .slice a k c), (13, .int .i64 T), (14, .int .i64 i)] ∧ i ≤ k ∧ ls q i ≤ T ∧ T ≤ 131072 ∧ 0 ≤ ls q i ∧ ls q i ≤ (m : Int) ∧ (∀ j, j < i → 0 ≤ (q.getD j (0, 0, 0)).1 ∧ ls q (j + 1) ≤ (m : Int) ∧ 3 ≤ (q.getD j (0, 0, 0)).2.1 ∧ (q.getD j (0, 0, 0)).2.1 ≤ 131072) ∧ Upd No w w') _ ⟨0, 0, rfl, rfl, ⟨rfl, rfl, (Zt (by show _ = _ - (0 : Int); omega)), rfl, rfl, rfl, (by first | rfl | exact Zt (by omega) | exact Zt (by simp)), trivial⟩, (by omega), (Int.le_refl _), (by omega), (Int.le_refl _), (by show (0 : Int) ≤ _; omega), (fun j hj => absurd hj (by omega)), Upd.refl _ _⟩ ?_))))))))))))))
 rintro m1 ρ1 ds1 w1 ⟨i, T, rfl, rfl, hl1, hi, hT, hT9, hl0, hlm, hE, hU1⟩
 obtain ⟨ρ1x, rfl⟩ : ∃ ρx, ρ1 = upds ρx [(0, .int .i64 sz), (1, .int .i64 (min (n : Int) (sz : Int))), (2, .int .i64 ((m : Int) - ls q i)), (3, .int .i64 y), (4, .slice a k c), (13, .int .i64 T), (14, .int .i64 i)] := ⟨_, ZD hl1⟩
 clear hl1
 have:=hU1.size
 have hgu := hu.gd i
 have hls : ls q (i + 1) = ls q i + (q.getD i (0, 0, 0)).1 := rfl
 have HL1 := hU1
 refine Sm (Qs 2 rfl (Zf (ZM underlying168 rfl) (Qs 1 rfl (Za ?_))))
 replace HU := HU.Zb hU1
 refine W_if rfl (fun q7 => ?_) fun q7 => ?_
 ·refine Zi (Zz (Zs (Sn (Qs 2 rfl (Yg (0, 0, 0) ZP (by decide) underlying168 sizeOf203 rfl rfl (hs.Zc hU1) (by omega) (by omega) ?_)))))
  intro ib2 io2 hc2
  try rw [Int.toNat_natCast] at hc2
  refine Zf (YE (cs := [.int .i64 ((q.getD i (0, 0, 0)).1), .int .i64 ((q.getD i (0, 0, 0)).2.1), .int .i64 ((q.getD i (0, 0, 0)).2.2)]) isAgg203 sizeOf203 rfl rfl hc2) (ZB zeroValue203 rfl ?_)
  intro B3 w3 hB3 hU3 hzz3 hb3
  refine Xa sizeOf203 rfl rfl rfl rfl hb3 rfl ?_
  intro w4 hU4 hzz4 hb3
  refine Za (Sm (Zf (Zo underlying203 rfl sizeOf3 rfl rfl) (Zk isAgg3 rfl hb3 rfl (Qs 2 rfl ?_))))
  replace HU := (HU.Zb hU3).t1 hU4
  by_cases q8 : ((q.getD i (0, 0, 0)).1) < 0
  ·rw [decide_eq_true q8]
   exact Gf (Gf (Gf (Gf (Zf (Zx (v := .bool true) rfl rfl) (Qs 1 rfl (Gf (Gf (Gf (Zf (Zx (v := .bool true) rfl rfl) (Qs 1 rfl (Gf (Gf (Gf (Zf (Zx (v := .bool true) rfl rfl) (Qs 1 rfl (Gf (Gf (Gf (Zf (Zx (v := .bool true) rfl rfl) (Qs 1 rfl (Gf (Gf (Gf (Gf (Zf (Zx (v := .bool true) rfl rfl) (Za (Ct (Sn (Qs 4 rfl (Za (Zn (Zg rfl (Yr results111 rfl rfl rfl) ⟨_, rfl, (i : Int), 0, 15, rfl, (fun h => absurd h (by decide)), HU⟩))))))))))))))))))))))))))))))))
  rw [decide_eq_false q8]
  refine Gt (Zf (Zo underlying203 rfl sizeOf3 rfl rfl) (Gt (Zk isAgg3 rfl hb3 rfl (Gt (Qs 1 rfl (Gt (Qs 1 rfl (Zf (Zw (v := .bool (decide (((m : Int) - ls q i) < ((q.getD i (0, 0, 0)).1)))) rfl rfl) (Qs 1 rfl ?_)))))))))
  by_cases q9 : ((m : Int) - ls q i) < ((q.getD i (0, 0, 0)).1)
  ·rw [decide_eq_true q9]
   exact Gf (Gf (Gf (Zf (Zx (v := .bool true) rfl rfl) (Qs 1 rfl (Gf (Gf (Gf (Zf (Zx (v := .bool true) rfl rfl) (Qs 1 rfl (Gf (Gf (Gf (Zf (Zx (v := .bool true) rfl rfl) (Qs 1 rfl (Gf (Gf (Gf (Gf (Zf (Zx (v := .bool true) rfl rfl) (Za (Ct (Sn (Qs 4 rfl (Za (Zn (Zg rfl (Yr results111 rfl rfl rfl) ⟨_, rfl, (i : Int), 0, 15, rfl, (fun h => absurd h (by decide)), HU⟩))))))))))))))))))))))))))
  rw [decide_eq_false q9]
  refine Gt (Zf (Zo underlying203 rfl sizeOf3 rfl rfl) (Gt (Zk isAgg3 rfl hb3 rfl (Gt (Qs 1 rfl (Zf (Zw (v := .bool (decide (((q.getD i (0, 0, 0)).2.1) < 3))) rfl rfl) (Qs 1 rfl ?_)))))))
  by_cases q10 : ((q.getD i (0, 0, 0)).2.1) < 3
  ·rw [decide_eq_true q10]
   exact Gf (Gf (Gf (Zf (Zx (v := .bool true) rfl rfl) (Qs 1 rfl (Gf (Gf (Gf (Zf (Zx (v := .bool true) rfl rfl) (Qs 1 rfl (Gf (Gf (Gf (Gf (Zf (Zx (v := .bool true) rfl rfl) (Za (Ct (Sn (Qs 4 rfl (Za (Zn (Zg rfl (Yr results111 rfl rfl rfl) ⟨_, rfl, (i : Int), 0, 15, rfl, (fun h => absurd h (by decide)), HU⟩)))))))))))))))))))))
  rw [decide_eq_false q10]
  refine Gt (Zf (Zo underlying203 rfl sizeOf3 rfl rfl) (Gt (Zk isAgg3 rfl hb3 rfl (Gt (Qs 1 rfl (Zf (Zw (v := .bool (decide (131072 < ((q.getD i (0, 0, 0)).2.1)))) rfl rfl) (Qs 1 rfl ?_)))))))
  by_cases q11 : 131072 < ((q.getD i (0, 0, 0)).2.1)
  ·rw [decide_eq_true q11]
   exact Gf (Gf (Gf (Zf (Zx (v := .bool true) rfl rfl) (Qs 1 rfl (Gf (Gf (Gf (Gf (Zf (Zx (v := .bool true) rfl rfl) (Za (Ct (Sn (Qs 4 rfl (Za (Zn (Zg rfl (Yr results111 rfl rfl rfl) ⟨_, rfl, (i : Int), 0, 15, rfl, (fun h => absurd h (by decide)), HU⟩))))))))))))))))
  rw [decide_eq_false q11]
  refine Gt (Zf (Zo underlying203 rfl sizeOf3 rfl rfl) (Gt (Zk isAgg3 rfl hb3 rfl (Gt (Qs 1 rfl (Zf (Zw (v := .bool (decide (((q.getD i (0, 0, 0)).2.2) < 1))) rfl rfl) (Qs 1 rfl ?_)))))))
  by_cases q12 : ((q.getD i (0, 0, 0)).2.2) < 1
  ·rw [decide_eq_true q12]
   exact Gf (Gf (Gf (Gf (Zf (Zx (v := .bool true) rfl rfl) (Za (Ct (Sn (Qs 4 rfl (Za (Zn (Zg rfl (Yr results111 rfl rfl rfl) ⟨_, rfl, (i : Int), 0, 15, rfl, (fun h => absurd h (by decide)), HU⟩)))))))))))
  rw [decide_eq_false q12]
  refine Gt (Zf (Zo underlying203 rfl sizeOf3 rfl rfl) (Gt (Zk isAgg3 rfl hb3 rfl (Gt (Qs 1 rfl (Gt (Qs 1 rfl (Zf (Zw (v := .bool (decide ((sz : Int) < ((q.getD i (0, 0, 0)).2.2)))) rfl rfl) (Za (W_if rfl (fun q13 => ?_) fun q13 => ?_))))))))))
  ·exact Sn (Qs 4 rfl (Za (Zn (Zg rfl (Yr results111 rfl rfl rfl) ⟨_, rfl, (i : Int), 0, 15, rfl, (fun h => absurd h (by decide)), HU⟩))))
  refine Zi (Sm (Zf (Zo underlying203 rfl sizeOf3 rfl rfl) (Zk isAgg3 rfl hb3 rfl (Qs 2 rfl (Xd rfl rfl (Qs 2 rfl ?_))))))
  replace HL1 := (HL1.Zb hU3).Zr hU4
  by_cases q14 : ((min (n : Int) (sz : Int)) + T) < ((q.getD i (0, 0, 0)).2.2)
  ·rw [decide_eq_true q14]
   refine Gt (Zf (Zo underlying203 rfl sizeOf3 rfl rfl) (Gt (Zk isAgg3 rfl hb3 rfl (Gt (Qs 1 rfl (Gt (Xs rfl rfl (Gt (Qs 1 rfl (Gt (Xs rfl rfl (Gt (Zf (Zo underlying203 rfl sizeOf3 rfl rfl) (Gt (Zk isAgg3 rfl hb3 rfl (Gt (Qs 1 rfl (Zf (Zx (v := .bool (decide (((q.getD i (0, 0, 0)).1) < ((((q.getD i (0, 0, 0)).2.2) - (min (n : Int) (sz : Int))) - T)))) rfl rfl) (Za (W_if rfl (fun q15 => ?_) fun q15 => ?_))))))))))))))))))))
   ·exact Sn (Qs 4 rfl (Za (Zn (Zg rfl (Yr results111 rfl rfl rfl) ⟨_, rfl, (i : Int), 0, 15, rfl, (fun h => absurd h (by decide)), HU⟩))))
   refine Zi (Sm (Zf (Zo underlying203 rfl sizeOf3 rfl rfl) (Zk isAgg3 rfl hb3 rfl (Qs 2 rfl (Xs rfl rfl (Qs 2 rfl ?_))))))
   by_cases q16 : ((y : Int) - T) < ((q.getD i (0, 0, 0)).1)
   ·rw [decide_eq_true q16]
    exact Gf (Gf (Gf (Gf (Gf (Gf (Gf (Gf (Gf (Zf (Zx (v := .bool true) rfl rfl) (Za (Ct (Sn (Qs 4 rfl (Za (Zn (Zg rfl (Yr results111 rfl rfl rfl) ⟨_, rfl, (i : Int), 0, 10, rfl, (fun h => absurd h (by decide)), HU⟩))))))))))))))))
   rw [decide_eq_false q16]
   refine Gt (Zf (Zo underlying203 rfl sizeOf3 rfl rfl) (Gt (Zk isAgg3 rfl hb3 rfl (Gt (Qs 1 rfl (Gt (Qs 1 rfl (Gt (Xs rfl rfl (Gt (Zf (Zo underlying203 rfl sizeOf3 rfl rfl) (Gt (Zk isAgg3 rfl hb3 rfl (Gt (Xs rfl rfl (Gt (Qs 1 rfl (Zf (Zw (v := .bool (decide ((((y : Int) - T) - ((q.getD i (0, 0, 0)).1)) < ((q.getD i (0, 0, 0)).2.1)))) rfl rfl) (Za (W_if rfl (fun q17 => ?_) fun q17 => ?_))))))))))))))))))))
   ·exact Sn (Qs 4 rfl (Za (Zn (Zg rfl (Yr results111 rfl rfl rfl) ⟨_, rfl, (i : Int), 0, 10, rfl, (fun h => absurd h (by decide)), HU⟩))))
   refine Zi (Sn (Qs 1 rfl (Zf (Zo underlying203 rfl sizeOf3 rfl rfl) (Zk isAgg3 rfl hb3 rfl (Xs rfl rfl (Qs 1 rfl (Za (Zl (Qs 1 rfl (Zf (Zo underlying203 rfl sizeOf3 rfl rfl) (Zk isAgg3 rfl hb3 rfl (Xd rfl rfl (Zf (Zo underlying203 rfl sizeOf3 rfl rfl) (Zk isAgg3 rfl hb3 rfl (Xd rfl rfl (Qs 1 rfl (Za (Zl (Qs 1 rfl (Xd rfl rfl (Qs 1 rfl (Za ?_))))))))))))))))))))))
   refine ⟨_, ?_, (i + 1), ((T + ((q.getD i (0, 0, 0)).1)) + ((q.getD i (0, 0, 0)).2.1)), rfl, rfl, ⟨rfl, rfl, Zt, rfl, rfl, rfl, Zt, trivial⟩, (by omega), (by omega), (by omega), (by omega), (by omega), (fun j hj => by rcases Nat.lt_or_ge j i with h9 | h9; exact hE j h9; obtain rfl : j = i := (by omega); exact ⟨by omega, by omega, by omega, by omega⟩), HL1⟩
   omega
  rw [decide_eq_false q14]
  refine Gf (Gf (Gf (Gf (Gf (Gf (Gf (Gf (Gf (Zf (Zw (v := .bool false) rfl rfl) (Za (Cf (Zi (Sm (Zf (Zo underlying203 rfl sizeOf3 rfl rfl) (Zk isAgg3 rfl hb3 rfl (Qs 2 rfl (Xs rfl rfl (Qs 2 rfl ?_))))))))))))))))))
  by_cases q18 : ((y : Int) - T) < ((q.getD i (0, 0, 0)).1)
  ·rw [decide_eq_true q18]
   exact Gf (Gf (Gf (Gf (Gf (Gf (Gf (Gf (Gf (Zf (Zx (v := .bool true) rfl rfl) (Za (Ct (Sn (Qs 4 rfl (Za (Zn (Zg rfl (Yr results111 rfl rfl rfl) ⟨_, rfl, (i : Int), 0, 10, rfl, (fun h => absurd h (by decide)), HU⟩))))))))))))))))
  rw [decide_eq_false q18]
  refine Gt (Zf (Zo underlying203 rfl sizeOf3 rfl rfl) (Gt (Zk isAgg3 rfl hb3 rfl (Gt (Qs 1 rfl (Gt (Qs 1 rfl (Gt (Xs rfl rfl (Gt (Zf (Zo underlying203 rfl sizeOf3 rfl rfl) (Gt (Zk isAgg3 rfl hb3 rfl (Gt (Xs rfl rfl (Gt (Qs 1 rfl (Zf (Zw (v := .bool (decide ((((y : Int) - T) - ((q.getD i (0, 0, 0)).1)) < ((q.getD i (0, 0, 0)).2.1)))) rfl rfl) (Za (W_if rfl (fun q19 => ?_) fun q19 => ?_))))))))))))))))))))
  ·exact Sn (Qs 4 rfl (Za (Zn (Zg rfl (Yr results111 rfl rfl rfl) ⟨_, rfl, (i : Int), 0, 10, rfl, (fun h => absurd h (by decide)), HU⟩))))
  refine Zi (Sn (Qs 1 rfl (Zf (Zo underlying203 rfl sizeOf3 rfl rfl) (Zk isAgg3 rfl hb3 rfl (Xs rfl rfl (Qs 1 rfl (Za (Zl (Qs 1 rfl (Zf (Zo underlying203 rfl sizeOf3 rfl rfl) (Zk isAgg3 rfl hb3 rfl (Xd rfl rfl (Zf (Zo underlying203 rfl sizeOf3 rfl rfl) (Zk isAgg3 rfl hb3 rfl (Xd rfl rfl (Qs 1 rfl (Za (Zl (Qs 1 rfl (Xd rfl rfl (Qs 1 rfl (Za ?_))))))))))))))))))))))
  refine ⟨_, ?_, (i + 1), ((T + ((q.getD i (0, 0, 0)).1)) + ((q.getD i (0, 0, 0)).2.1)), rfl, rfl, ⟨rfl, rfl, Zt, rfl, rfl, rfl, Zt, trivial⟩, (by omega), (by omega), (by omega), (by omega), (by omega), (fun j hj => by rcases Nat.lt_or_ge j i with h9 | h9; exact hE j h9; obtain rfl : j = i := (by omega); exact ⟨by omega, by omega, by omega, by omega⟩), HL1⟩
  omega
 refine ZI (Sm (Qs 3 rfl (Xs rfl rfl (Qs 1 rfl (Za (W_if rfl (fun q20 => ?_) fun q20 => ?_))))))
 ·exact Sn (Qs 1 rfl (Zf (ZM underlying168 rfl) (Qs 3 rfl (Za (Zn (Zg rfl (Yr results111 rfl rfl rfl) ⟨_, rfl, (k : Int), 0, 10, rfl, (fun h => absurd h (by decide)), HU⟩))))))
 exact Zi (Sn (Qs 2 rfl (Xd rfl rfl (Qs 3 rfl (Za (Zn (Zg rfl (Yr results111 rfl rfl rfl) ⟨_, rfl, 0, (T + ((m : Int) - ls q i)), 0, rfl, (fun _ => ⟨fun j hj => hE j (by omega), by omega⟩), HU⟩)))))))
theorem wrun {sz n c m c2 k c3 y : Nat} {a a2 a3 : Option Addr} {b b2 : List Int} {q : List (Int × Int × Int)} {tt : Int} {R : Nat → Prop} (w : World) (hs : Sl w R 1 (.slice a n c) n (ints .u8 b)) (hs2 : Sl w R 1 (.slice a2 m c2) m (ints .u8 b2)) (hs3 : Sl w (fun g => g < w.heap.size) 3 (.slice a3 k c3) k (rows encQ q)) (hu : okU q) (hsz : 1 ≤ sz ∧ sz ≤ 134217728) (hn : n ≤ 134217728) (hb : Byt b) (hbz : Byt b2) (hm : m ≤ 400000000) (hk : k ≤ 65536) (hy : y ≤ 131072) (htt : 0 ≤ tt ∧ tt ≤ 100000000000000) :
  Calls Tryz.prog 89 #[.agg #[.int .i64 sz, .slice a n c, .int .i64 tt], .slice a2 m c2, .slice a3 k c3, .int .i64 y] w (Ret fun v w' => ∃ (a' : Option Addr) (m' : Nat) (c' : Nat) (z : List Int) (ty : Int) (d' : Option Addr) (s' : Nat) (f' : Nat) (vs : List AV) (e : Int), v = .tuple #[.agg #[.int .i64 sz, .slice a' m' c', .int .i64 ty], .slice d' s' f', .int .i64 e] ∧ Sl w' (fun g => R g ∨ w.heap.size ≤ g) 1 (.slice a' m' c') m' (ints .u8 z) ∧ Own w' (fun g => w.heap.size ≤ g) 22 1 (.slice d' s' f') s' (rows encA vs) ∧ Pcs w' 1000000 w'.heap.size w'.heap.size vs ∧ Byt z ∧ m' ≤ 134217728 ∧ s' ≤ 70000 ∧ tt ≤ ty ∧ ty ≤ tt + 30000000000 ∧ Upd No w w') := by
 have HU := Upd.Yo w
 have hl_hs := ZC hs
 have hc_hs := hs.cap.1
 have hl_hs2 := ZC hs2
 have hc_hs2 := hs2.cap.1
 have hl_hs3 := Ya ZP (by decide) hs3
 have hc_hs3 := hs3.cap.1
 refine Zq func89 rfl ntmps89 (by simp) (Sn (Xb rfl ?_))
 intro B1 w1 hB1 hU1 hzz1 hb1
 refine ZB zeroValue95 rfl ?_
 intro B2 w2 hB2 hU2 hzz2 hb2
 refine Qs 2 rfl (Za (Sm (Zf (Zo underlying95 rfl sizeOf3 rfl rfl) ?_)))
 replace hb1 := hb1.Zc hU2
 refine Zk isAgg3 rfl hb1 rfl (Zf (Zo underlying95 rfl sizeOf22 rfl rfl) (Zk isAgg22 rfl hb1 rfl (Zf (ZM underlying22 rfl) (Qs 1 rfl (Zf (ZM underlying22 rfl) (Qs 2 rfl ?_))))))
 replace hs3 := (hs3.Zc hU1).Zc hU2
 refine Zj (r_call5 rfl call111 rfl rfl rfl rfl rfl) (wwhere _ hs3.any (by omega) (by omega) (by omega) (by omega) (by omega) (by omega)) ?_
 rintro v w3 ⟨xx3, yy3, e3, rfl, he_3, hU3⟩
 have:=hU3.size
 have hee := he_3
 refine Qs 7 rfl (Za (Sn (Qs 2 rfl (Za ?_))))
 replace hs := (((hs.tight).Zc hU1).Zc hU2).Zc hU3
 replace HU := ((HU.Zb hU1).Zb hU2).Zb hU3
 replace hb1 := hb1.Zc hU3
 replace hb2 := hb2.Zc hU3
 by_cases q1 : e3 ≠ 0
 ·rw [decide_eq_true q1]
  refine Ct (Sn (Xl isAgg95 sizeOf95 rfl hb1 rfl (Qs 1 rfl (Xa sizeOf95 rfl rfl rfl rfl hb2 rfl ?_))))
  intro w4 hU4 hzz4 hb2
  exact Qs 2 rfl (Za (Zn (Zg rfl (Yb results89 rfl rfl rfl (Zu isAgg95 sizeOf95 rfl hb2)) ⟨_, rfl, a, n, c, b, tt, none, 0, 0, [], e3, rfl, ((hs.Zh hU4).weak (fun g h => .inl h.1)), Own.nil _ _ _ _, Pcs.nil _ _ _ _, hb, (by omega), (by omega), (by omega), (by omega), (HU.t1 hU4)⟩)))
 have hE := hee (Classical.not_not.1 q1)
 have hE1 := hE.1
 rw [decide_eq_false q1]
 refine Cf (Zi (Sn (Qs 1 rfl (Za (Sm (Qs 1 rfl (Za (Zs ?_))))))))
 refine ZS (fun mu ρ ds w' => ∃ (i : Nat) (vs : List AV) (a1 : Option Addr) (c1 : Nat) (go : Nat) (aR : Option Addr) (nR : Nat) (cR : Nat) (zR : List Int) (tR : Int) (aL : Option Addr) (mL : Nat) (cL : Nat) (bL : List Int), k - i = mu ∧ ds = [] ∧ Liv ρ [(1, .slice aL mL cL), (2, .slice a3 k c3), (4, .pointer (some ⟨B1, 0, none⟩)), (8, .pointer (some ⟨B2, 0, none⟩)), (14, .slice a1 i c1), (15, .int .i64 i)] ∧ i ≤ k ∧ Byt zR ∧ nR ≤ 134217728 ∧ tt ≤ tR ∧ tR ≤ tt + (i : Int) * 300000 ∧ Byt bL ∧ (mL : Int) = (m : Int) - ls q i ∧ 0 ≤ ls q i ∧ Own w' (fun g => g = go ∧ 0 < i ∧ w3.heap.size ≤ g) 22 1 (.slice a1 i c1) i (rows encA vs) ∧ Pcy w' 1000000 w'.heap.size go w.heap.size w3.heap.size vs ∧ Blk w' B1 [.int .i64 sz, .slice aR nR cR, .int .i64 tR] ∧ Sl w' (fun g => ((R g ∧ g < w.heap.size ∨ w3.heap.size ≤ g) ∧ (g ≠ go ∨ i = 0))) 1 (.slice aR nR cR) nR (ints .u8 zR) ∧ Sl w' (fun g => ((R g) ∧ g < w.heap.size)) 1 (.slice aL mL cL) mL (ints .u8 bL) ∧ Upd (fun g => g = B1 ∨ w3.heap.size ≤ g) w3 w') _ ⟨0, [], none, 0, 0, a, n, c, b, tt, a2, m, c2, b2, rfl, rfl, ⟨rfl, rfl, rfl, rfl, rfl, (by first | rfl | exact Zt (by omega) | exact Zt (by simp)), trivial⟩, (by omega), hb, (by omega), (by omega), (by omega), hbz, (by show _ = _ - (0 : Int); omega), (Int.le_refl _), (by exact Own.nil _ _ _ _), (Pcy.nil _ _ _ _ _ _), hb1, (hs.weak (by intro g hg; have h3 : ((R g) ∧ g < w.heap.size) := hg; show (R g ∧ g < w.heap.size ∨ _ ≤ g) ∧ (g ≠ 0 ∨ 0 = 0); exact ⟨.inl h3, .inr rfl⟩)), ((((hs2.tight).Zc hU1).Zc hU2).Zc hU3), Upd.refl _ _⟩ ?_
 rintro m5 ρ5 ds5 w5 ⟨i, vs, a1, c1, go, aR, nR, cR, zR, tR, aL, mL, cL, bL, rfl, rfl, hl5, hi, hbR, hnR, ht0, ht1, hbL, hmL, hl0, hO, hP, hb1, hRg, hL, hU5⟩
 obtain ⟨ρ5x, rfl⟩ : ∃ ρx, ρ5 = upds ρx [(1, .slice aL mL cL), (2, .slice a3 k c3), (4, .pointer (some ⟨B1, 0, none⟩)), (8, .pointer (some ⟨B2, 0, none⟩)), (14, .slice a1 i c1), (15, .int .i64 i)] := ⟨_, ZD hl5⟩
 replace hs3 := hs3.Zc hU3
 clear hl5
 have:=hU5.size
 replace hO := hO.tight
 have hl_hO := Ya Yt (by decide) hO.sl
 have hc_hO := hO.sl.cap.1
 replace hRg := hRg.tight
 have hl_hRg := ZC hRg
 have hc_hRg := hRg.cap.1
 have hl_hL := ZC hL
 have hc_hL := hL.cap.1
 have hls : ls q (i + 1) = ls q i + (q.getD i (0, 0, 0)).1 := rfl
 have hgu := hu.gd i
 have HL5 := hU5
 refine Sm (Qs 2 rfl (Zf (ZM underlying168 rfl) (Qs 1 rfl (Za ?_))))
 by_cases q2 : (i : Int) < (k : Int)
 ·have hEi := hE1 i (by omega)
  have hE2 := hE.2
  rw [decide_eq_true q2]
  refine Ct (Zi (Zz (Zs (Sn (Wl_lit0 underlying22 sizeOf5 ?_)))))
  intro B6 w6 hB6 hU6 hzz6 hs6
  refine Qs 3 rfl ?_
  replace hs3 := (hs3.upd hU5).Zc hU6
  refine Yg (0, 0, 0) ZP (by decide) underlying168 sizeOf203 rfl rfl hs3 (by omega) (by omega) ?_
  intro ib7 io7 hc7
  try rw [Int.toNat_natCast] at hc7
  refine Zf (Zo underlying203 rfl sizeOf3 rfl rfl) (ZH (v := .int .i64 ((q.getD i (0, 0, 0)).1)) isAgg3 rfl (hc7 0 (by decide)) (Zf (Y5 (h' := ((q.getD i (0, 0, 0)).1).toNat) underlying22 sizeOf5 rfl rfl (by omega) (by omega)) ?_))
  replace hL := hL.Zc hU6
  have hT8 := Sl.cuth (n := ((q.getD i (0, 0, 0)).1).toNat) hL (by omega)
  have hl_hT8 := ZC hT8
  have hc_hT8 := hT8.cap.1
  refine Z1 (xs := []) (ys := bL.take (((q.getD i (0, 0, 0)).1).toNat)) (zs := bL.take (((q.getD i (0, 0, 0)).1).toNat)) (k' := .u8) (tot := ((q.getD i (0, 0, 0)).1).toNat) (by first | rfl | exact (ZR _ _).symm | simp) underlying22 (ti := Tryz.t5) (z := .int .u8 0) (sz := 1) (by' := 1) rfl rfl rfl rfl rfl (by decide) rfl hs6 rfl hT8  (by omega) (by simp only [maxLen]; omega) (by omega) ?_
  intro a9 c9 w9 hU9 hzz9 hO9
  replace HU := HU.trans hU5
  replace hb2 := hb2.upd hU5
  replace hO := hO.Zc hU6
  replace hP := hP.Zc hU6
  replace hb1 := hb1.Zc hU6
  replace hRg := hRg.Zc hU6
  replace HL5 := HL5.Zb hU6
  clear hs6
  have:=hU9.size
  replace hO9 := hO9.tight
  have hl_hO9 := ZC hO9.sl
  have hc_hO9 := hO9.sl.cap.1
  refine Qs 1 rfl (Za (Sn ?_))
  replace hb1 := hb1.upd hU9
  refine Xl isAgg95 sizeOf95 rfl hb1 rfl (Qs 1 rfl (Zj (Zy rfl call59 rfl rfl) (wadd _ (hRg.upd hU9).any hO9.sl.any (by omega) (by omega) hbR (ZU hbL _) (by omega) (by omega)) ?_))
  rintro v w10 ⟨a10, m10, c10, z10, rfl, hO10, hz_10, hm9_10, hU10⟩
  have:=hU10.size
  have hl_hO10 := ZC hO10
  have hc_hO10 := hO10.cap.1
  replace hb1 := hb1.Zc hU10
  refine Xa sizeOf95 rfl rfl rfl rfl hb1 rfl ?_
  intro w11 hU11 hzz11 hb1
  refine Za (Sn (Qs 3 rfl ?_))
  replace hs3 := ((hs3.upd hU9).Zc hU10).Zh hU11
  refine Yg (0, 0, 0) ZP (by decide) underlying168 sizeOf203 rfl rfl hs3 (by omega) (by omega) ?_
  intro ib12 io12 hc12
  try rw [Int.toNat_natCast] at hc12
  refine Zf (Zo underlying203 rfl sizeOf3 rfl rfl) (ZH (v := .int .i64 ((q.getD i (0, 0, 0)).1)) isAgg3 rfl (hc12 0 (by decide)) (Zf (Ym (l' := ((q.getD i (0, 0, 0)).1).toNat) (n' := mL - ((q.getD i (0, 0, 0)).1).toNat) underlying22 sizeOf5 rfl rfl (by omega) (by omega) (by omega)) ?_))
  have hT13 := Sl.cutl (l := ((q.getD i (0, 0, 0)).1).toNat) (n := mL - ((q.getD i (0, 0, 0)).1).toNat) (((hL.upd hU9).Zc hU10).Zh hU11) (by omega) (by omega)
  have hl_hT13 := ZC hT13
  have hc_hT13 := hT13.cap.1
  refine Qs 1 rfl (Za (Zz (Yk (T := fun g => False) rfl (l0 := tf 0 20) (by kernel_rfl) (Sv (Upd.refl _ _) rfl (fun w' hw' => Xt (cs := [.int .i64 sz, .slice a10 m10 c10, .int .i64 (tR + (((((q.getD i (0, 0, 0)).1).toNat) : Nat) : Int))]) isAgg95 sizeOf95 rfl (hb1.Zc hw') rfl rfl) (Sq (Upd.refl _ _) rfl (Sq (Upd.refl _ _) rfl ?_))))))
  obtain ⟨ib14, io14, ha14, hib14, hc14⟩ := Sl.rat (0, 0, 0) ZP (by decide) (hs3) (i := i) (by omega)
  refine Sv (Upd.refl _ _) rfl (fun _ _ => Yl (b := ib14) (off := io14) (m := k) (c := c3) (o' := io14 + i * 3) underlying168 sizeOf203 (by rw [← ha14]; rfl) rfl (by omega) (by omega) (by omega)) (Sv (Upd.refl _ _) rfl (fun _ _ => Zo underlying203 rfl sizeOf3 rfl rfl) (Sv (Upd.refl _ _) rfl (v := .int .i64 ((q.getD i (0, 0, 0)).2.2)) (fun w' hw' => Yd (v := .int .i64 ((q.getD i (0, 0, 0)).2.2)) isAgg3 rfl (hw'.Y8 (hc14 2 (by decide)))) (Sq (Upd.refl _ _) rfl (Sq (Upd.refl _ _) rfl ?_))))
  obtain ⟨ib15, io15, ha15, hib15, hc15⟩ := Sl.rat (0, 0, 0) ZP (by decide) (hs3) (i := i) (by omega)
  refine Sv (Upd.refl _ _) rfl (fun _ _ => Yl (b := ib15) (off := io15) (m := k) (c := c3) (o' := io15 + i * 3) underlying168 sizeOf203 (by rw [← ha15]; rfl) rfl (by omega) (by omega) (by omega)) (Sv (Upd.refl _ _) rfl (fun _ _ => Zo underlying203 rfl sizeOf3 rfl rfl) (Sv (Upd.refl _ _) rfl (v := .int .i64 ((q.getD i (0, 0, 0)).2.1)) (fun w' hw' => Yd (v := .int .i64 ((q.getD i (0, 0, 0)).2.1)) isAgg3 rfl (hw'.Y8 (hc15 1 (by decide)))) ?_))
  intro w16 hU16
  have:=hU16.size
  replace hO := (((hO.upd hU9).Zc hU10).Zh hU11).Zc hU16
  replace hP := (((hP.upd hU9).Zc hU10).Zh hU11).Zc hU16
  replace HL5 := (((HL5.trans hU9).Zb hU10).Zr hU11).Zb hU16
  replace hO9 := ((hO9.Zc hU10).Zh hU11).Zc hU16
  replace hO10 := ((hO10.tight).Zh hU11).Zc hU16
  replace hb1 := hb1.Zc hU16
  replace hT13 := hT13.Zc hU16
  refine Wa_two (i := 11) (j := 16) (li := tf 12 20) (lj := #[true, true, true, true, true, true, true, true, true, true, true, false, false, false, false, false, true, false, false, false]) (by kernel_rfl) rfl rfl (by kernel_rfl) (by kernel_rfl) ?_ ?_
  ·refine Ws_of_Wl ?_
   have hW : Upd (fun g => False) w11 w11 := (Upd.refl _ _)
   refine Zj (Z5 rfl call112 rfl rfl rfl) (wcopy _ hO10 (by omega) (by omega) hz_10 (by omega)) ?_
   rintro v w17 ⟨a17, m17, c17, z17, ty17, d17, s17, f17, x17, e17, rfl, hO17, hX17, hz_17, hm9_17, hx_17, hs9_17, ht0_17, ht1_17, hU17⟩
   have:=hU17.size
   have hl_hO17 := ZC hO17
   have hc_hO17 := hO17.cap.1
   have hl_hX17 := ZC hX17
   have hc_hX17 := hX17.cap.1
   refine Za ?_
   intro w18 hS18
   replace hW := (hW.Zb hU16).Zb hU17
   have hX18 : Upd _ w11 w18 := hW.Zb hS18.upd
   refine bF hX18 ?_
   have hU18 := hS18.upd
   have:=hU18.size
   refine Z8 (Sq hX18 rfl (Sq hX18 rfl (Sq hX18 rfl (Sq hX18 rfl ?_))))
   intro w19 hU19
   have:=hU19.size
   refine Wo 16 (tf 17 20) rfl ?_
   have hW : Upd (fun g => False) w11 w18 := hX18
   refine ZB zeroValue95 rfl ?_
   intro B20 w20 hB20 hU20 hzz20 hb20
   refine Za ?_
   intro w21 hS21
   replace hW := (hW.Zb hU19).Zb hU20
   have hX21 : Upd _ w11 w21 := hW.Zb hS21.upd
   refine bF hX21 ?_
   have hU21 := hS21.upd
   have:=hU21.size
   refine Z8 ?_
   intro w22 hU22
   have:=hU22.size
   refine Wo 17 (tf 18 20) rfl ?_
   have hW : Upd (fun g => False) w11 w21 := hX21
   replace hb20 := (hb20.Zc hU21).Zc hU22
   refine Xa sizeOf95 rfl rfl rfl rfl hb20 rfl ?_
   intro w23 hU23 hzz23 hb20
   refine Za ?_
   intro w24 hS24
   have hX24 : Upd _ w11 w24 := ((hW.Zb hU22).Zr hU23).Zb hS24.upd
   refine bF hX24 ?_
   have hU24 := hS24.upd
   have:=hU24.size
   refine Z8 (Sq hX24 rfl (Sq hX24 rfl ?_))
   intro w25 hU25
   have:=hU25.size
   refine Wd (Sn (Xl isAgg95 sizeOf95 rfl ((hb20.Zc hU24).Zc hU25) rfl ?_))
   replace hb1 := ((((((((hb1.Zc hU17).Zc hU18).Zc hU19).Zc hU20).Zc hU21).Zc hU22).Zh hU23).Zc hU24).Zc hU25
   refine Xa sizeOf95 rfl rfl rfl rfl hb1 rfl ?_
   intro w26 hU26 hzz26 hb1
   refine Za (Zl (Qs 3 rfl ?_))
   replace hO9 := (((((((((hO9.Zc hU17).Zc hU18).Zc hU19).Zc hU20).Zc hU21).Zc hU22).Zh hU23).Zc hU24).Zc hU25).Zh hU26
   refine Z1 (xs := bL.take (((q.getD i (0, 0, 0)).1).toNat)) (ys := x17) (zs := (bL.take (((q.getD i (0, 0, 0)).1).toNat)) ++ x17) (k' := .u8) (tot := (((q.getD i (0, 0, 0)).1).toNat) + s17) (by first | rfl | exact (ZR _ _).symm | simp) underlying22 (ti := Tryz.t5) (z := .int .u8 0) (sz := 1) (by' := 1) rfl rfl rfl rfl rfl (by decide) rfl hO9 rfl ((((((((((hX17.tight).Zc hU18).Zc hU19).Zc hU20).Zc hU21).Zc hU22).Zh hU23).Zc hU24).Zc hU25).Zh hU26)  (by omega) (by simp only [maxLen]; omega) (by omega) ?_
   intro a27 c27 w27 hU27 hzz27 hO27
   replace hO := (((((((((hO.Zc hU17).Zc hU18).Zc hU19).Zc hU20).Zc hU21).Zc hU22).Zh hU23).Zc hU24).Zc hU25).Zh hU26
   replace hP := (((((((((hP.Zc hU17).Zc hU18).Zc hU19).Zc hU20).Zc hU21).Zc hU22).Zh hU23).Zc hU24).Zc hU25).Zh hU26
   replace HL5 := (((((((((HL5.Zb hU17).Zb hU18).Zb hU19).Zb hU20).Zb hU21).Zb hU22).Zr hU23).Zb hU24).Zb hU25).Zr hU26
   replace hT13 := (((((((((hT13.Zc hU17).Zc hU18).Zc hU19).Zc hU20).Zc hU21).Zc hU22).Zh hU23).Zc hU24).Zc hU25).Zh hU26
   replace hO17 := (((((((((hO17.tight).Zc hU18).Zc hU19).Zc hU20).Zc hU21).Zc hU22).Zh hU23).Zc hU24).Zc hU25).Zh hU26
   clear hO9
   have:=hU27.size
   replace hO27 := hO27.tight
   have hl_hO27 := ZC hO27.sl
   have hc_hO27 := hO27.sl.cap.1
   refine Xz [.slice a27 ((((q.getD i (0, 0, 0)).1).toNat) + s17) c27] underlying171 sizeOf22 zeroValue22 ?_
   intro B28 w28 hB28 hU28 hzz28 hs28
   replace hs28 : Own w28 (Is B28) 22 1 (.slice (some ⟨B28, 0, none⟩) 1 1) 1 (rows encA [(a27, (((q.getD i (0, 0, 0)).1).toNat) + s17, c27)]) := hs28
   replace hO := (hO.upd hU27).Zc hU28
   refine Ye (cs3 := rows encA (vs ++ [(a27, (((q.getD i (0, 0, 0)).1).toNat) + s17, c27)])) (tot := i + 1) (by first | rfl | exact (ZR _ _).symm | simp) underlying171 (ti := Tryz.t22) (z := .slice none 0 0) (sz := 1) (by' := 24) rfl rfl rfl rfl rfl (by decide) rfl hO rfl hs28.sl (Yn encA_one _) (by omega) (by simp only [maxLen]; omega) (by omega) ?_
   intro a29 c29 w29 hU29 hzz29 hO29
   replace hP := (hP.upd hU27).Zc hU28
   replace hb1 := (hb1.upd hU27).Zc hU28
   replace HL5 := (HL5.trans hU27).Zb hU28
   replace hT13 := (hT13.upd hU27).Zc hU28
   replace hO17 := (hO17.upd hU27).Zc hU28
   replace hO27 := hO27.Zc hU28
   clear hO
   have:=hU29.size
   replace hO29 := hO29.tight
   have hl_hO29 := Ya Yt (by decide) hO29.sl
   have hc_hO29 := hO29.sl.cap.1
   obtain ⟨go30, hgo30, hOo30⟩ := hO29.one (by omega)
   replace hgo30 : ((((((go30 = go ∧ 0 < i ∧ w3.heap.size ≤ go30) ∧ go30 < w5.heap.size)) ∨ go30 = w28.heap.size)) ∧ go30 < w29.heap.size) := hgo30
   replace hP := hP.upd hU29
   replace hb1 := hb1.upd hU29
   replace HL5 := HL5.trans hU29
   replace hT13 := hT13.upd hU29
   replace hO17 := hO17.upd hU29
   replace hO27 := hO27.upd hU29
   clear hO29
   refine Qs 1 rfl (Za (Zl (Qs 1 rfl (Xd rfl rfl (Qs 1 rfl (Za ?_))))))
   have hPn : Pcy w29 1000000 (w29.heap.size) go30 w.heap.size w3.heap.size (vs ++ [(a27, (((q.getD i (0, 0, 0)).1).toNat) + s17, c27)]) := Pcy.snoc (hP.wide (by omega) (by omega)) (Pd.of (hi := w29.heap.size) (go := go30) (lo := w.heap.size) (mid := w3.heap.size) hO27.sl (Yq (ZU hbL _) hx_17) (by omega) (by intro g hg; have h3 : ((((((((g = B6) ∨ g = w6.heap.size)) ∧ g < w9.heap.size)) ∨ g = w26.heap.size)) ∧ g < w27.heap.size) := hg; omega))
   refine ⟨_, ?_, (i + 1), (vs ++ [(a27, (((q.getD i (0, 0, 0)).1).toNat) + s17, c27)]), a29, c29, go30, a17, m17, c17, z17, ty17, (if cL = ((q.getD i (0, 0, 0)).1).toNat then aL else aL.map (·.add ((((q.getD i (0, 0, 0)).1).toNat) * 1))), (mL - ((q.getD i (0, 0, 0)).1).toNat), (cL - (((q.getD i (0, 0, 0)).1).toNat)), (bL.drop (((q.getD i (0, 0, 0)).1).toNat)), rfl, rfl, ⟨rfl, rfl, rfl, rfl, rfl, Zt, trivial⟩, (by omega), hz_17, (by omega), (by omega), (by omega), (ZL hbL _), (by omega), (by omega), ((hOo30.tight).weak), hPn, hb1, (hO17.weak (by intro g hg; have h3 : (((((w9.heap.size ≤ g) ∧ g < w10.heap.size)) ∨ w16.heap.size ≤ g) ∧ g < w17.heap.size) := hg; show (R g ∧ g < w.heap.size ∨ w3.heap.size ≤ g) ∧ (g ≠ go30 ∨ i + 1 = 0); exact ⟨.inr (by omega), .inl (by omega)⟩)), hT13, HL5⟩
   omega
  refine Ws_of_Wl ?_
  have hW : Upd (fun g => False) w11 w11 := (Upd.refl _ _)
  refine ZB zeroValue95 rfl ?_
  intro B31 w31 hB31 hU31 hzz31 hb31
  refine Za ?_
  intro w32 hS32
  replace hW := (hW.Zb hU16).Zb hU31
  have hX32 : Upd _ w11 w32 := hW.Zb hS32.upd
  refine bF hX32 ?_
  have hU32 := hS32.upd
  have:=hU32.size
  refine Z8 ?_
  intro w33 hU33
  have:=hU33.size
  refine Wo 11 (#[true, true, true, true, true, true, true, true, true, true, true, true, false, false, false, false, true, false, false, false]) rfl ?_
  have hW : Upd (fun g => False) w11 w32 := hX32
  refine Zj (Z5 rfl call112 rfl rfl rfl) (wcopy _ (((hO10.Zc hU31).Zc hU32).Zc hU33) (by omega) (by omega) hz_10 (by omega)) ?_
  rintro v w34 ⟨a34, m34, c34, z34, ty34, d34, s34, f34, x34, e34, rfl, hO34, hX34, hz_34, hm9_34, hx_34, hs9_34, ht0_34, ht1_34, hU34⟩
  have:=hU34.size
  have hl_hO34 := ZC hO34
  have hc_hO34 := hO34.cap.1
  have hl_hX34 := ZC hX34
  have hc_hX34 := hX34.cap.1
  refine Za ?_
  intro w35 hS35
  replace hW := (hW.Zb hU33).Zb hU34
  have hX35 : Upd _ w11 w35 := hW.Zb hS35.upd
  refine bF hX35 ?_
  have hU35 := hS35.upd
  have:=hU35.size
  refine Z8 (Yp (i := 12) (listed' := #[true, true, true, true, true, true, true, true, true, true, true, true, true, false, false, false, true, false, false, false]) hX35 (by kernel_rfl) rfl (by kernel_rfl) (by kernel_rfl) (by kernel_rfl) (by kernel_rfl) (YS_v (v := .tuple #[.agg #[.int .i64 sz, .slice a34 m34 c34, .int .i64 ty34], .slice d34 s34 f34, .int .i64 e34]) rfl (fun w' hw' => r_mv (v := .tuple #[.agg #[.int .i64 sz, .slice a34 m34 c34, .int .i64 ty34], .slice d34 s34 f34, .int .i64 e34]) rfl)) (Yp (i := 13) (listed' := #[true, true, true, true, true, true, true, true, true, true, true, true, true, true, false, false, true, false, false, false]) hX35 (by kernel_rfl) rfl (by kernel_rfl) (by kernel_rfl) (by kernel_rfl) (by kernel_rfl) (YS_v (v := .agg #[.int .i64 sz, .slice a34 m34 c34, .int .i64 ty34]) rfl (fun w' hw' => r_ext (v := .agg #[.int .i64 sz, .slice a34 m34 c34, .int .i64 ty34]) rfl rfl)) (Yp (i := 14) (listed' := #[true, true, true, true, true, true, true, true, true, true, true, true, true, true, true, false, true, false, false, false]) hX35 (by kernel_rfl) rfl (by kernel_rfl) (by kernel_rfl) (by kernel_rfl) (by kernel_rfl) (YS_v (v := .slice d34 s34 f34) rfl (fun w' hw' => r_ext (v := .slice d34 s34 f34) rfl rfl)) ?_)))
  refine Yp (i := 15) (listed' := tf 17 20) hX35 (by kernel_rfl) rfl (by kernel_rfl) (by kernel_rfl) (by kernel_rfl) (by kernel_rfl) (YS_v (v := .int .i64 e34) rfl (fun w' hw' => r_ext (v := .int .i64 e34) rfl rfl)) ?_
  intro w36 hU36
  have:=hU36.size
  refine Wo 17 (tf 18 20) rfl ?_
  have hW : Upd (fun g => False) w11 w35 := hX35
  replace hb31 := ((((hb31.Zc hU32).Zc hU33).Zc hU34).Zc hU35).Zc hU36
  refine Xa sizeOf95 rfl rfl rfl rfl hb31 rfl ?_
  intro w37 hU37 hzz37 hb31
  refine Za ?_
  intro w38 hS38
  have hX38 : Upd _ w11 w38 := ((hW.Zb hU36).Zr hU37).Zb hS38.upd
  refine bF hX38 ?_
  have hU38 := hS38.upd
  have:=hU38.size
  refine Z8 (Sq hX38 rfl (Sq hX38 rfl ?_))
  intro w39 hU39
  have:=hU39.size
  refine Wd (Sn (Xl isAgg95 sizeOf95 rfl ((hb31.Zc hU38).Zc hU39) rfl ?_))
  replace hb1 := ((((((((hb1.Zc hU31).Zc hU32).Zc hU33).Zc hU34).Zc hU35).Zc hU36).Zh hU37).Zc hU38).Zc hU39
  refine Xa sizeOf95 rfl rfl rfl rfl hb1 rfl ?_
  intro w40 hU40 hzz40 hb1
  refine Za (Zl (Qs 3 rfl ?_))
  replace hO9 := (((((((((hO9.Zc hU31).Zc hU32).Zc hU33).Zc hU34).Zc hU35).Zc hU36).Zh hU37).Zc hU38).Zc hU39).Zh hU40
  refine Z1 (xs := bL.take (((q.getD i (0, 0, 0)).1).toNat)) (ys := x34) (zs := (bL.take (((q.getD i (0, 0, 0)).1).toNat)) ++ x34) (k' := .u8) (tot := (((q.getD i (0, 0, 0)).1).toNat) + s34) (by first | rfl | exact (ZR _ _).symm | simp) underlying22 (ti := Tryz.t5) (z := .int .u8 0) (sz := 1) (by' := 1) rfl rfl rfl rfl rfl (by decide) rfl hO9 rfl (((((((hX34.tight).Zc hU35).Zc hU36).Zh hU37).Zc hU38).Zc hU39).Zh hU40)  (by omega) (by simp only [maxLen]; omega) (by omega) ?_
  intro a41 c41 w41 hU41 hzz41 hO41
  replace hO := (((((((((hO.Zc hU31).Zc hU32).Zc hU33).Zc hU34).Zc hU35).Zc hU36).Zh hU37).Zc hU38).Zc hU39).Zh hU40
  replace hP := (((((((((hP.Zc hU31).Zc hU32).Zc hU33).Zc hU34).Zc hU35).Zc hU36).Zh hU37).Zc hU38).Zc hU39).Zh hU40
  replace HL5 := (((((((((HL5.Zb hU31).Zb hU32).Zb hU33).Zb hU34).Zb hU35).Zb hU36).Zr hU37).Zb hU38).Zb hU39).Zr hU40
  replace hT13 := (((((((((hT13.Zc hU31).Zc hU32).Zc hU33).Zc hU34).Zc hU35).Zc hU36).Zh hU37).Zc hU38).Zc hU39).Zh hU40
  replace hO34 := ((((((hO34.tight).Zc hU35).Zc hU36).Zh hU37).Zc hU38).Zc hU39).Zh hU40
  clear hO9
  have:=hU41.size
  replace hO41 := hO41.tight
  have hl_hO41 := ZC hO41.sl
  have hc_hO41 := hO41.sl.cap.1
  refine Xz [.slice a41 ((((q.getD i (0, 0, 0)).1).toNat) + s34) c41] underlying171 sizeOf22 zeroValue22 ?_
  intro B42 w42 hB42 hU42 hzz42 hs42
  replace hs42 : Own w42 (Is B42) 22 1 (.slice (some ⟨B42, 0, none⟩) 1 1) 1 (rows encA [(a41, (((q.getD i (0, 0, 0)).1).toNat) + s34, c41)]) := hs42
  replace hO := (hO.upd hU41).Zc hU42
  refine Ye (cs3 := rows encA (vs ++ [(a41, (((q.getD i (0, 0, 0)).1).toNat) + s34, c41)])) (tot := i + 1) (by first | rfl | exact (ZR _ _).symm | simp) underlying171 (ti := Tryz.t22) (z := .slice none 0 0) (sz := 1) (by' := 24) rfl rfl rfl rfl rfl (by decide) rfl hO rfl hs42.sl (Yn encA_one _) (by omega) (by simp only [maxLen]; omega) (by omega) ?_
  intro a43 c43 w43 hU43 hzz43 hO43
  replace hP := (hP.upd hU41).Zc hU42
  replace hb1 := (hb1.upd hU41).Zc hU42
  replace HL5 := (HL5.trans hU41).Zb hU42
  replace hT13 := (hT13.upd hU41).Zc hU42
  replace hO34 := (hO34.upd hU41).Zc hU42
  replace hO41 := hO41.Zc hU42
  clear hO
  have:=hU43.size
  replace hO43 := hO43.tight
  have hl_hO43 := Ya Yt (by decide) hO43.sl
  have hc_hO43 := hO43.sl.cap.1
  obtain ⟨go44, hgo44, hOo44⟩ := hO43.one (by omega)
  replace hgo44 : ((((((go44 = go ∧ 0 < i ∧ w3.heap.size ≤ go44) ∧ go44 < w5.heap.size)) ∨ go44 = w42.heap.size)) ∧ go44 < w43.heap.size) := hgo44
  replace hP := hP.upd hU43
  replace hb1 := hb1.upd hU43
  replace HL5 := HL5.trans hU43
  replace hT13 := hT13.upd hU43
  replace hO34 := hO34.upd hU43
  replace hO41 := hO41.upd hU43
  clear hO43
  refine Qs 1 rfl (Za (Zl (Qs 1 rfl (Xd rfl rfl (Qs 1 rfl (Za ?_))))))
  have hPn : Pcy w43 1000000 (w43.heap.size) go44 w.heap.size w3.heap.size (vs ++ [(a41, (((q.getD i (0, 0, 0)).1).toNat) + s34, c41)]) := Pcy.snoc (hP.wide (by omega) (by omega)) (Pd.of (hi := w43.heap.size) (go := go44) (lo := w.heap.size) (mid := w3.heap.size) hO41.sl (Yq (ZU hbL _) hx_34) (by omega) (by intro g hg; have h3 : ((((((((g = B6) ∨ g = w6.heap.size)) ∧ g < w9.heap.size)) ∨ g = w40.heap.size)) ∧ g < w41.heap.size) := hg; omega))
  refine ⟨_, ?_, (i + 1), (vs ++ [(a41, (((q.getD i (0, 0, 0)).1).toNat) + s34, c41)]), a43, c43, go44, a34, m34, c34, z34, ty34, (if cL = ((q.getD i (0, 0, 0)).1).toNat then aL else aL.map (·.add ((((q.getD i (0, 0, 0)).1).toNat) * 1))), (mL - ((q.getD i (0, 0, 0)).1).toNat), (cL - (((q.getD i (0, 0, 0)).1).toNat)), (bL.drop (((q.getD i (0, 0, 0)).1).toNat)), rfl, rfl, ⟨rfl, rfl, rfl, rfl, rfl, Zt, trivial⟩, (by omega), hz_34, (by omega), (by omega), (by omega), (ZL hbL _), (by omega), (by omega), ((hOo44.tight).weak), hPn, hb1, (hO34.weak (by intro g hg; have h3 : (((((w9.heap.size ≤ g) ∧ g < w10.heap.size)) ∨ w33.heap.size ≤ g) ∧ g < w34.heap.size) := hg; show (R g ∧ g < w.heap.size ∨ w3.heap.size ≤ g) ∧ (g ≠ go44 ∨ i + 1 = 0); exact ⟨.inr (by omega), .inl (by omega)⟩)), hT13, HL5⟩
  omega
 rw [decide_eq_false q2]
 refine Cf (ZI (Sm (Qs 1 rfl (Zf (ZM underlying22 rfl) (Qs 1 rfl (Za ?_))))))
 replace HU := HU.trans hU5
 replace hb2 := hb2.upd hU5
 refine W_if rfl (fun q3 => ?_) fun q3 => ?_
 ·refine Sn (Xl isAgg95 sizeOf95 rfl hb1 rfl (Qs 1 rfl (Zj (Zy rfl call59 rfl rfl) (wadd _ hRg.any hL.any (by omega) (by omega) hbR hbL (by omega) (by omega)) ?_)))
  rintro v w45 ⟨a45, m45, c45, z45, rfl, hO45, hz_45, hm9_45, hU45⟩
  have:=hU45.size
  have hl_hO45 := ZC hO45
  have hc_hO45 := hO45.cap.1
  replace hb1 := hb1.Zc hU45
  refine Xa sizeOf95 rfl rfl rfl rfl hb1 rfl ?_
  intro w46 hU46 hzz46 hb1
  refine Za (Zl (Qs 2 rfl (Xz [.slice aL mL cL] underlying171 sizeOf22 zeroValue22 ?_)))
  intro B47 w47 hB47 hU47 hzz47 hs47
  replace hs47 : Own w47 (Is B47) 22 1 (.slice (some ⟨B47, 0, none⟩) 1 1) 1 (rows encA [(aL, mL, cL)]) := hs47
  replace hO := ((hO.Zc hU45).Zh hU46).Zc hU47
  refine Ye (cs3 := rows encA (vs ++ [(aL, mL, cL)])) (tot := i + 1) (by first | rfl | exact (ZR _ _).symm | simp) underlying171 (ti := Tryz.t22) (z := .slice none 0 0) (sz := 1) (by' := 24) rfl rfl rfl rfl rfl (by decide) rfl hO rfl hs47.sl (Yn encA_one _) (by omega) (by simp only [maxLen]; omega) (by omega) ?_
  intro a48 c48 w48 hU48 hzz48 hO48
  replace hs3 := hs3.upd hU5
  replace HU := ((HU.Zb hU45).t1 hU46).Zb hU47
  replace hb2 := ((hb2.Zc hU45).Zh hU46).Zc hU47
  replace hP := ((hP.Zc hU45).Zh hU46).Zc hU47
  replace hL := ((hL.Zc hU45).Zh hU46).Zc hU47
  replace hO45 := ((hO45.tight).Zh hU46).Zc hU47
  replace hb1 := hb1.Zc hU47
  clear hO
  have:=hU48.size
  replace hO48 := hO48.tight
  have hl_hO48 := Ya Yt (by decide) hO48.sl
  have hc_hO48 := hO48.sl.cap.1
  obtain ⟨go49, hgo49, hOo49⟩ := hO48.one (by omega)
  replace hgo49 : ((((((go49 = go ∧ 0 < i ∧ w3.heap.size ≤ go49) ∧ go49 < w5.heap.size)) ∨ go49 = w47.heap.size)) ∧ go49 < w48.heap.size) := hgo49
  replace HU := HU.trans hU48
  replace hb2 := hb2.upd hU48
  replace hP := hP.upd hU48
  replace hb1 := hb1.upd hU48
  replace hL := hL.upd hU48
  replace hO45 := hO45.upd hU48
  clear hO48
  refine Qs 1 rfl (Za (Sn (Xl isAgg95 sizeOf95 rfl hb1 rfl (Qs 1 rfl (Xa sizeOf95 rfl rfl rfl rfl hb2 rfl ?_)))))
  intro w50 hU50 hzz50 hb2
  exact Qs 2 rfl (Za (Zn (Zg rfl (Yb results89 rfl rfl rfl (Zu isAgg95 sizeOf95 rfl hb2)) ⟨_, rfl, a45, m45, c45, z45, (tR + (mL : Int)), a48, (i + 1), c48, (vs ++ [(aL, mL, cL)]), 0, rfl, ((hO45.Zh hU50).weak (fun g h => .inr (Nat.le_trans (by omega) h.1))), (((hOo49.tight).Zh hU50).weak), ((((hP.Zh hU50).wide (hi' := w50.heap.size) (go' := go49) (by omega) (by omega)).snoc (Pd.of (hi := w50.heap.size) (go := go49) (lo := w.heap.size) (mid := w3.heap.size) (hL.Zh hU50) hbL (by omega) (by intro g hg; have h3 : ((R g) ∧ g < w.heap.size) := hg; omega))).to (by omega) (by omega)), hz_45, (by omega), (by omega), (by omega), (by omega), (HU.t1 hU50)⟩)))
 refine Zi (Sn (Xl isAgg95 sizeOf95 rfl hb1 rfl (Qs 1 rfl (Xa sizeOf95 rfl rfl rfl rfl hb2 rfl ?_))))
 intro w51 hU51 hzz51 hb2
 exact Qs 2 rfl (Za (Zn (Zg rfl (Yb results89 rfl rfl rfl (Zu isAgg95 sizeOf95 rfl hb2)) ⟨_, rfl, aR, nR, cR, zR, tR, a1, i, c1, vs, 0, rfl, ((hRg.Zh hU51).weak (by intro g hg; have h3 : (((R g ∧ g < w.heap.size ∨ w3.heap.size ≤ g) ∧ (g ≠ go ∨ i = 0)) ∧ g < w5.heap.size) := hg; show R g ∨ w.heap.size ≤ g; rcases h3 with ⟨⟨⟨h4, _⟩ | h4, _⟩, _⟩; exact .inl h4; exact .inr (by omega))), ((hO.Zh hU51).weak), ((hP.Zh hU51).to (by omega) (by omega)), hbR, (by omega), (by omega), (by omega), (by omega), (HU.t1 hU51)⟩)))
theorem wjoined {a : Option Addr} {n c hi go : Nat} {vs : List AV} (w : World) (hs : Sl w (fun g => g < w.heap.size) 1 (.slice a n c) n (rows encA vs)) (hP : Pcs w 1000000 hi go vs) (hi : hi ≤ w.heap.size) (hn : n ≤ 70000) :
  Calls Tryz.prog 90 #[.slice a n c] w (Ret fun v w' => ∃ (a' : Option Addr) (m' : Nat) (c' : Nat) (z : List Int), v = .slice a' m' c' ∧ Own w' (fun g => w.heap.size ≤ g) 5 1 (.slice a' m' c') m' (ints .u8 z) ∧ Byt z ∧ m' ≤ 100000000000 ∧ Upd No w w') := by
 have HU := Upd.Yo w
 have hl_hs := Ya Yt (by decide) hs
 have hc_hs := hs.cap.1
 refine Zq func90 rfl ntmps90 (by simp) (Sn (Qs 1 rfl (Za (Sn (Qs 1 rfl (Za (Sm (Qs 1 rfl (Za (Zs (ZS (fun mu ρ ds w' => ∃ (i : Nat) (q9 : Nat) (xs : List Int) (a9 : Option Addr) (c9 : Nat), n - i = mu ∧ ds = [] ∧ Liv ρ [(0, .slice a n c), (3, .slice a9 q9 c9), (4, .int .i64 i)] ∧ i ≤ n ∧ q9 ≤ i * 1000000 ∧ Byt xs ∧ Own w' (fun g => w.heap.size ≤ g) 5 1 (.slice a9 q9 c9) q9 (ints .u8 xs) ∧ Upd (fun g => w.heap.size ≤ g) w w') _ ⟨0, 0, [], none, 0, rfl, rfl, ⟨rfl, (by first | rfl | exact Zt (by omega) | exact Zt (by simp)), (by first | rfl | exact Zt (by omega) | exact Zt (by simp)), trivial⟩, (by omega), (by omega), ZO, (by exact Own.nil _ _ _ _), Upd.refl _ _⟩ ?_)))))))))))
 rintro m1 ρ1 ds1 w1 ⟨i, q9, xs, a9, c9, rfl, rfl, hl1, hi, hq9, hby, hO, hU1⟩
 obtain ⟨ρ1x, rfl⟩ : ∃ ρx, ρ1 = upds ρx [(0, .slice a n c), (3, .slice a9 q9 c9), (4, .int .i64 i)] := ⟨_, ZD hl1⟩
 clear hl1
 have:=hU1.size
 replace hO := hO.tight
 have hl_hO := ZC hO.sl
 have hc_hO := hO.sl.cap.1
 have HL1 := hU1
 refine Sm (Qs 2 rfl (Zf (ZM underlying171 rfl) (Qs 1 rfl (Za (W_if rfl (fun q1 => ?_) fun q1 => ?_)))))
 ·refine Zi (Zz (Zs (Zl (Qs 3 rfl (Yg (none, 0, 0) Yt (by decide) underlying171 sizeOf22 rfl rfl (hs.upd hU1) (by omega) (by omega) ?_)))))
  intro ib2 io2 hc2
  try rw [Int.toNat_natCast] at hc2
  obtain ⟨pb3, hpS3, hpB3, hpL3⟩ := (hP.upd hU1).get (i := i) (by omega)
  have hl_hpS3 := ZC hpS3
  have hc_hpS3 := hpS3.cap.1
  refine ZH (v := .slice ((vs.getD i (none, 0, 0)).1) ((vs.getD i (none, 0, 0)).2.1) ((vs.getD i (none, 0, 0)).2.2)) isAgg22 rfl (hc2 0 (by decide)) (Z1 (xs := xs) (ys := pb3) (zs := xs ++ pb3) (k' := .u8) (tot := q9 + ((vs.getD i (none, 0, 0)).2.1)) (by first | rfl | exact (ZR _ _).symm | simp) underlying22 (ti := Tryz.t5) (z := .int .u8 0) (sz := 1) (by' := 1) rfl rfl rfl rfl rfl (by decide) rfl hO rfl hpS3  (by omega) (by simp only [maxLen]; omega) (by omega) ?_)
  intro a4 c4 w4 hU4 hzz4 hO4
  replace HU := HU.trans hU1
  clear hO
  have:=hU4.size
  replace hO4 := hO4.tight
  have hl_hO4 := ZC hO4.sl
  have hc_hO4 := hO4.sl.cap.1
  refine Qs 1 rfl (Za (Zl (Qs 1 rfl (Xd rfl rfl (Qs 1 rfl (Za ?_))))))
  refine ⟨_, ?_, (i + 1), (q9 + ((vs.getD i (none, 0, 0)).2.1)), (xs ++ pb3), a4, c4, rfl, rfl, ⟨rfl, rfl, Zt, trivial⟩, (by omega), (by omega), (Yq hby hpB3), hO4.weak, (HL1.trans hU4)⟩
  omega
 exact ZI (Sn (Qs 2 rfl (Za (Zn (Zg rfl (Z9 results90 rfl) ⟨_, rfl, a9, q9, c9, xs, rfl, hO.weak, hby, (by omega), (HU.trans hU1)⟩)))))
end Go.Proofs.YtbjjhfoeckkacaaGreatDoor
