/-
  Several texts of this project, put together.
-/
import Derived.Test.YtbjjhfoeckkacaaGreatDoorFZ
import Derived.Test.YtbjjhfoeckkacaaGreatDoorDA
set_option linter.unusedVariables false
set_option linter.unusedSimpArgs false
set_option maxRecDepth 100000
set_option maxHeartbeats 16000000
namespace Go.Proofs.YtbjjhfoeckkacaaGreatDoor
open Go.Fw _root_.Go.Proofs.Tryz
theorem wbits {x k : Nat} (w : World) (hbd : x < 18446744073709551616 ∧ k ≤ 64) :
  Calls Tryz.prog 161 #[.int .u64 x, .int .i64 k] w (Ret fun v w' => ∃ (a' : Option Addr) (c' : Nat) (xs : List Bool), v = .slice a' k c' ∧ Own w' (fun g => w.heap.size ≤ g) 4 1 (.slice a' k c') k (rows encB xs) ∧ (x ≠ 0 → x < 2 ^ k → true ∈ xs) ∧ Upd No w w') := by
 have HU := Upd.Yo w
 refine Zq func161 rfl ntmps161 (by simp) (Sn (Qs 1 rfl (Za (Sn (Qs 1 rfl (Za (Sm (Qs 1 rfl (Za (Zs (ZS (fun mu ρ ds w' => ∃ (i : Nat) (y : Nat) (a9 : Option Addr) (c9 : Nat) (xs : List Bool), k - i = mu ∧ ds = [] ∧ Liv ρ [(0, .int .u64 y), (1, .int .i64 k), (5, .slice a9 i c9), (6, .int .i64 i)] ∧ i ≤ k ∧ y < 18446744073709551616 ∧ (x < 2 ^ k → y < 2 ^ (k - i)) ∧ (x ≠ 0 → true ∈ xs ∨ y ≠ 0) ∧ Own w' (fun g => w.heap.size ≤ g) 4 1 (.slice a9 i c9) i (rows encB xs) ∧ Upd (fun g => w.heap.size ≤ g) w w') _ ⟨0, x, none, 0, [], rfl, rfl, ⟨(by first | rfl | exact Zt (by omega) | exact Zt (by simp)), rfl, (by first | rfl | exact Zt (by omega) | exact Zt (by simp)), (by first | rfl | exact Zt (by omega) | exact Zt (by simp)), trivial⟩, (by omega), (by omega), (fun h => h), (fun h => .inr h), (by exact Own.nil _ _ _ _), Upd.refl _ _⟩ ?_)))))))))))
 rintro m1 ρ1 ds1 w1 ⟨i, y, a9, c9, xs, rfl, rfl, hl1, hi, hy6, hy, hx, hO, hU1⟩
 obtain ⟨ρ1x, rfl⟩ : ∃ ρx, ρ1 = upds ρx [(0, .int .u64 y), (1, .int .i64 k), (5, .slice a9 i c9), (6, .int .i64 i)] := ⟨_, ZD hl1⟩
 clear hl1
 have:=hU1.size
 have HL1 := hU1
 refine Sm (Qs 3 rfl (Za ?_))
 replace hO := hO.tight
 refine W_if rfl (fun q1 => ?_) fun q1 => ?_
 ·refine Zi (Zz (Zs (Sn (Qs 2 rfl (Zf (YW rfl rfl (by omega) (tr (by omega))) (Qs 1 rfl ?_))))))
  by_cases q2 : ((y : Int) % 2) = 1
  ·rw [decide_eq_true q2]
   refine Xz [.bool true] underlying238 sizeOf4 zeroValue4 ?_
   intro B2 w2 hB2 hU2 hzz2 hs2
   replace hs2 : Own w2 (Is B2) 4 1 (.slice (some ⟨B2, 0, none⟩) 1 1) 1 (rows encB [true]) := hs2
   replace hO := hO.Zc hU2
   refine Ye (cs3 := rows encB (xs ++ [true])) (tot := i + 1) (by first | rfl | exact (ZR _ _).symm | simp) underlying238 (ti := Tryz.t4) (z := .bool false) (sz := 1) (by' := 1) rfl rfl rfl rfl rfl (by decide) rfl hO rfl hs2.sl (Yn encB_one _) (by omega) (by simp only [maxLen]; omega) (by omega) ?_
   intro a3 c3 w3 hU3 hzz3 hO3
   replace HU := HU.trans hU1
   replace HL1 := HL1.Zb hU2
   clear hO
   have:=hU3.size
   replace hO3 := hO3.tight
   have hl_hO3 := Ya Z4 (by decide) hO3.sl
   have hc_hO3 := hO3.sl.cap.1
   refine Qs 1 rfl (Za (Zl (Qs 1 rfl (Zf (YT rfl rfl (by omega) (tq (by omega) (wu64 (by omega) (by omega)))) (Qs 1 rfl (Za (Zl (Qs 1 rfl (Xd rfl rfl (Qs 1 rfl (Za ?_)))))))))))
   refine ⟨_, ?_, (i + 1), (y / 2), a3, c3, (xs ++ [true]), rfl, rfl, ⟨Zt, rfl, (by first | rfl | exact Zt (by omega) | exact Zt (by simp)), Zt, trivial⟩, (by omega), (by omega), (fun h => half_lt (hy h) (by omega)), (fun h => .inl (tr_app (.inr (by simp)))), hO3.weak, (HL1.trans hU3)⟩
   omega
  rw [decide_eq_false q2]
  refine Xz [.bool false] underlying238 sizeOf4 zeroValue4 ?_
  intro B4 w4 hB4 hU4 hzz4 hs4
  replace hs4 : Own w4 (Is B4) 4 1 (.slice (some ⟨B4, 0, none⟩) 1 1) 1 (rows encB [false]) := hs4
  replace hO := hO.Zc hU4
  refine Ye (cs3 := rows encB (xs ++ [false])) (tot := i + 1) (by first | rfl | exact (ZR _ _).symm | simp) underlying238 (ti := Tryz.t4) (z := .bool false) (sz := 1) (by' := 1) rfl rfl rfl rfl rfl (by decide) rfl hO rfl hs4.sl (Yn encB_one _) (by omega) (by simp only [maxLen]; omega) (by omega) ?_
  intro a5 c5 w5 hU5 hzz5 hO5
  replace HU := HU.trans hU1
  replace HL1 := HL1.Zb hU4
  clear hO
  have:=hU5.size
  replace hO5 := hO5.tight
  have hl_hO5 := Ya Z4 (by decide) hO5.sl
  have hc_hO5 := hO5.sl.cap.1
  refine Qs 1 rfl (Za (Zl (Qs 1 rfl (Zf (YT rfl rfl (by omega) (tq (by omega) (wu64 (by omega) (by omega)))) (Qs 1 rfl (Za (Zl (Qs 1 rfl (Xd rfl rfl (Qs 1 rfl (Za ?_)))))))))))
  refine ⟨_, ?_, (i + 1), (y / 2), a5, c5, (xs ++ [false]), rfl, rfl, ⟨Zt, rfl, (by first | rfl | exact Zt (by omega) | exact Zt (by simp)), Zt, trivial⟩, (by omega), (by omega), (fun h => half_lt (hy h) (by omega)), (fun h => (hx h).imp (fun h9 => tr_app (.inl h9)) (fun h9 => by omega)), hO5.weak, (HL1.trans hU5)⟩
  omega
 refine ZI (Sn (Qs 2 rfl (Za (Zn (Zg rfl (Z9 results161 rfl) ?_)))))
 replace HU := HU.trans hU1
 obtain rfl : i = k := by omega
 exact ⟨_, rfl, a9, c9, xs, rfl, hO.weak, (fun h1 h2 => (hx h1).resolve_right (by have := hy h2; rw [Nat.sub_self] at this; omega)), HU⟩
theorem wvalue {R : Nat → Prop} {a : Option Addr} {n c : Nat} {xs : List Bool} (w : World) (hs : Sl w R 1 (.slice a n c) n (rows encB xs)) (hn : n ≤ 64) :
  Calls Tryz.prog 154 #[.slice a n c] w (Ret fun v w' => ∃ (z : Nat), v = .int .u64 z ∧ z < 2 ^ n ∧ Upd No w w') := by
 have HU := Upd.Yo w
 have hl_hs := Ya Z4 (by decide) hs
 have hc_hs := hs.cap.1
 refine Zq func154 rfl ntmps154 (by simp) (Sn (Qs 1 rfl (Za (Sn (Qs 1 rfl (Za (Sm (Qs 1 rfl (Zf (ZM underlying238 rfl) (Xs rfl rfl (Qs 1 rfl (Za (Zs (ZS (fun mu ρ ds w' => ∃ (j : Nat) (z : Nat), n - j = mu ∧ ds = [] ∧ Liv ρ [(0, .slice a n c), (3, .int .u64 z), (4, .int .i64 ((n : Int) - 1 - (j : Int)))] ∧ j ≤ n ∧ z < 2 ^ j ∧ Upd No w w') _ ⟨0, 0, rfl, rfl, ⟨rfl, (by first | rfl | exact Zt (by omega) | exact Zt (by simp)), Zt, trivial⟩, (by omega), (by decide), Upd.refl _ _⟩ ?_))))))))))))))
 rintro m1 ρ1 ds1 w1 ⟨j, z, rfl, rfl, hl1, hj, hv, hU1⟩
 obtain ⟨ρ1x, rfl⟩ : ∃ ρx, ρ1 = upds ρx [(0, .slice a n c), (3, .int .u64 z), (4, .int .i64 ((n : Int) - 1 - (j : Int)))] := ⟨_, ZD hl1⟩
 replace hs := hs.tight
 clear hl1
 have:=hU1.size
 have HL1 := hU1
 refine Sm (Qs 2 rfl (Za ?_))
 by_cases q1 : 0 ≤ ((n : Int) - 1 - (j : Int))
 ·have hv4 := v64 hv (by omega)
  rw [decide_eq_true q1]
  refine Ct (Zi (Zz (Zs (Sn (Qs 1 rfl (Zf (YM rfl rfl (wu64 (by omega) (by omega))) (Qs 1 rfl (Za (Sn (Qs 2 rfl (Yg false Z4 (by decide) underlying238 sizeOf4 rfl rfl (hs.Zc hU1) (by omega) (by omega) ?_)))))))))))
  intro ib2 io2 hc2
  refine ZH (v := .bool (decide ((xs.getD ((n : Int) - 1 - (j : Int)).toNat false) = true))) isAgg4 rfl (hc2 0 (by decide)) (Za (W_if rfl (fun q2 => ?_) fun q2 => ?_))
  ·refine Zl (Qs 1 rfl (Zf (Yf rfl rfl (wu64 (by omega) (by omega))) (Qs 1 rfl (Za (Zl (Qs 1 rfl (Xs rfl rfl (Qs 1 rfl (Za ?_)))))))))
   refine ⟨_, ?_, (j + 1), (2 * z + 1), rfl, rfl, ⟨rfl, Zt, Zt, trivial⟩, (by omega), (by omega), HL1⟩
   omega
  refine Zi (Zl (Qs 1 rfl (Xs rfl rfl (Qs 1 rfl (Za ?_)))))
  refine ⟨_, ?_, (j + 1), (2 * z), rfl, rfl, ⟨rfl, Zt, Zt, trivial⟩, (by omega), (by omega), HL1⟩
  omega
 rw [decide_eq_false q1]
 refine Cf (ZI (Sn (Qs 2 rfl (Za (Zn (Zg rfl (Z9 results154 rfl) ?_))))))
 replace hs := hs.Zc hU1
 replace HU := HU.Zb hU1
 obtain rfl : j = n := by omega
 exact ⟨_, rfl, z, rfl, hv, HU⟩
theorem wrow {a : Option Addr} {m c : Nat} {b : List Int} (w : World) (hs : Sl w (fun g => g < w.heap.size) 1 (.slice a m c) m (ints .u8 b)) (hb : Byt b) (hm : m ≤ 1000000) :
  Calls Tryz.prog 152 #[.slice a m c] w (Ret fun v w' => ∃ (a' : Option Addr) (c' : Nat) (xs : List Bool), v = .slice a' (8 * m) c' ∧ Own w' (fun g => w.heap.size ≤ g) 4 1 (.slice a' (8 * m) c') (8 * m) (rows encB xs) ∧ (∀ i, i < m → b.getD i 0 ≠ 0 → true ∈ xs) ∧ Upd No w w') := by
 have HU := Upd.Yo w
 have hl_hs := ZC hs
 have hc_hs := hs.cap.1
 refine Zq func152 rfl ntmps152 (by simp) (Sn (Qs 1 rfl (Za (Sn (Qs 1 rfl (Za (Sm (Qs 1 rfl (Za (Zs (ZS (fun mu ρ ds w' => ∃ (k : Nat) (a9 : Option Addr) (c9 : Nat) (xs : List Bool), m - k = mu ∧ ds = [] ∧ Liv ρ [(0, .slice a m c), (3, .slice a9 (8 * k) c9), (4, .int .i64 k)] ∧ k ≤ m ∧ (∀ i, i < k → b.getD i 0 ≠ 0 → true ∈ xs) ∧ Own w' (fun g => w.heap.size ≤ g) 4 1 (.slice a9 (8 * k) c9) (8 * k) (rows encB xs) ∧ Upd (fun g => w.heap.size ≤ g) w w') _ ⟨0, none, 0, [], rfl, rfl, ⟨rfl, (by first | rfl | exact Zt (by omega) | exact Zt (by simp)), (by first | rfl | exact Zt (by omega) | exact Zt (by simp)), trivial⟩, (by omega), (fun i hi => absurd hi (by omega)), (by exact Own.nil _ _ _ _), Upd.refl _ _⟩ ?_)))))))))))
 rintro m1 ρ1 ds1 w1 ⟨k, a9, c9, xs, rfl, rfl, hl1, hk, hx, hO, hU1⟩
 obtain ⟨ρ1x, rfl⟩ : ∃ ρx, ρ1 = upds ρx [(0, .slice a m c), (3, .slice a9 (8 * k) c9), (4, .int .i64 k)] := ⟨_, ZD hl1⟩
 clear hl1
 have:=hU1.size
 have hbk := Yi hb k
 have HL1 := hU1
 refine Sm (Qs 2 rfl (Zf (ZM underlying22 rfl) (Qs 1 rfl (Za ?_))))
 replace hO := hO.tight
 refine W_if rfl (fun q1 => ?_) fun q1 => ?_
 ·refine Zi (Zz (Zs (Zl (Qs 3 rfl (Z7 underlying22 sizeOf5 rfl rfl (hs.upd hU1) (by omega) (by omega) ?_)))))
  intro ib2 io2 hc2
  rw [Int.toNat_natCast] at hc2
  refine ZH isAgg5 rfl hc2 (Zf (ZZ underlying5 underlying101 rfl (wu64 (by omega) (by omega))) (Zj (Zy rfl call161 (v0 := .int .u64 (((b.getD k 0).toNat : Nat) : Int)) (v1 := .int .i64 ((8 : Nat) : Int)) Zt rfl) (wbits _ (by omega)) ?_))
  rintro v w3 ⟨a3, c3, xs3, rfl, hO3, hx_3, hU3⟩
  have:=hU3.size
  replace hO3 := hO3.tight
  have hl_hO3 := Ya Z4 (by decide) hO3.sl
  have hc_hO3 := hO3.sl.cap.1
  replace hO := hO.Zc hU3
  refine Ye (cs3 := rows encB (xs ++ xs3)) (tot := (8 * k) + 8) (by first | rfl | exact (ZR _ _).symm | simp) underlying238 (ti := Tryz.t4) (z := .bool false) (sz := 1) (by' := 1) rfl rfl rfl rfl rfl (by decide) rfl hO rfl hO3.sl (Yn encB_one _) (by omega) (by simp only [maxLen]; omega) (by omega) ?_
  intro a4 c4 w4 hU4 hzz4 hO4
  replace HU := HU.trans hU1
  replace HL1 := HL1.Zb hU3
  clear hO
  have:=hU4.size
  replace hO4 := hO4.tight
  have hl_hO4 := Ya Z4 (by decide) hO4.sl
  have hc_hO4 := hO4.sl.cap.1
  refine Qs 1 rfl (Za (Zl (Qs 1 rfl (Xd rfl rfl (Qs 1 rfl (Za ?_))))))
  refine ⟨_, ?_, (k + 1), a4, c4, (xs ++ xs3), rfl, rfl, ⟨rfl, rfl, Zt, trivial⟩, (by omega), (fun i hi h => by rcases Nat.lt_or_ge i k with h9 | h9; exact tr_app (.inl (hx i h9 h)); obtain rfl : i = k := (by omega); exact tr_app (.inr (hx_3 (by omega) (by omega)))), (by rw [show 8 * (k + 1) = 8 * k + 8 from by omega]; exact hO4.weak), (HL1.trans hU4)⟩
  omega
 refine ZI (Sn (Qs 2 rfl (Za (Zn (Zg rfl (Z9 results152 rfl) ?_)))))
 replace hs := hs.upd hU1
 replace HU := HU.trans hU1
 obtain rfl : k = m := by omega
 exact ⟨_, rfl, a9, c9, xs, rfl, hO.weak, hx, HU⟩
theorem YA {rr lo hi n rd k : Nat} (w : World) (hR : Rd w rr lo hi n rd) (hk : k ≤ 64) (hd : rd + n ≤ 100000000) (hn : k ≤ n) :
  Calls Tryz.prog 135 #[.pointer (some ⟨rr, 0, none⟩), .int .i64 k] w (Ret fun v w' => ∃ (z : Nat), v = .tuple #[.int .u64 z, .int .i64 0] ∧ Rd w' rr lo hi (n - k) (rd + k) ∧ z < 2 ^ k ∧ Upd (Is rr) w w') := by
 have HU : Upd (fun b => b = rr) w w := Upd.refl _ _
 refine Zq func135 rfl ntmps135 (by simp) ?_
 obtain ⟨hrl1, hrh1, ra1, rc1, rx1, hrB1, hrS1⟩ := hR
 have hrz1 := hrB1.lt
 have hl_hrS1 := Ya Z4 (by decide) hrS1
 have hc_hrS1 := hrS1.cap.1
 refine Sn (Qs 2 rfl (Za (Sm (Qs 3 rfl ?_))))
 have q1 : ¬ ((k : Int) < 0) := (by omega)
 rw [decide_eq_false q1]
 refine Gt (Qs 1 rfl (Gt (Qs 1 rfl (Zf (Zw (v := .bool (decide (64 < (k : Int)))) rfl rfl) (Za ?_)))))
 have q2 : ¬ (64 < (k : Int)) := (by omega)
 rw [decide_eq_false q2]
 refine Cf (Zi (Sm (Qs 2 rfl (Zf (Yj rfl) (Zf (Zo underlying240 rfl sizeOf238 rfl rfl) (Zk isAgg238 rfl hrB1 rfl (Zf (ZM underlying238 rfl) (Qs 1 rfl (Za ?_)))))))))
 have q3 : ¬ ((n : Int) < (k : Int)) := (by omega)
 rw [decide_eq_false q3]
 refine Cf (Zi (Zz (ZJ rfl (l0 := tf 0 14) (by kernel_rfl) (Tq rfl (Tq rfl (Tv rfl (fun _ _ => Zo underlying240 rfl sizeOf238 rfl rfl) (Tl rfl isAgg238 rfl hrB1 rfl (Tq rfl (Tq rfl (Tv rfl (fun _ _ => Zo underlying240 rfl sizeOf238 rfl rfl) (Tl rfl isAgg238 rfl hrB1 rfl (Tv rfl (fun _ _ => ZM underlying238 rfl) (Tq rfl (Tv rfl (fun _ _ => Y7 rfl rfl ZY) (Tv rfl (fun _ _ => Ym (l' := n - k) (n' := k) underlying238 sizeOf4 rfl rfl (by omega) (by omega) (by omega)) ?_)))))))))))))))
 have hT2 := Sl.rlo (l := n - k) (n := k) Z4 hrS1 (by omega) (by omega)
 have hl_hT2 := Ya Z4 (by decide) hT2
 have hc_hT2 := hT2.cap.1
 intro w3 hU3
 have:=hU3.size
 refine Wo 12 (tf 13 14) rfl ?_
 have hW : Upd No w w3 := hU3
 refine Zj (Zv rfl call154 rfl) (wvalue _ (hT2.Zc hU3) (by omega)) ?_
 rintro v w4 ⟨z4, rfl, hv_4, hU4⟩
 have:=hU4.size
 try replace hW := hW.Zb hU4
 refine Za ?_
 intro w5 hS5
 refine bT (Upd No w5) ?_
 have hU5 := hS5.upd
 have:=hU5.size
 try replace hW := hW.Zb hU5
 refine ZQ (Upd.refl _ _) (Tq rfl ?_)
 intro w6 hU6
 have:=hU6.size
 try replace hW := hW.Zb hU6
 refine Wd (Zz (ZJ rfl (l0 := tf 0 16) (by kernel_rfl) (Tq rfl (Tq rfl (Tq rfl (Tv rfl (fun _ _ => Zo underlying240 rfl sizeOf238 rfl rfl) ?_))))))
 replace hrB1 := (((hrB1.Zc hU3).Zc hU4).Zc hU5).Zc hU6
 refine Tl rfl isAgg238 rfl hrB1 rfl (Tq rfl (Tq rfl (Tv rfl (fun _ _ => Zo underlying240 rfl sizeOf238 rfl rfl) (Tl rfl isAgg238 rfl hrB1 rfl (Tv rfl (fun _ _ => ZM underlying238 rfl) (Tq rfl (Tv rfl (fun _ _ => Y7 rfl rfl ZY) (Tv rfl (fun _ _ => Y5 (h' := n - k) underlying238 sizeOf4 rfl rfl (by omega) (by omega)) ?_))))))))
 have hT7 := Sl.rhd (k := n - k) Z4 ((((hrS1.Zc hU3).Zc hU4).Zc hU5).Zc hU6) (by omega)
 refine Tq rfl (Tv rfl (fun _ _ => Zo underlying240 rfl sizeOf238 rfl rfl) ?_)
 intro w8 hU8
 have:=hU8.size
 try replace hW := hW.Zb hU8
 refine Wo 15 (tf 16 16) rfl ?_
 have hW : Upd No w6 w8 := hU8
 replace hrB1 := hrB1.Zc hU8
 refine Xc [.slice ra1 (n - k) rc1, .int .i64 rd] sizeOf238 rfl hrB1 rfl rfl rfl rfl rfl ?_
 intro w9 hU9 hzz9 hrB1
 refine Za ?_
 intro w10 hS10
 refine bT (Upd No w10) ?_
 have hU10 := hS10.upd
 have:=hU10.size
 try replace hW := hW.Zb hU10
 refine Wd (Sn (Qs 1 rfl (Zf (Yj rfl) (Zf (Zo underlying240 rfl sizeOf3 rfl rfl) ?_))))
 replace hrB1 := hrB1.Zc hU10
 refine Zk isAgg3 rfl hrB1 rfl (Qs 1 rfl (Xd rfl rfl (Zf (Yj rfl) (Zf (Zo underlying240 rfl sizeOf3 rfl rfl) (Xc [.slice ra1 (n - k) rc1, .int .i64 ((rd : Int) + (k : Int))] sizeOf3 rfl hrB1 rfl rfl rfl rfl rfl ?_)))))
 intro w11 hU11 hzz11 hrB1
 exact Za (Sn (Qs 3 rfl (Za (Zn (Zg rfl (Z2 results135 rfl rfl) ⟨_, rfl, z4, rfl, (Rd.of hrB1 ((((hT7.Zc hU8).Zh hU9).Zc hU10).Zh hU11) (fun g hg => hg) (by omega) (by omega)), (by omega), ((((((((HU.Zb hU3).Zb hU4).Zb hU5).Zb hU6).Zb hU8).Zr hU9).Zb hU10).Zr hU11)⟩)))))
theorem YB {rr lo hi n rd k : Nat} (w : World) (hR : Rd w rr lo hi n rd) (hk : k ≤ 64) (hn : ¬ k ≤ n) :
  Calls Tryz.prog 135 #[.pointer (some ⟨rr, 0, none⟩), .int .i64 k] w (Ret fun v w' => v = .tuple #[.int .u64 0, .int .i64 14] ∧ Rd w' rr lo hi n rd ∧ Upd No w w') := by
 have HU := Upd.Yo w
 refine Zq func135 rfl ntmps135 (by simp) ?_
 obtain ⟨hrl1, hrh1, ra1, rc1, rx1, hrB1, hrS1⟩ := hR
 have hrz1 := hrB1.lt
 have hl_hrS1 := Ya Z4 (by decide) hrS1
 have hc_hrS1 := hrS1.cap.1
 refine Sn (Qs 2 rfl (Za (Sm (Qs 3 rfl ?_))))
 have q1 : ¬ ((k : Int) < 0) := (by omega)
 rw [decide_eq_false q1]
 refine Gt (Qs 1 rfl (Gt (Qs 1 rfl (Zf (Zw (v := .bool (decide (64 < (k : Int)))) rfl rfl) (Za ?_)))))
 have q2 : ¬ (64 < (k : Int)) := (by omega)
 rw [decide_eq_false q2]
 refine Cf (Zi (Sm (Qs 2 rfl (Zf (Yj rfl) (Zf (Zo underlying240 rfl sizeOf238 rfl rfl) (Zk isAgg238 rfl hrB1 rfl (Zf (ZM underlying238 rfl) (Qs 1 rfl (Za ?_)))))))))
 have q3 : (n : Int) < (k : Int) := (by omega)
 rw [decide_eq_true q3]
 exact Ct (Sn (Qs 2 rfl (Za (Zn (Zg rfl (Z2 results135 rfl rfl) ⟨_, rfl, rfl, (Rd.of hrB1 hrS1 (fun g hg => hg) (by omega) (by omega)), HU⟩)))))
theorem wfirst_ok {rr lo hi n rd k : Nat} (w : World) (hR : Rd w rr lo hi n rd) (hk : k ≤ 64) (hd : rd + n ≤ 100000000) (hn : k ≤ n) :
  Calls Tryz.prog 149 #[.pointer (some ⟨rr, 0, none⟩), .int .i64 k] w (Ret fun v w' => ∃ (z : Nat), v = .tuple #[.int .u64 z, .int .i64 0] ∧ Rd w' rr lo hi (n - k) (rd + k) ∧ z < 2 ^ k ∧ Upd (Is rr) w w') := by
 have HU : Upd (fun b => b = rr) w w := Upd.refl _ _
 refine Zq func149 rfl ntmps149 (by simp) ?_
 obtain ⟨hrl1, hrh1, ra1, rc1, rx1, hrB1, hrS1⟩ := hR
 have hrz1 := hrB1.lt
 have hl_hrS1 := Ya Z4 (by decide) hrS1
 have hc_hrS1 := hrS1.cap.1
 refine Sn (Qs 2 rfl (Za (Sm (Qs 3 rfl ?_))))
 have q1 : ¬ ((k : Int) < 0) := (by omega)
 rw [decide_eq_false q1]
 refine Gt (Qs 1 rfl (Gt (Qs 1 rfl (Zf (Zw (v := .bool (decide (64 < (k : Int)))) rfl rfl) (Za ?_)))))
 have q2 : ¬ (64 < (k : Int)) := (by omega)
 rw [decide_eq_false q2]
 refine Cf (Zi (Sm (Qs 2 rfl (Zf (Yj rfl) (Zf (Zo underlying240 rfl sizeOf238 rfl rfl) (Zk isAgg238 rfl hrB1 rfl (Zf (ZM underlying238 rfl) (Qs 1 rfl (Za ?_)))))))))
 have q3 : ¬ ((n : Int) < (k : Int)) := (by omega)
 rw [decide_eq_false q3]
 refine Cf (Zi (Sn (Qs 1 rfl (Zf (Yj rfl) (Zf (Zo underlying240 rfl sizeOf238 rfl rfl) (Zk isAgg238 rfl hrB1 rfl (Qs 1 rfl (Zf (Y5 (h' := k) underlying238 sizeOf4 rfl rfl (by omega) (by omega)) ?_))))))))
 have hT2 := Sl.rhd (k := k) Z4 hrS1 (by omega)
 refine Zj (Zv rfl call154 rfl) (wvalue _ hT2 (by omega)) ?_
 rintro v w3 ⟨z3, rfl, hv_3, hU3⟩
 have:=hU3.size
 refine Qs 1 rfl (Za (Sn (Qs 2 rfl (Zf (Yj rfl) (Zf (Zo underlying240 rfl sizeOf238 rfl rfl) ?_)))))
 replace hrB1 := hrB1.Zc hU3
 refine Zk isAgg238 rfl hrB1 rfl (Qs 1 rfl (Zf (Ym (l' := k) (n' := n - k) underlying238 sizeOf4 rfl rfl (by omega) (by omega) (by omega)) ?_))
 have hT4 := Sl.rlo (l := k) (n := n - k) Z4 (hrS1.Zc hU3) (by omega) (by omega)
 have hl_hT4 := Ya Z4 (by decide) hT4
 have hc_hT4 := hT4.cap.1
 refine Zf (Yj rfl) (Zf (Zo underlying240 rfl sizeOf238 rfl rfl) (Xc [.slice (if rc1 = k then ra1 else ra1.map (·.add (k * 1))) (n - k) (rc1 - k), .int .i64 rd] sizeOf238 rfl hrB1 rfl rfl rfl rfl rfl ?_))
 intro w5 hU5 hzz5 hrB1
 refine Za (Sn (Qs 1 rfl (Zf (Yj rfl) (Zf (Zo underlying240 rfl sizeOf3 rfl rfl) (Zk isAgg3 rfl hrB1 rfl (Qs 1 rfl (Xd rfl rfl (Zf (Yj rfl) (Zf (Zo underlying240 rfl sizeOf3 rfl rfl) (Xc [.slice (if rc1 = k then ra1 else ra1.map (·.add (k * 1))) (n - k) (rc1 - k), .int .i64 ((rd : Int) + (k : Int))] sizeOf3 rfl hrB1 rfl rfl rfl rfl rfl ?_))))))))))
 intro w6 hU6 hzz6 hrB1
 exact Za (Sn (Qs 3 rfl (Za (Zn (Zg rfl (Z2 results149 rfl rfl) ⟨_, rfl, z3, rfl, (Rd.of hrB1 ((hT4.Zh hU5).Zh hU6) (fun g hg => hg) (by omega) (by omega)), (by omega), (((HU.Zb hU3).Zr hU5).Zr hU6)⟩)))))
theorem wfirst_no {rr lo hi n rd k : Nat} (w : World) (hR : Rd w rr lo hi n rd) (hk : k ≤ 64) (hn : ¬ k ≤ n) :
  Calls Tryz.prog 149 #[.pointer (some ⟨rr, 0, none⟩), .int .i64 k] w (Ret fun v w' => v = .tuple #[.int .u64 0, .int .i64 3] ∧ Rd w' rr lo hi n rd ∧ Upd No w w') := by
 have HU := Upd.Yo w
 refine Zq func149 rfl ntmps149 (by simp) ?_
 obtain ⟨hrl1, hrh1, ra1, rc1, rx1, hrB1, hrS1⟩ := hR
 have hrz1 := hrB1.lt
 have hl_hrS1 := Ya Z4 (by decide) hrS1
 have hc_hrS1 := hrS1.cap.1
 refine Sn (Qs 2 rfl (Za (Sm (Qs 3 rfl ?_))))
 have q1 : ¬ ((k : Int) < 0) := (by omega)
 rw [decide_eq_false q1]
 refine Gt (Qs 1 rfl (Gt (Qs 1 rfl (Zf (Zw (v := .bool (decide (64 < (k : Int)))) rfl rfl) (Za ?_)))))
 have q2 : ¬ (64 < (k : Int)) := (by omega)
 rw [decide_eq_false q2]
 refine Cf (Zi (Sm (Qs 2 rfl (Zf (Yj rfl) (Zf (Zo underlying240 rfl sizeOf238 rfl rfl) (Zk isAgg238 rfl hrB1 rfl (Zf (ZM underlying238 rfl) (Qs 1 rfl (Za ?_)))))))))
 have q3 : (n : Int) < (k : Int) := (by omega)
 rw [decide_eq_true q3]
 exact Ct (Sn (Qs 2 rfl (Za (Zn (Zg rfl (Z2 results149 rfl rfl) ⟨_, rfl, rfl, (Rd.of hrB1 hrS1 (fun g hg => hg) (by omega) (by omega)), HU⟩)))))
theorem wforward {a : Option Addr} {m c : Nat} {b : List Int} (w : World) (hs : Sl w (fun g => g < w.heap.size) 1 (.slice a m c) m (ints .u8 b)) (hb : Byt b) (hm : m ≤ 1000000) :
  Calls Tryz.prog 148 #[.slice a m c] w (Ret fun v w' => ∃ (rr : Nat) (hi : Nat), v = .pointer (some ⟨rr, 0, none⟩) ∧ Rd w' rr w.heap.size hi (8 * m) 0 ∧ Upd No w w') := by
 have HU := Upd.Yo w
 have hl_hs := ZC hs
 have hc_hs := hs.cap.1
 refine Zq func148 rfl ntmps148 (by simp) (Sn (Qs 1 rfl (Za (Sn (Qs 1 rfl (Zj (Zv rfl call152 rfl) (wrow _ hs.any hb (by omega)) ?_))))))
 rintro v w1 ⟨a1, c1, xs1, rfl, hO1, hx_1, hU1⟩
 have:=hU1.size
 replace hO1 := hO1.tight
 have hl_hO1 := Ya Z4 (by decide) hO1.sl
 have hc_hO1 := hO1.sl.cap.1
 refine Zf (ZF (pl := #[(0, 1), (1, 1)]) (pv := [(0, .slice a1 (8 * m) c1)]) (cs := #[.slice a1 (8 * m) c1, .int .i64 0]) zeroValue240 underlying240 (fun w => by kernel_rfl)) (Xb rfl ?_)
 intro B2 w2 hB2 hU2 hzz2 hb2
 exact Qs 1 rfl (Za (Zn (Zg rfl (Z9 results148 rfl) ⟨_, rfl, B2, B2, rfl, Rd.of hb2 (hO1.Zc hU2).sl (by intro g hg; have h3 : ((w.heap.size ≤ g) ∧ g < w1.heap.size) := hg; omega) (by omega) (by omega), ((HU.Zb hU1).Zb hU2)⟩)))
theorem wbwd_ok {a : Option Addr} {m c : Nat} {b : List Int} (w : World) (hs : Sl w (fun g => g < w.heap.size) 1 (.slice a m c) m (ints .u8 b)) (hb : Byt b) (hm : m ≤ 1000000) (hc : 0 < m ∧ b.getD (m - 1) 0 ≠ 0) :
  Calls Tryz.prog 133 #[.slice a m c] w (Ret fun v w' => ∃ (rr : Nat) (hi : Nat) (qn : Nat), v = .tuple #[.pointer (some ⟨rr, 0, none⟩), .int .i64 0] ∧ Rd w' rr w.heap.size hi qn 0 ∧ qn ≤ 8 * m ∧ Upd No w w') := by
 have HU := Upd.Yo w
 have hl_hs := ZC hs
 have hc_hs := hs.cap.1
 have hc1 := hc.1
 refine Zq func133 rfl ntmps133 (by simp) (Sn (Qs 2 rfl (Za (Sn (Qs 1 rfl (Zj (Zv rfl call152 rfl) (wrow _ hs.any hb (by omega)) ?_))))))
 rintro v w1 ⟨a1, c1, xs1, rfl, hO1, hx_1, hU1⟩
 have:=hU1.size
 replace hO1 := hO1.tight
 have hl_hO1 := Ya Z4 (by decide) hO1.sl
 have hc_hO1 := hO1.sl.cap.1
 have hx := hx_1
 refine Qs 1 rfl (Za (Sm (Qs 1 rfl (Zf (ZM underlying22 rfl) (Qs 2 rfl ?_)))))
 have q1 : ¬ ((m : Int) = 0) := (by omega)
 rw [decide_eq_false q1]
 refine Gt (Qs 1 rfl (Gt (Qs 1 rfl (Gt (Zf (ZM underlying22 rfl) (Gt (Xs rfl rfl (Gt (Z7 underlying22 sizeOf5 rfl rfl (hs.Zc hU1) (by omega) (by omega) ?_)))))))))
 intro ib2 io2 hc2
 refine Gt (ZH isAgg5 rfl hc2 (Gt (Qs 1 rfl (Zf (Zw (v := .bool (decide ((b.getD ((m : Int) - 1).toNat 0) = 0))) rfl rfl) (Za ?_)))))
 have q2 : ¬ ((b.getD ((m : Int) - 1).toNat 0) = 0) := (by rw [show ((m : Int) - 1).toNat = m - 1 from by omega]; exact hc.2)
 rw [decide_eq_false q2]
 refine Cf (Zi (Zz (Zs (ZS (fun mu ρ ds w' => ∃ (q : Nat) (ys : List Bool), q = mu ∧ ds = [] ∧ Liv ρ [(4, .slice a1 q c1)] ∧ q ≤ 8 * m ∧ true ∈ ys ∧ Sl w' (fun g => ((w.heap.size ≤ g) ∧ g < w1.heap.size)) 1 (.slice a1 q c1) q (rows encB ys) ∧ Upd No w1 w') _ ⟨(8 * m), xs1, rfl, rfl, ⟨(by first | rfl | exact Zt (by omega) | exact Zt (by simp)), trivial⟩, (by omega), (hx (m - 1) (by omega) hc.2), hO1.sl, Upd.refl _ _⟩ ?_))))
 rintro m3 ρ3 ds3 w3 ⟨q, ys, rfl, rfl, hl3, hq8, hty, hR9, hU3⟩
 obtain ⟨ρ3x, rfl⟩ : ∃ ρx, ρ3 = upds ρx [(4, .slice a1 q c1)] := ⟨_, ZD hl3⟩
 replace HU := HU.Zb hU1
 clear hl3
 have:=hU3.size
 have hl_hR9 := Ya Z4 (by decide) hR9
 have htp := tr_pos hty
 have hq1 : ((q : Int) - 1).toNat = q - 1 := by omega
 have hc_hR9 := hR9.cap.1
 have HL3 := hU3
 refine Sm (Qs 2 rfl (Zf (ZM underlying238 rfl) (Xs rfl rfl (Yg false Z4 (by decide) underlying238 sizeOf4 rfl rfl hR9 (by omega) (by omega) ?_))))
 intro ib4 io4 hc4
 refine ZH (v := .bool (decide ((ys.getD ((q : Int) - 1).toNat false) = true))) isAgg4 rfl (hc4 0 (by decide)) (Zf (YX rfl) (Za ?_))
 by_cases q3 : (ys.getD ((q : Int) - 1).toNat false) = true
 ·rw [decide_eq_true q3]
  simp only [Bool.not_true, Bool.not_false]
  refine Cf (ZI (Sn (Qs 2 rfl (Zf (ZM underlying238 rfl) (Xs rfl rfl (Zf (Y5 (h' := ((q : Int) - 1).toNat) underlying238 sizeOf4 rfl rfl (by omega) (by omega)) ?_))))))
  have hT5 := Sl.rhd (k := ((q : Int) - 1).toNat) Z4 hR9 (by omega)
  refine Zf (ZF (pl := #[(0, 1), (1, 1)]) (pv := [(0, .slice a1 (((q : Int) - 1).toNat) c1)]) (cs := #[.slice a1 (((q : Int) - 1).toNat) c1, .int .i64 0]) zeroValue240 underlying240 (fun w => by kernel_rfl)) (Xb rfl ?_)
  intro B6 w6 hB6 hU6 hzz6 hb6
  refine Qs 2 rfl (Za (Zn (Zg (v := .tuple #[.pointer (some ⟨B6, 0, none⟩), .int .i64 0]) rfl (Z2 results133 rfl rfl) ?_)))
  exact ⟨_, rfl, B6, B6, q - 1, rfl, Rd.of (by rw [← hq1]; exact hb6) (Sl.rhd (k := q - 1) Z4 (hR9.Zc hU6) (by omega)) (by intro g hg; have h3 : ((w.heap.size ≤ g) ∧ g < w1.heap.size) := hg; omega) (by omega) (by omega), (by omega), ((HU.Zb hU3).Zb hU6)⟩
 rw [decide_eq_false q3]
 simp only [Bool.not_true, Bool.not_false]
 refine Ct (Zi (Zs (Zl (Qs 2 rfl (Zf (ZM underlying238 rfl) (Xs rfl rfl (Zf (Y5 (h' := ((q : Int) - 1).toNat) underlying238 sizeOf4 rfl rfl (by omega) (by omega)) ?_)))))))
 have hT7 := Sl.rhd (k := ((q : Int) - 1).toNat) Z4 hR9 (by omega)
 refine Qs 1 rfl (Za ?_)
 refine ⟨_, ?_, (q - 1), (ys.take (q - 1)), rfl, rfl, ⟨(by rw [hq1]; rfl), trivial⟩, (by omega), (tr_cut hty (by omega) (by rw [hq1] at q3; exact q3)), (by rw [← hq1]; exact hT7), HL3⟩
 omega
theorem wbwd_no {a : Option Addr} {m c : Nat} {b : List Int} (w : World) (hs : Sl w (fun g => g < w.heap.size) 1 (.slice a m c) m (ints .u8 b)) (hb : Byt b) (hm : m ≤ 1000000) (hc : ¬ (0 < m ∧ b.getD (m - 1) 0 ≠ 0)) :
  Calls Tryz.prog 133 #[.slice a m c] w (Ret fun v w' => v = .tuple #[.pointer none, .int .i64 14] ∧ Upd No w w') := by
 have HU := Upd.Yo w
 have hl_hs := ZC hs
 have hc_hs := hs.cap.1
 refine Zq func133 rfl ntmps133 (by simp) (Sn (Qs 2 rfl (Za (Sn (Qs 1 rfl (Zj (Zv rfl call152 rfl) (wrow _ hs.any hb (by omega)) ?_))))))
 rintro v w1 ⟨a1, c1, xs1, rfl, hO1, hx_1, hU1⟩
 have:=hU1.size
 replace hO1 := hO1.tight
 have hl_hO1 := Ya Z4 (by decide) hO1.sl
 have hc_hO1 := hO1.sl.cap.1
 refine Qs 1 rfl (Za (Sm (Qs 1 rfl (Zf (ZM underlying22 rfl) (Qs 2 rfl ?_)))))
 replace HU := HU.Zb hU1
 by_cases q1 : (m : Int) = 0
 ·rw [decide_eq_true q1]
  exact Gf (Gf (Gf (Gf (Gf (Gf (Gf (Zf (Zx (v := .bool true) rfl rfl) (Za (Ct (Sn (Qs 2 rfl (Za (Zn (Zg rfl (Z2 results133 rfl rfl) ⟨_, rfl, rfl, HU⟩))))))))))))))
 rw [decide_eq_false q1]
 refine Gt (Qs 1 rfl (Gt (Qs 1 rfl (Gt (Zf (ZM underlying22 rfl) (Gt (Xs rfl rfl (Gt (Z7 underlying22 sizeOf5 rfl rfl (hs.Zc hU1) (by omega) (by omega) ?_)))))))))
 intro ib2 io2 hc2
 refine Gt (ZH isAgg5 rfl hc2 (Gt (Qs 1 rfl (Zf (Zw (v := .bool (decide ((b.getD ((m : Int) - 1).toNat 0) = 0))) rfl rfl) (Za ?_)))))
 have q2 : (b.getD ((m : Int) - 1).toNat 0) = 0 := (by rw [show ((m : Int) - 1).toNat = m - 1 from by omega]; exact Classical.byContradiction fun h => hc ⟨by omega, h⟩)
 rw [decide_eq_true q2]
 exact Ct (Sn (Qs 2 rfl (Za (Zn (Zg rfl (Z2 results133 rfl rfl) ⟨_, rfl, rfl, HU⟩)))))
theorem wwhole {rr lo hi n rd : Nat} (w : World) (hR : Rd w rr lo hi n rd) (hd : rd + n ≤ 100000000) (h8 : (rd + n) % 8 = 0) :
  Calls Tryz.prog 151 #[.pointer (some ⟨rr, 0, none⟩)] w (Ret fun v w' => ∃ (k : Int) (e : Int), v = .tuple #[.int .i64 k, .int .i64 e] ∧ 0 ≤ k ∧ 8 * k ≤ ((rd + n : Nat) : Int) ∧ Upd (Is rr) w w') := by
 have HU : Upd (fun b => b = rr) w w := Upd.refl _ _
 refine Zq func151 rfl ntmps151 (by simp) ?_
 obtain ⟨hrl1, hrh1, ra1, rc1, rx1, hrB1, hrS1⟩ := hR
 have hrz1 := hrB1.lt
 have hl_hrS1 := Ya Z4 (by decide) hrS1
 have hc_hrS1 := hrS1.cap.1
 refine Sn (Qs 2 rfl (Za (Sn (Qs 1 rfl (Za (Zz (Zs (ZS (fun mu ρ ds w' => ∃ (j : Nat), 8 - j = mu ∧ ds = [] ∧ Liv ρ [(0, .pointer (some ⟨rr, 0, none⟩)), (4, .int .i64 j)] ∧ j ≤ 7 ∧ (8 - rd % 8) % 8 ≥ j ∧ Upd No w w') _ ⟨0, rfl, rfl, ⟨rfl, (by first | rfl | exact Zt (by omega) | exact Zt (by simp)), trivial⟩, (by omega), (by omega), Upd.refl _ _⟩ ?_))))))))
 rintro m2 ρ2 ds2 w2 ⟨j, rfl, rfl, hl2, hj, hj8, hU2⟩
 obtain ⟨ρ2x, rfl⟩ : ∃ ρx, ρ2 = upds ρx [(0, .pointer (some ⟨rr, 0, none⟩)), (4, .int .i64 j)] := ⟨_, ZD hl2⟩
 clear hl2
 have:=hU2.size
 have HL2 := hU2
 refine Sm (Qs 1 rfl (Zf (Yj rfl) (Zf (Zo underlying240 rfl sizeOf3 rfl rfl) ?_)))
 replace hrB1 := hrB1.Zc hU2
 refine Zk isAgg3 rfl hrB1 rfl (Qs 1 rfl (Xd rfl rfl (Zf (YW rfl rfl (by omega) (tr (by omega))) (Qs 1 rfl (Za ?_)))))
 replace HU := HU.Zb hU2
 replace hrS1 := hrS1.Zc hU2
 refine W_if rfl (fun q1 => ?_) fun q1 => ?_
 ·refine Zi (Zs (Sm (Qs 1 rfl (Zf (Yj rfl) (Zf (Zo underlying240 rfl sizeOf238 rfl rfl) (Zk isAgg238 rfl hrB1 rfl (Qs 1 rfl (Yg false Z4 (by decide) underlying238 sizeOf4 rfl rfl hrS1 (by omega) (by omega) ?_))))))))
  intro ib3 io3 hc3
  try rw [Int.toNat_natCast] at hc3
  refine ZH (v := .bool (decide ((rx1.getD j false) = true))) isAgg4 rfl (hc3 0 (by decide)) (Za (W_if rfl (fun q2 => ?_) fun q2 => ?_))
  ·exact Sn (Qs 2 rfl (Za (Zn (Zg rfl (Z2 results151 rfl rfl) ⟨_, rfl, 0, 14, rfl, (by omega), (by omega), HU⟩))))
  refine Zi (Zl (Qs 1 rfl (Xd rfl rfl (Qs 1 rfl (Za ?_)))))
  refine ⟨_, ?_, (j + 1), rfl, rfl, ⟨rfl, Zt, trivial⟩, (by omega), (by omega), HL2⟩
  omega
 refine ZI (Sn (Qs 2 rfl (Zf (Yj rfl) (Zf (Zo underlying240 rfl sizeOf238 rfl rfl) (Zk isAgg238 rfl hrB1 rfl (Qs 1 rfl (Zf (Ym (l' := j) (n' := n - j) underlying238 sizeOf4 rfl rfl (by omega) (by omega) (by omega)) ?_)))))))
 have hT4 := Sl.rlo (l := j) (n := n - j) Z4 hrS1 (by omega) (by omega)
 have hl_hT4 := Ya Z4 (by decide) hT4
 have hc_hT4 := hT4.cap.1
 refine Zf (Yj rfl) (Zf (Zo underlying240 rfl sizeOf238 rfl rfl) (Xc [.slice (if rc1 = j then ra1 else ra1.map (·.add (j * 1))) (n - j) (rc1 - j), .int .i64 rd] sizeOf238 rfl hrB1 rfl rfl rfl rfl rfl ?_))
 intro w5 hU5 hzz5 hrB1
 refine Za (Sn (Qs 1 rfl (Zf (Yj rfl) (Zf (Zo underlying240 rfl sizeOf3 rfl rfl) (Zk isAgg3 rfl hrB1 rfl (Qs 1 rfl (Xd rfl rfl (Zf (Yj rfl) (Zf (Zo underlying240 rfl sizeOf3 rfl rfl) (Xc [.slice (if rc1 = j then ra1 else ra1.map (·.add (j * 1))) (n - j) (rc1 - j), .int .i64 ((rd : Int) + (j : Int))] sizeOf3 rfl hrB1 rfl rfl rfl rfl rfl ?_))))))))))
 intro w6 hU6 hzz6 hrB1
 exact Za (Sn (Qs 1 rfl (Zf (Yj rfl) (Zf (Zo underlying240 rfl sizeOf3 rfl rfl) (Zk isAgg3 rfl hrB1 rfl (Zf (YT rfl rfl (by omega) (tq (by omega) ZY)) (Qs 2 rfl (Za (Zn (Zg rfl (Z2 results151 rfl rfl) ⟨_, rfl, (((rd : Int) + (j : Int)) / 8), 0, rfl, (by omega), (by omega), ((HU.Zr hU5).Zr hU6)⟩))))))))))
theorem wstates {x : Int} (w : World)  :
  Calls Tryz.prog 52 #[.int .i64 x] w (Ret fun v w' => v = .int .i64 (stt x) ∧ Upd No w w') := by
 have HU := Upd.Yo w
 refine Zq func52 rfl ntmps52 (by simp) (Sn (Qs 1 rfl (Za (Sm (Qs 2 rfl (Za (W_if rfl (fun q1 => ?_) fun q1 => ?_)))))))
 ·exact Sn (Qs 1 rfl (Za (Zn (Zg rfl (Z9 results52 rfl) ⟨_, rfl, (Zt (by unfold stt; split <;> omega)), HU⟩))))
 exact Zi (Sn (Qs 2 rfl (Za (Zn (Zg rfl (Z9 results52 rfl) ⟨_, rfl, (Zt (by unfold stt; split <;> omega)), HU⟩)))))
theorem wsize {k : Nat} (w : World) (hk : k ≤ 20) :
  Calls Tryz.prog 53 #[.int .i64 k] w (Ret fun v w' => v = .int .i64 ((2 ^ k : Nat) : Int) ∧ Upd No w w') := by
 have HU := Upd.Yo w
 refine Zq func53 rfl ntmps53 (by simp) (Sn (Qs 1 rfl (Za (Sm (Qs 3 rfl ?_)))))
 have q1 : ¬ ((k : Int) < 0) := (by omega)
 rw [decide_eq_false q1]
 refine Gt (Qs 1 rfl (Gt (Qs 1 rfl (Zf (Zw (v := .bool (decide (20 < (k : Int)))) rfl rfl) (Za ?_)))))
 have q2 : ¬ (20 < (k : Int)) := (by omega)
 rw [decide_eq_false q2]
 refine Cf (Zi (Sn (Qs 1 rfl (Za (Sm (Qs 1 rfl (Za (Zs (ZS (fun mu ρ ds w' => ∃ (i : Nat), k - i = mu ∧ ds = [] ∧ Liv ρ [(0, .int .i64 k), (3, .int .i64 ((2 ^ i : Nat) : Int)), (4, .int .i64 i)] ∧ i ≤ k ∧ Upd No w w') _ ⟨0, rfl, rfl, ⟨rfl, rfl, (by first | rfl | exact Zt (by omega) | exact Zt (by simp)), trivial⟩, (by omega), Upd.refl _ _⟩ ?_)))))))))
 rintro m1 ρ1 ds1 w1 ⟨i, rfl, rfl, hl1, hi, hU1⟩
 obtain ⟨ρ1x, rfl⟩ : ∃ ρx, ρ1 = upds ρx [(0, .int .i64 k), (3, .int .i64 ((2 ^ i : Nat) : Int)), (4, .int .i64 i)] := ⟨_, ZD hl1⟩
 clear hl1
 have:=hU1.size
 have hp9 := p2s i
 have hpk : 2 ^ i ≤ 2 ^ 20 := p2le (by omega)
 have HL1 := hU1
 refine Sm (Qs 3 rfl (Za (W_if rfl (fun q3 => ?_) fun q3 => ?_)))
 ·refine Zi (Zz (Zs (Zl (Qs 1 rfl (Zf (YM rfl rfl ZY) (Qs 1 rfl (Za (Zl (Qs 1 rfl (Xd rfl rfl (Qs 1 rfl (Za ?_))))))))))))
  refine ⟨_, ?_, (i + 1), rfl, rfl, ⟨rfl, Zt, Zt, trivial⟩, (by omega), HL1⟩
  omega
 refine ZI (Sn (Qs 2 rfl (Za (Zn (Zg (v := .int .i64 ((2 ^ i : Nat) : Int)) rfl (Z9 results53 rfl) ?_)))))
 exact ⟨_, rfl, (Zt (by rw [show i = k from by omega])), (HU.Zb hU1)⟩
theorem wmay {lg : Int} {a : Option Addr} {n c : Nat} {N : List Int} {sy lm : Int} (w : World) (hs : Sl w (fun g => g < w.heap.size) 1 (.slice a n c) n (ints .i64 N)) (hn4 : n ≤ 100000000) :
  Calls Tryz.prog 27 #[.agg #[.int .i64 lg, .slice a n c], .int .i64 sy, .int .i64 lm] w (Ret fun v w' => ∃ (e : Int), v = .int .i64 e ∧ (e = 0 ↔ MayP lg N sy lm) ∧ Upd No w w') := by
 have HU := Upd.Yo w
 have hl_hs := ZC hs
 have hc_hs := hs.cap.1
 refine Zq func27 rfl ntmps27 (by simp) (Sn (Xb rfl ?_))
 intro B1 w1 hB1 hU1 hzz1 hb1
 refine Qs 1 rfl (Za (Sm (Zf (Zo underlying53 rfl sizeOf3 rfl rfl) (Zk isAgg3 rfl hb1 rfl (Qs 2 rfl ?_)))))
 replace HU := HU.Zb hU1
 by_cases q1 : lg < 0
 ·rw [decide_eq_true q1]
  refine Gf (Gf (Gf (Gf (Zf (Zx (v := .bool true) rfl rfl) (Qs 1 rfl (Gf (Gf (Gf (Zf (Zx (v := .bool true) rfl rfl) (Qs 1 rfl (Gf (Gf (Gf (Gf (Zf (Zx (v := .bool true) rfl rfl) (Qs 1 rfl (Gf (Gf (Gf (Gf (Gf (Zf (Zx (v := .bool true) rfl rfl) (Za (Ct (Sn (Qs 1 rfl (Za (Zn (Zg rfl (Z9 results27 rfl) ?_)))))))))))))))))))))))))))))
  exact ⟨_, rfl, 13, rfl, ⟨fun h9 => absurd h9 (by decide), fun hM => by
   have m0 := hM.l0
   have m1 := hM.l1
   have m9 := hM.l9
   have m2 := hM.n1
   have m3 := hM.ns
   have m4 := hM.la
   have m5 := hM.su
   omega⟩, HU⟩
 rw [decide_eq_false q1]
 refine Gt (Zf (Zo underlying53 rfl sizeOf3 rfl rfl) (Gt (Zk isAgg3 rfl hb1 rfl (Gt (Qs 1 rfl (Gt (Qs 1 rfl (Zf (Zw (v := .bool (decide (lm < lg))) rfl rfl) (Qs 1 rfl ?_)))))))))
 by_cases q2 : lm < lg
 ·rw [decide_eq_true q2]
  refine Gf (Gf (Gf (Zf (Zx (v := .bool true) rfl rfl) (Qs 1 rfl (Gf (Gf (Gf (Gf (Zf (Zx (v := .bool true) rfl rfl) (Qs 1 rfl (Gf (Gf (Gf (Gf (Gf (Zf (Zx (v := .bool true) rfl rfl) (Za (Ct (Sn (Qs 1 rfl (Za (Zn (Zg rfl (Z9 results27 rfl) ?_)))))))))))))))))))))))
  exact ⟨_, rfl, 13, rfl, ⟨fun h9 => absurd h9 (by decide), fun hM => by
   have m0 := hM.l0
   have m1 := hM.l1
   have m9 := hM.l9
   have m2 := hM.n1
   have m3 := hM.ns
   have m4 := hM.la
   have m5 := hM.su
   omega⟩, HU⟩
 rw [decide_eq_false q2]
 refine Gt (Zf (Zo underlying53 rfl sizeOf3 rfl rfl) (Gt (Zk isAgg3 rfl hb1 rfl (Gt (Qs 1 rfl (Zf (Zw (v := .bool (decide (9 < lg))) rfl rfl) (Qs 1 rfl ?_)))))))
 by_cases q3 : 9 < lg
 ·rw [decide_eq_true q3]
  refine Gf (Gf (Gf (Gf (Zf (Zx (v := .bool true) rfl rfl) (Qs 1 rfl (Gf (Gf (Gf (Gf (Gf (Zf (Zx (v := .bool true) rfl rfl) (Za (Ct (Sn (Qs 1 rfl (Za (Zn (Zg rfl (Z9 results27 rfl) ?_))))))))))))))))))
  exact ⟨_, rfl, 13, rfl, ⟨fun h9 => absurd h9 (by decide), fun hM => by
   have m0 := hM.l0
   have m1 := hM.l1
   have m9 := hM.l9
   have m2 := hM.n1
   have m3 := hM.ns
   have m4 := hM.la
   have m5 := hM.su
   omega⟩, HU⟩
 rw [decide_eq_false q3]
 refine Gt (Zf (Zo underlying53 rfl sizeOf51 rfl rfl) (Gt (Zk isAgg51 rfl hb1 rfl (Gt (Zf (ZM underlying51 rfl) (Gt (Qs 1 rfl (Zf (Zw (v := .bool (decide ((n : Int) < 1))) rfl rfl) (Qs 1 rfl ?_)))))))))
 by_cases q4 : (n : Int) < 1
 ·rw [decide_eq_true q4]
  refine Gf (Gf (Gf (Gf (Gf (Zf (Zx (v := .bool true) rfl rfl) (Za (Ct (Sn (Qs 1 rfl (Za (Zn (Zg rfl (Z9 results27 rfl) ?_))))))))))))
  exact ⟨_, rfl, 13, rfl, ⟨fun h9 => absurd h9 (by decide), fun hM => by
   have m0 := hM.l0
   have m1 := hM.l1
   have m9 := hM.l9
   have m2 := hM.n1
   have m3 := hM.ns
   have m4 := hM.la
   have m5 := hM.su
   omega⟩, HU⟩
 rw [decide_eq_false q4]
 refine Gt (Zf (Zo underlying53 rfl sizeOf51 rfl rfl) (Gt (Zk isAgg51 rfl hb1 rfl (Gt (Zf (ZM underlying51 rfl) (Gt (Qs 1 rfl (Gt (Qs 1 rfl (Zf (Zw (v := .bool (decide (sy < (n : Int)))) rfl rfl) (Za (W_if rfl (fun q5 => ?_) fun q5 => ?_))))))))))))
 ·refine Sn (Qs 1 rfl (Za (Zn (Zg rfl (Z9 results27 rfl) ?_))))
  exact ⟨_, rfl, 13, rfl, ⟨fun h9 => absurd h9 (by decide), fun hM => by
   have m0 := hM.l0
   have m1 := hM.l1
   have m9 := hM.l9
   have m2 := hM.n1
   have m3 := hM.ns
   have m4 := hM.la
   have m5 := hM.su
   omega⟩, HU⟩
 refine Zi (Sm (Zf (Zo underlying53 rfl sizeOf51 rfl rfl) (Zk isAgg51 rfl hb1 rfl (Zf (Zo underlying53 rfl sizeOf51 rfl rfl) (Zk isAgg51 rfl hb1 rfl (Zf (ZM underlying51 rfl) (Xs rfl rfl ?_)))))))
 replace hs := hs.Zc hU1
 refine Z7 underlying51 sizeOf3 rfl rfl hs (by omega) (by omega) ?_
 intro ib2 io2 hc2
 refine ZH isAgg3 rfl hc2 (Qs 1 rfl (Za ?_))
 by_cases q6 : (N.getD ((n : Int) - 1).toNat 0) = 0
 ·have hla := q6
  rw [show ((n : Int) - 1).toNat = N.length - 1 from by omega] at hla
  rw [decide_eq_true q6]
  refine Ct (Sn (Qs 1 rfl (Za (Zn (Zg rfl (Z9 results27 rfl) ?_)))))
  exact ⟨_, rfl, 13, rfl, ⟨fun h9 => absurd h9 (by decide), fun hM => by
   have m0 := hM.l0
   have m1 := hM.l1
   have m9 := hM.l9
   have m2 := hM.n1
   have m3 := hM.ns
   have m4 := hM.la
   have m5 := hM.su
   omega⟩, HU⟩
 have hla := q6
 rw [show ((n : Int) - 1).toNat = N.length - 1 from by omega] at hla
 rw [decide_eq_false q6]
 refine Cf (Zi (Sn (Qs 1 rfl (Za (Sm (Qs 1 rfl (Za (Zs (ZS (fun mu ρ ds w' => ∃ (k : Nat), n - k = mu ∧ ds = [] ∧ Liv ρ [(3, .pointer (some ⟨B1, 0, none⟩)), (7, .int .i64 (sm N k)), (8, .int .i64 k)] ∧ k ≤ n ∧ (∀ i, i < k → -1 ≤ N.getD i 0 ∧ N.getD i 0 ≤ 512) ∧ (0 ≤ sm N k ∧ sm N k ≤ 1024) ∧ Upd No w1 w') _ ⟨0, rfl, rfl, ⟨rfl, rfl, (by first | rfl | exact Zt (by omega) | exact Zt (by simp)), trivial⟩, (by omega), (fun i hi => absurd hi (by omega)), ⟨(show (0 : Int) ≤ 0 from by decide), (show (0 : Int) ≤ 1024 from by decide)⟩, Upd.refl _ _⟩ ?_)))))))))
 rintro m3 ρ3 ds3 w3 ⟨k, rfl, rfl, hl3, hk, hrg, hsm, hU3⟩
 obtain ⟨ρ3x, rfl⟩ : ∃ ρx, ρ3 = upds ρx [(3, .pointer (some ⟨B1, 0, none⟩)), (7, .int .i64 (sm N k)), (8, .int .i64 k)] := ⟨_, ZD hl3⟩
 clear hl3
 have:=hU3.size
 have HL3 := hU3
 refine Sm (Qs 1 rfl (Zf (Zo underlying53 rfl sizeOf51 rfl rfl) ?_))
 replace hb1 := hb1.Zc hU3
 refine Zk isAgg51 rfl hb1 rfl (Zf (ZM underlying51 rfl) (Qs 1 rfl (Za ?_)))
 replace HU := HU.Zb hU3
 refine W_if rfl (fun q7 => ?_) fun q7 => ?_
 ·refine Zi (Zz (Zs (Sm (Zf (Zo underlying53 rfl sizeOf51 rfl rfl) (Zk isAgg51 rfl hb1 rfl (Qs 1 rfl ?_))))))
  replace hs := hs.Zc hU3
  refine Z7 underlying51 sizeOf3 rfl rfl hs (by omega) (by omega) ?_
  intro ib4 io4 hc4
  rw [Int.toNat_natCast] at hc4
  refine ZH isAgg3 rfl hc4 (Qs 2 rfl ?_)
  by_cases q8 : (N.getD k 0) < (-1)
  ·rw [decide_eq_true q8]
   refine Gf (Gf (Gf (Gf (Gf (Gf (Zf (Zx (v := .bool true) rfl rfl) (Qs 1 rfl (Gf (Gf (Zf (Zx (v := .bool true) rfl rfl) (Za (Ct (Sn (Qs 1 rfl (Za (Zn (Zg rfl (Z9 results27 rfl) ?_)))))))))))))))))
   exact ⟨_, rfl, 13, rfl, ⟨fun h9 => absurd h9 (by decide), fun hM => by
    have m0 := hM.l0
    have m1 := hM.l1
    have m9 := hM.l9
    have m2 := hM.n1
    have m3 := hM.ns
    have m4 := hM.la
    have m5 := hM.su
    have m6 := hM.sm_le (k := k) (by omega)
    by_cases hkl : k < N.length
    ·have m7 := hM.rg k hkl
     omega
    obtain rfl : k = N.length := by omega
    omega⟩, HU⟩
  rw [decide_eq_false q8]
  refine Gt (Zf (Zo underlying53 rfl sizeOf51 rfl rfl) (Gt (Zk isAgg51 rfl hb1 rfl (Gt (Qs 1 rfl (Gt (Z7 underlying51 sizeOf3 rfl rfl hs (by omega) (by omega) ?_)))))))
  intro ib5 io5 hc5
  rw [Int.toNat_natCast] at hc5
  refine Gt (ZH isAgg3 rfl hc5 (Gt (Qs 1 rfl (Zf (Zw (v := .bool (decide (512 < (N.getD k 0)))) rfl rfl) (Qs 1 rfl ?_)))))
  by_cases q9 : 512 < (N.getD k 0)
  ·rw [decide_eq_true q9]
   refine Gf (Gf (Zf (Zx (v := .bool true) rfl rfl) (Za (Ct (Sn (Qs 1 rfl (Za (Zn (Zg rfl (Z9 results27 rfl) ?_)))))))))
   exact ⟨_, rfl, 13, rfl, ⟨fun h9 => absurd h9 (by decide), fun hM => by
    have m0 := hM.l0
    have m1 := hM.l1
    have m9 := hM.l9
    have m2 := hM.n1
    have m3 := hM.ns
    have m4 := hM.la
    have m5 := hM.su
    have m6 := hM.sm_le (k := k) (by omega)
    by_cases hkl : k < N.length
    ·have m7 := hM.rg k hkl
     omega
    obtain rfl : k = N.length := by omega
    omega⟩, HU⟩
  rw [decide_eq_false q9]
  refine Gt (Qs 1 rfl (Gt (Qs 1 rfl (Zf (Zw (v := .bool (decide (512 < (sm N k)))) rfl rfl) (Za (W_if rfl (fun q10 => ?_) fun q10 => ?_))))))
  ·refine Sn (Qs 1 rfl (Za (Zn (Zg rfl (Z9 results27 rfl) ?_))))
   exact ⟨_, rfl, 13, rfl, ⟨fun h9 => absurd h9 (by decide), fun hM => by
    have m0 := hM.l0
    have m1 := hM.l1
    have m9 := hM.l9
    have m2 := hM.n1
    have m3 := hM.ns
    have m4 := hM.la
    have m5 := hM.su
    have m6 := hM.sm_le (k := k) (by omega)
    by_cases hkl : k < N.length
    ·have m7 := hM.rg k hkl
     omega
    obtain rfl : k = N.length := by omega
    omega⟩, HU⟩
  refine Zi (Zl (Qs 1 rfl (Zf (Zo underlying53 rfl sizeOf51 rfl rfl) (Zk isAgg51 rfl hb1 rfl (Qs 1 rfl (Z7 underlying51 sizeOf3 rfl rfl hs (by omega) (by omega) ?_))))))
  intro ib6 io6 hc6
  rw [Int.toNat_natCast] at hc6
  refine ZH isAgg3 rfl hc6 (Zj (Zv rfl call52 rfl) (wstates _ ) ?_)
  rintro v w7 ⟨rfl, hU7⟩
  have:=hU7.size
  have hst := stt_le (x := N.getD k 0) ⟨by omega, by omega⟩
  refine Xd rfl rfl (Qs 1 rfl (Za (Zl (Qs 1 rfl (Xd rfl rfl (Qs 1 rfl (Za ?_)))))))
  have hsk : sm N (k + 1) = sm N k + stt (N.getD k 0) := rfl
  refine ⟨_, ?_, (k + 1), rfl, rfl, ⟨rfl, rfl, Zt, trivial⟩, (by omega), (fun i hi => by rcases Nat.lt_or_ge i k with h9 | h9; exact hrg i h9; obtain rfl : i = k := (by omega); exact ⟨by omega, by omega⟩), ⟨by omega, by omega⟩, (HL3.Zb hU7)⟩
  omega
 refine ZI (Sm (Qs 1 rfl (Zf (Zo underlying53 rfl sizeOf3 rfl rfl) (Zk isAgg3 rfl hb1 rfl (Zj (Zv rfl call53 (v0 := .int .i64 ((lg.toNat : Nat) : Int)) Zt) (wsize _ (by omega)) ?_)))))
 rintro v w8 ⟨rfl, hU8⟩
 have:=hU8.size
 have hp29 := p2_9 (lg := lg) (by omega) (by omega)
 refine Qs 1 rfl (Za ?_)
 replace HU := HU.Zb hU8
 refine W_if rfl (fun q11 => ?_) fun q11 => ?_
 ·refine Sn (Qs 1 rfl (Za (Zn (Zg rfl (Z9 results27 rfl) ?_))))
  exact ⟨_, rfl, 13, rfl, ⟨fun h9 => absurd h9 (by decide), fun hM => by
   have m0 := hM.l0
   have m1 := hM.l1
   have m9 := hM.l9
   have m2 := hM.n1
   have m3 := hM.ns
   have m4 := hM.la
   have m5 := hM.su
   have m6 := hM.sm_le (k := k) (by omega)
   by_cases hkl : k < N.length
   ·have m7 := hM.rg k hkl
    omega
   obtain rfl : k = N.length := by omega
   omega⟩, HU⟩
 refine Zi (Sn (Qs 1 rfl (Za (Zn (Zg rfl (Z9 results27 rfl) ?_)))))
 have hkn : k = N.length := by omega
 replace hs := hs.Zc hU3
 subst hkn
 exact ⟨_, rfl, 0, rfl, ⟨fun _ => ⟨by omega, by omega, by omega, by omega, by omega, hla, hrg, by omega⟩, fun _ => rfl⟩, HU⟩
theorem wstep {s : Nat} (w : World) (hs9 : s ≤ 512) :
  Calls Tryz.prog 162 #[.int .i64 s] w (Ret fun v w' => v = .int .i64 ((stq s : Nat) : Int) ∧ Upd No w w') := by
 have HU := Upd.Yo w
 refine Zq func162 rfl ntmps162 (by simp) (Sn (Qs 1 rfl (Za (Sm (Qs 2 rfl (Za ?_))))))
 have q1 : ¬ (512 < (s : Int)) := (by omega)
 rw [decide_eq_false q1]
 refine Cf (Zi (Sm (Qs 2 rfl (Za (W_if rfl (fun q2 => ?_) fun q2 => ?_)))))
 ·exact Sn (Qs 1 rfl (Za (Zn (Zg rfl (Z9 results162 rfl) ⟨_, rfl, (Zt (by unfold stq; split <;> omega)), HU⟩))))
 exact Zi (Sn (Qs 1 rfl (Zf (YT rfl rfl (by omega) (tq (by omega) ZY)) (Qs 1 rfl (Zf (YT rfl rfl (by omega) (tq (by omega) ZY)) (Xd rfl rfl (Xd rfl rfl (Qs 1 rfl (Za (Zn (Zg rfl (Z9 results162 rfl) ⟨_, rfl, (Zt (by unfold stq; split <;> omega)), HU⟩)))))))))))
theorem wspread {lg : Int} {a : Option Addr} {n c : Nat} {N : List Int} (w : World) (hs : Sl w (fun g => g < w.heap.size) 1 (.slice a n c) n (ints .i64 N)) (hn4 : n ≤ 100000000) (hM : MayP lg N 256 9) :
  Calls Tryz.prog 153 #[.agg #[.int .i64 lg, .slice a n c]] w (Ret fun v w' => ∃ (a' : Option Addr) (c' : Nat) (ys : List Int), v = .tuple #[.slice a' (2 ^ lg.toNat) c', .int .i64 0] ∧ Own w' (fun g => w.heap.size ≤ g) 3 1 (.slice a' (2 ^ lg.toNat) c') (2 ^ lg.toNat) (ints .i64 ys) ∧ okS N ys ∧ (∀ j, j < 2 ^ lg.toNat → 0 ≤ ys.getD j 0) ∧ Upd No w w') := by
 have HU := Upd.Yo w
 have hl_hs := ZC hs
 have hc_hs := hs.cap.1
 have m0 := hM.l0
 have m9 := hM.l9
 have msz := hM.sz
 have mmp := hM.mp
 have mst := stq_p m0 m9
 refine Zq func153 rfl ntmps153 (by simp) (Sn (Xb rfl ?_))
 intro B1 w1 hB1 hU1 hzz1 hb1
 refine Qs 2 rfl (Za (Sn (Xl isAgg53 sizeOf53 rfl hb1 rfl ?_)))
 replace hs := hs.Zc hU1
 refine Zj (Z5 rfl call27 rfl rfl rfl) (wmay _ hs.any (by omega)) ?_
 rintro v w2 ⟨e2, rfl, he_2, hU2⟩
 have:=hU2.size
 refine Qs 1 rfl (Za (Sm (Qs 2 rfl (Za ?_))))
 have q1 : ¬ (e2 ≠ 0) := (fun h => h (he_2.2 hM))
 rw [decide_eq_false q1]
 refine Cf (Zi (Sn (Zf (Zo underlying53 rfl sizeOf3 rfl rfl) ?_)))
 replace hb1 := hb1.Zc hU2
 refine Zk isAgg3 rfl hb1 rfl (Zj (Zv rfl call53 (v0 := .int .i64 ((lg.toNat : Nat) : Int)) Zt) (wsize _ (by omega)) ?_)
 rintro v w3 ⟨rfl, hU3⟩
 have:=hU3.size
 refine Qs 1 rfl (Za (Sn (Qs 1 rfl (Wl_makeo (c' := (2 ^ lg.toNat)) (zc := [.int .i64 0]) (cs := ints .i64 (List.replicate (2 ^ lg.toNat) 0)) (sz := 1) underlying51 (ti := Tryz.t3) (z := .int .i64 0) rfl rfl rfl rfl (by decide) rfl rfl (by omega) (by omega) (by show 8 * _ ≤ _; omega) (by simp only [maxLen]; omega) (by simp [ints]) rfl ?_))))
 intro B4 w4 hB4 hU4 hzz4 hO4
 have hl_hO4 := ZC hO4.sl
 have hc_hO4 := hO4.sl.cap.1
 refine Qs 1 rfl (Za (Sm (Qs 1 rfl (Za (Zs (ZS (fun mu ρ ds w' => ∃ (i : Nat) (ys : List Int), 2 ^ lg.toNat - i = mu ∧ ds = [] ∧ Liv ρ [(1, .pointer (some ⟨B1, 0, none⟩)), (5, .int .i64 ((2 ^ lg.toNat : Nat) : Int)), (6, .slice (some ⟨B4, 0, none⟩) (2 ^ lg.toNat) (2 ^ lg.toNat)), (7, .int .i64 i)] ∧ i ≤ 2 ^ lg.toNat ∧ (∀ j, j < i → ys.getD j 0 = -1) ∧ Own w' (fun g => g = B4) 3 1 (.slice (some ⟨B4, 0, none⟩) (2 ^ lg.toNat) (2 ^ lg.toNat)) (2 ^ lg.toNat) (ints .i64 ys) ∧ Upd (Is B4) w4 w') _ ⟨0, List.replicate (2 ^ lg.toNat) 0, rfl, rfl, ⟨rfl, rfl, rfl, (by first | rfl | exact Zt (by omega) | exact Zt (by simp)), trivial⟩, (by omega), (fun j hj => absurd hj (by omega)), hO4, Upd.refl _ _⟩ ?_))))))
 rintro m5 ρ5 ds5 w5 ⟨i, ys, rfl, rfl, hl5, hi, hy, hY, hU5⟩
 obtain ⟨ρ5x, rfl⟩ : ∃ ρx, ρ5 = upds ρx [(1, .pointer (some ⟨B1, 0, none⟩)), (5, .int .i64 ((2 ^ lg.toNat : Nat) : Int)), (6, .slice (some ⟨B4, 0, none⟩) (2 ^ lg.toNat) (2 ^ lg.toNat)), (7, .int .i64 i)] := ⟨_, ZD hl5⟩
 replace HU := (((HU.Zb hU1).Zb hU2).Zb hU3).Zb hU4
 replace hs := ((hs.Zc hU2).Zc hU3).Zc hU4
 replace hb1 := (hb1.Zc hU3).Zc hU4
 clear hl5
 have:=hU5.size
 have hl_hY := ZC hY.sl
 have hc_hY := hY.sl.cap.1
 have HL5 := hU5
 refine Sm (Qs 3 rfl (Za (W_if rfl (fun q2 => ?_) fun q2 => ?_)))
 ·refine Zi (Zz (Zs (Zl (Qs 2 rfl (Wl_idxo (i' := i) underlying51 sizeOf3 rfl rfl hY (by omega) (by omega) ?_)))))
  intro hc6
  refine Wl_storeo (i := i) sizeOf3 rfl rfl hY (by omega) ?_
  intro w7 hU7 hzz7 hO7
  replace hs := hs.Zh hU5
  replace HU := HU.t1 hU5
  replace hb1 := hb1.Zh hU5
  clear hY
  have:=hU7.size
  have hl_hO7 := ZC hO7.sl
  have hc_hO7 := hO7.sl.cap.1
  refine Za (Zl (Qs 1 rfl (Xd rfl rfl (Qs 1 rfl (Za ?_)))))
  refine ⟨_, ?_, (i + 1), (ys.set i (-1)), rfl, rfl, ⟨rfl, rfl, rfl, Zt, trivial⟩, (by omega), (fun j hj => by rw [gds (by omega)]; split; rfl; exact hy j (by omega)), hO7, (HL5.Zr hU7)⟩
  omega
 refine ZI (Sn (Qs 1 rfl (Xs rfl rfl (Qs 1 rfl (Za (Sm (Qs 1 rfl (Za (Zs ?_)))))))))
 have hfn := fre_neg (l := ys) (fun j hj => hy j (by omega))
 refine ZS (fun mu ρ ds w' => ∃ (i : Nat) (ys : List Int), n - i = mu ∧ ds = [] ∧ Liv ρ [(1, .pointer (some ⟨B1, 0, none⟩)), (5, .int .i64 ((2 ^ lg.toNat : Nat) : Int)), (6, .slice (some ⟨B4, 0, none⟩) (2 ^ lg.toNat) (2 ^ lg.toNat)), (8, .int .i64 (((2 ^ lg.toNat : Nat) : Int) - 1 - ((mn N i : Nat) : Int))), (9, .int .i64 i)] ∧ i ≤ n ∧ fre ys + mn N i = 2 ^ lg.toNat ∧ okS N ys ∧ (∀ j, j + mn N i < 2 ^ lg.toNat → ys.getD j 0 < 0) ∧ Own w' (fun g => g = B4) 3 1 (.slice (some ⟨B4, 0, none⟩) (2 ^ lg.toNat) (2 ^ lg.toNat)) (2 ^ lg.toNat) (ints .i64 ys) ∧ Upd (Is B4) w5 w') _ ⟨0, ys, rfl, rfl, ⟨rfl, rfl, rfl, (Zt (by rw [show mn N 0 = 0 from rfl]; omega)), (by first | rfl | exact Zt (by omega) | exact Zt (by simp)), trivial⟩, (by omega), (by rw [hfn, show mn N 0 = 0 from rfl]; omega), (okS_neg (fun j hj => hy j (by omega))), (fun j hj => by rw [hy j (by omega)]; decide), hY, Upd.refl _ _⟩ ?_
 rintro m8 ρ8 ds8 w8 ⟨i, ys, rfl, rfl, hl8, hi, hfr, hok, hlo, hY, hU8⟩
 obtain ⟨ρ8x, rfl⟩ : ∃ ρx, ρ8 = upds ρx [(1, .pointer (some ⟨B1, 0, none⟩)), (5, .int .i64 ((2 ^ lg.toNat : Nat) : Int)), (6, .slice (some ⟨B4, 0, none⟩) (2 ^ lg.toNat) (2 ^ lg.toNat)), (8, .int .i64 (((2 ^ lg.toNat : Nat) : Int) - 1 - ((mn N i : Nat) : Int))), (9, .int .i64 i)] := ⟨_, ZD hl8⟩
 replace hs := hs.Zh hU5
 replace HU := HU.t1 hU5
 replace hb1 := hb1.Zh hU5
 clear hl8
 have:=hU8.size
 have hl_hY := ZC hY.sl
 have hc_hY := hY.sl.cap.1
 have hmm := mn_mono (N := N) (k := i + 1) (n := N.length)
 have hms1 := mn_s N i
 have HL8 := hU8
 refine Sm (Qs 1 rfl (Zf (Zo underlying53 rfl sizeOf51 rfl rfl) ?_))
 replace hb1 := hb1.Zh hU8
 refine Zk isAgg51 rfl hb1 rfl (Zf (ZM underlying51 rfl) (Qs 1 rfl (Za ?_)))
 replace hs := hs.Zh hU8
 refine W_if rfl (fun q3 => ?_) fun q3 => ?_
 ·refine Zi (Zz (Zs (Sn (Zf (Zo underlying53 rfl sizeOf51 rfl rfl) (Zk isAgg51 rfl hb1 rfl (Qs 1 rfl (Z7 underlying51 sizeOf3 rfl rfl hs (by omega) (by omega) ?_)))))))
  intro ib9 io9 hc9
  rw [Int.toNat_natCast] at hc9
  refine ZH isAgg3 rfl hc9 (Qs 1 rfl (Za ?_))
  by_cases q4 : (N.getD i 0) = (-1)
  ·have hms : mn N (i + 1) = mn N i + 1 := by rw [mn_s, if_pos q4]
   rw [decide_eq_true q4]
   refine Ct (Sn (Qs 3 rfl (Wl_idxo (i' := (((2 ^ lg.toNat : Nat) : Int) - 1 - ((mn N i : Nat) : Int)).toNat) underlying51 sizeOf3 rfl rfl hY (by omega) (by omega) ?_)))
   intro hc10
   refine Wl_storeo (i := (((2 ^ lg.toNat : Nat) : Int) - 1 - ((mn N i : Nat) : Int)).toNat) sizeOf3 rfl rfl hY (by omega) ?_
   intro w11 hU11 hzz11 hO11
   replace HU := HU.t1 hU8
   clear hY
   have:=hU11.size
   have hl_hO11 := ZC hO11.sl
   have hc_hO11 := hO11.sl.cap.1
   refine Za (Zl (Qs 1 rfl (Xs rfl rfl (Qs 1 rfl (Za (Zl (Qs 1 rfl (Xd rfl rfl (Qs 1 rfl (Za ?_))))))))))
   have hfs := fre_set (l := ys) (i := (((2 ^ lg.toNat : Nat) : Int) - 1 - ((mn N i : Nat) : Int)).toNat) (v := (i : Int)) (by omega) (hlo _ (by omega)) (by omega)
   refine ⟨_, ?_, (i + 1), (ys.set ((((2 ^ lg.toNat : Nat) : Int) - 1 - ((mn N i : Nat) : Int)).toNat) (i : Int)), rfl, rfl, ⟨rfl, rfl, rfl, (Zt (by rw [hms]; omega)), Zt, trivial⟩, (by omega), (by omega), (okS_set hok (by omega) (by omega) (by rw [q4]; decide)), (fun j hj => by rw [gds (by omega), if_neg (by omega)]; exact hlo j (by omega)), hO11, (HL8.Zr hU11)⟩
   omega
  have hms : mn N (i + 1) = mn N i := by rw [mn_s, if_neg q4, Nat.add_zero]
  rw [decide_eq_false q4]
  refine Cf (Zi (Zl (Qs 1 rfl (Xd rfl rfl (Qs 1 rfl (Za ?_))))))
  refine ⟨_, ?_, (i + 1), ys, rfl, rfl, ⟨rfl, rfl, rfl, (Zt (by rw [hms])), Zt, trivial⟩, (by omega), (by omega), hok, (fun j hj => hlo j (by omega)), hY, HL8⟩
  omega
 refine ZI (Sn (Qs 1 rfl (Za (Sm (Qs 1 rfl (Za (Zs (ZS (fun mu ρ ds w' => ∃ (x : Nat) (ys : List Int) (at_ : Nat), n - x = mu ∧ ds = [] ∧ Liv ρ [(1, .pointer (some ⟨B1, 0, none⟩)), (5, .int .i64 ((2 ^ lg.toNat : Nat) : Int)), (6, .slice (some ⟨B4, 0, none⟩) (2 ^ lg.toNat) (2 ^ lg.toNat)), (10, .int .i64 at_), (11, .int .i64 x)] ∧ x ≤ n ∧ fre ys + mn N N.length + pl N x = 2 ^ lg.toNat ∧ okS N ys ∧ at_ < 2 ^ lg.toNat ∧ Own w' (fun g => g = B4) 3 1 (.slice (some ⟨B4, 0, none⟩) (2 ^ lg.toNat) (2 ^ lg.toNat)) (2 ^ lg.toNat) (ints .i64 ys) ∧ Upd (Is B4) w8 w') _ ⟨0, ys, 0, rfl, rfl, ⟨rfl, rfl, rfl, (by first | rfl | exact Zt (by omega) | exact Zt (by simp)), (by first | rfl | exact Zt (by omega) | exact Zt (by simp)), trivial⟩, (by omega), (by rw [show pl N 0 = 0 from rfl]; rw [show i = N.length from by omega] at hfr; omega), hok, (by omega), hY, Upd.refl _ _⟩ ?_))))))))
 rintro m12 ρ12 ds12 w12 ⟨x, ys, at_, rfl, rfl, hl12, hi, hfr, hok, hat, hY, hU12⟩
 obtain ⟨ρ12x, rfl⟩ : ∃ ρx, ρ12 = upds ρx [(1, .pointer (some ⟨B1, 0, none⟩)), (5, .int .i64 ((2 ^ lg.toNat : Nat) : Int)), (6, .slice (some ⟨B4, 0, none⟩) (2 ^ lg.toNat) (2 ^ lg.toNat)), (10, .int .i64 at_), (11, .int .i64 x)] := ⟨_, ZD hl12⟩
 replace HU := HU.t1 hU8
 clear hl12
 have:=hU12.size
 have hl_hY := ZC hY.sl
 have hc_hY := hY.sl.cap.1
 have hps := pl_s N x
 have hpm := pl_mono (N := N) (k := x + 1) (n := N.length)
 have HL12 := hU12
 refine Sm (Qs 1 rfl (Zf (Zo underlying53 rfl sizeOf51 rfl rfl) ?_))
 replace hb1 := hb1.Zh hU12
 refine Zk isAgg51 rfl hb1 rfl (Zf (ZM underlying51 rfl) (Qs 1 rfl (Za (W_if rfl (fun q5 => ?_) fun q5 => ?_))))
 ·refine Zi (Zz (Zs (Sn (Qs 1 rfl (Za (Zs (ZS (fun mu ρ ds w' => ∃ (k : Nat) (ys : List Int) (at_ : Nat), (N.getD x 0).toNat - k = mu ∧ ds = [] ∧ Liv ρ [(1, .pointer (some ⟨B1, 0, none⟩)), (5, .int .i64 ((2 ^ lg.toNat : Nat) : Int)), (6, .slice (some ⟨B4, 0, none⟩) (2 ^ lg.toNat) (2 ^ lg.toNat)), (10, .int .i64 at_), (11, .int .i64 x), (12, .int .i64 k)] ∧ k ≤ (N.getD x 0).toNat ∧ fre ys + mn N N.length + pl N x + k = 2 ^ lg.toNat ∧ okS N ys ∧ at_ < 2 ^ lg.toNat ∧ Own w' (fun g => g = B4) 3 1 (.slice (some ⟨B4, 0, none⟩) (2 ^ lg.toNat) (2 ^ lg.toNat)) (2 ^ lg.toNat) (ints .i64 ys) ∧ Upd (Is B4) w12 w') _ ⟨0, ys, at_, rfl, rfl, ⟨rfl, rfl, rfl, (by first | rfl | exact Zt (by omega) | exact Zt (by simp)), rfl, (by first | rfl | exact Zt (by omega) | exact Zt (by simp)), trivial⟩, (by omega), (by omega), hok, hat, hY, Upd.refl _ _⟩ ?_)))))))
  rintro m13 ρ13 ds13 w13 ⟨k, ys, at_, rfl, rfl, hl13, hk, hfr, hok, hat, hY, hU13⟩
  obtain ⟨ρ13x, rfl⟩ : ∃ ρx, ρ13 = upds ρx [(1, .pointer (some ⟨B1, 0, none⟩)), (5, .int .i64 ((2 ^ lg.toNat : Nat) : Int)), (6, .slice (some ⟨B4, 0, none⟩) (2 ^ lg.toNat) (2 ^ lg.toNat)), (10, .int .i64 at_), (11, .int .i64 x), (12, .int .i64 k)] := ⟨_, ZD hl13⟩
  replace hs := hs.Zh hU12
  replace HU := HU.t1 hU12
  clear hl13
  have:=hU13.size
  have hl_hY := ZC hY.sl
  have hc_hY := hY.sl.cap.1
  have HL13 := hU13
  refine Sm (Qs 1 rfl (Zf (Zo underlying53 rfl sizeOf51 rfl rfl) (Zk isAgg51 rfl (hb1.Zh hU13) rfl (Qs 1 rfl (Z7 underlying51 sizeOf3 rfl rfl (hs.Zh hU13) (by omega) (by omega) ?_)))))
  intro ib14 io14 hc14
  rw [Int.toNat_natCast] at hc14
  refine ZH isAgg3 rfl hc14 (Qs 1 rfl (Za (W_if rfl (fun q6 => ?_) fun q6 => ?_)))
  ·refine Zi (Zz (Zs (Zz (Zs ?_))))
   obtain ⟨f, hf1, hf2⟩ := fre_some (l := ys) (by omega)
   obtain ⟨j0, hj0⟩ := reach (lg := lg.toNat) (at_ := at_) (f := f) (by omega) hat (by omega)
   refine ZS (fun mu ρ ds w' => ∃ (j : Nat) (at_ : Nat), j = mu ∧ ds = [] ∧ Liv ρ [(1, .pointer (some ⟨B1, 0, none⟩)), (5, .int .i64 ((2 ^ lg.toNat : Nat) : Int)), (6, .slice (some ⟨B4, 0, none⟩) (2 ^ lg.toNat) (2 ^ lg.toNat)), (10, .int .i64 at_), (11, .int .i64 x), (12, .int .i64 k)] ∧ at_ < 2 ^ lg.toNat ∧ ys.getD ((at_ + j * stq (2 ^ lg.toNat)) % 2 ^ lg.toNat) 0 < 0 ∧ Upd No w13 w') _ ⟨j0, at_, rfl, rfl, ⟨rfl, rfl, rfl, (by first | rfl | exact Zt (by omega) | exact Zt (by simp)), rfl, rfl, trivial⟩, hat, (by rw [hj0]; exact hf2), Upd.refl _ _⟩ ?_
   rintro m15 ρ15 ds15 w15 ⟨j, at_, rfl, rfl, hl15, hat, hj, hU15⟩
   obtain ⟨ρ15x, rfl⟩ : ∃ ρx, ρ15 = upds ρx [(1, .pointer (some ⟨B1, 0, none⟩)), (5, .int .i64 ((2 ^ lg.toNat : Nat) : Int)), (6, .slice (some ⟨B4, 0, none⟩) (2 ^ lg.toNat) (2 ^ lg.toNat)), (10, .int .i64 at_), (11, .int .i64 x), (12, .int .i64 k)] := ⟨_, ZD hl15⟩
   replace HL12 := HL12.Zr hU13
   clear hl15
   have:=hU15.size
   have HL15 := hU15
   refine Sm (Qs 2 rfl ?_)
   replace hY := hY.Zc hU15
   refine Z7 underlying51 sizeOf3 rfl rfl hY.sl (by omega) (by omega) ?_
   intro ib16 io16 hc16
   rw [Int.toNat_natCast] at hc16
   refine ZH isAgg3 rfl hc16 (Qs 1 rfl (Za (W_if rfl (fun q7 => ?_) fun q7 => ?_)))
   ·refine Zi (Zs (Zl (Qs 2 rfl (Zj (Zv rfl call162 rfl) (wstep _ (by omega)) ?_))))
    rintro v w17 ⟨rfl, hU17⟩
    have:=hU17.size
    refine Xd rfl rfl (Qs 1 rfl (Zf (YW rfl rfl (by omega) (tr (by omega))) (Qs 1 rfl (Za ?_))))
    have hjp : 0 < j := Nat.pos_of_ne_zero (by rintro rfl; rw [Nat.zero_mul, Nat.add_zero, Nat.mod_eq_of_lt hat] at hj; omega)
    refine ⟨_, ?_, (j - 1), ((at_ + stq (2 ^ lg.toNat)) % 2 ^ lg.toNat), rfl, rfl, ⟨rfl, rfl, rfl, (Zt (by first | rw [Int.natCast_mod, Int.natCast_add] | rw [Int.natCast_emod, Int.natCast_add])), rfl, rfl, trivial⟩, (Nat.mod_lt _ (by omega)), (by rw [reach_next hjp]; exact hj), (HL15.Zb hU17)⟩
    omega
   refine ZI (Zl (Qs 3 rfl (Wl_idxo (i' := at_) underlying51 sizeOf3 rfl rfl hY (by omega) (by omega) ?_)))
   intro hc18
   refine Wl_storeo (i := at_) sizeOf3 rfl rfl hY (by omega) ?_
   intro w19 hU19 hzz19 hO19
   replace HL13 := HL13.Zb hU15
   clear hY
   have:=hU19.size
   have hl_hO19 := ZC hO19.sl
   have hc_hO19 := hO19.sl.cap.1
   refine Za (Zl (Qs 1 rfl (Xd rfl rfl (Qs 1 rfl (Za ?_)))))
   have hfs := fre_set (l := ys) (i := at_) (v := (x : Int)) (by omega) (by omega) (by omega)
   refine ⟨_, ?_, (k + 1), (ys.set at_ (x : Int)), at_, rfl, rfl, ⟨rfl, rfl, rfl, (by first | rfl | exact Zt (by omega) | exact Zt (by simp)), rfl, Zt, trivial⟩, (by omega), (by omega), (okS_set hok (by omega) (by omega) (by omega)), hat, hO19, (HL13.Zr hU19)⟩
   omega
  refine ZI (Zl (Qs 1 rfl (Xd rfl rfl (Qs 1 rfl (Za ?_)))))
  refine ⟨_, ?_, (x + 1), ys, at_, rfl, rfl, ⟨rfl, rfl, rfl, (by first | rfl | exact Zt (by omega) | exact Zt (by simp)), Zt, trivial⟩, (by omega), (by omega), hok, hat, hY, (HL12.Zr hU13)⟩
  omega
 refine ZI (Sn (Qs 3 rfl (Za (Zn (Zg rfl (Z2 results153 rfl rfl) ?_)))))
 have hin : x = N.length := by omega
 replace hs := hs.Zh hU12
 replace HU := HU.t1 hU12
 subst hin
 have hmp := hM.mp
 have hf0 : fre ys = 0 := by omega
 exact ⟨_, rfl, _, 2 ^ lg.toNat, ys, rfl, hY.weak, hok, (fun j hj => fre_all hf0 (by omega)), HU⟩
theorem wcells {lg : Int} {a : Option Addr} {n c : Nat} {N : List Int} (w : World) (hs : Sl w (fun g => g < w.heap.size) 1 (.slice a n c) n (ints .i64 N)) (hn4 : n ≤ 100000000) (hM : MayP lg N 256 9) :
  Calls Tryz.prog 134 #[.agg #[.int .i64 lg, .slice a n c]] w (Ret fun v w' => ∃ (a' : Option Addr) (c' : Nat) (cs : List (Int × Int × Int)), v = .tuple #[.slice a' (2 ^ lg.toNat) c', .int .i64 0] ∧ Own w' (fun g => w.heap.size ≤ g) 257 3 (.slice a' (2 ^ lg.toNat) c') (2 ^ lg.toNat) (rows encQ cs) ∧ okC lg.toNat N cs ∧ Upd No w w') := by
 have HU := Upd.Yo w
 have hl_hs := ZC hs
 have hc_hs := hs.cap.1
 have m0 := hM.l0
 have m9 := hM.l9
 have msz := hM.sz
 refine Zq func134 rfl ntmps134 (by simp) (Sn (Xb rfl ?_))
 intro B1 w1 hB1 hU1 hzz1 hb1
 refine Qs 2 rfl (Za (Sn (Xl isAgg53 sizeOf53 rfl hb1 rfl ?_)))
 replace hs := hs.Zc hU1
 refine Zj (Zv rfl call153 rfl) (wspread _ hs.any (by omega) hM) ?_
 rintro v w2 ⟨a2, c2, ys2, rfl, hO2, hok_2, hal_2, hU2⟩
 have:=hU2.size
 replace hO2 := hO2.tight
 have hl_hO2 := ZC hO2.sl
 have hc_hO2 := hO2.sl.cap.1
 have hok := hok_2
 have hal := hal_2
 refine Qs 5 rfl (Za (Sm (Qs 1 rfl (Zf (v := .bool false) (Yh (a := 0) (b := 0) rfl rfl) (Za (Cf (Zi (Sn (Qs 1 rfl (Za (Sm (Qs 1 rfl (Za (Zs (ZS (fun mu ρ ds w' => ∃ (i : Nat) (a9 : Option Addr) (c9 : Nat) (cs : List (Int × Int × Int)), 2 ^ lg.toNat - i = mu ∧ ds = [] ∧ Liv ρ [(1, .pointer (some ⟨B1, 0, none⟩)), (4, .slice a2 (2 ^ lg.toNat) c2), (6, .slice a9 i c9), (7, .int .i64 i)] ∧ i ≤ 2 ^ lg.toNat ∧ okC lg.toNat N cs ∧ Own w' (fun g => w2.heap.size ≤ g) 257 3 (.slice a9 i c9) i (rows encQ cs) ∧ Upd (fun g => w2.heap.size ≤ g) w2 w') _ ⟨0, none, 0, [], rfl, rfl, ⟨rfl, rfl, (by first | rfl | exact Zt (by omega) | exact Zt (by simp)), (by first | rfl | exact Zt (by omega) | exact Zt (by simp)), trivial⟩, (by omega), (fun j hj => absurd hj (by simp)), (by exact Own.nil _ _ _ _), Upd.refl _ _⟩ ?_)))))))))))))))
 rintro m3 ρ3 ds3 w3 ⟨i, a9, c9, cs, rfl, rfl, hl3, hi, hoc, hO, hU3⟩
 obtain ⟨ρ3x, rfl⟩ : ∃ ρx, ρ3 = upds ρx [(1, .pointer (some ⟨B1, 0, none⟩)), (4, .slice a2 (2 ^ lg.toNat) c2), (6, .slice a9 i c9), (7, .int .i64 i)] := ⟨_, ZD hl3⟩
 replace HU := (HU.Zb hU1).Zb hU2
 replace hs := hs.Zc hU2
 replace hb1 := hb1.Zc hU2
 clear hl3
 have:=hU3.size
 have HL3 := hU3
 refine Sm (Qs 2 rfl (Zf (ZM underlying51 rfl) (Qs 1 rfl (Za ?_))))
 replace hO := hO.tight
 by_cases q1 : (i : Int) < ((2 ^ lg.toNat : Nat) : Int)
 ·have hn0 := hal i (by omega)
  have hoi := hok i (by omega) hn0
  have hrn := hM.rg (ys2.getD i 0).toNat (by omega)
  have hs1 := stt_1 hrn.1 hoi.2
  have hst1 := hM.st1 (i := (ys2.getD i 0).toNat) (by omega)
  rw [decide_eq_true q1]
  refine Ct (Zi (Zz (Zs (Sn (Qs 1 rfl (Za (Sm (Qs 1 rfl (Za (Zs (ZS (fun mu ρ ds w' => ∃ (j : Nat) (k : Nat), i - j = mu ∧ ds = [] ∧ Liv ρ [(1, .pointer (some ⟨B1, 0, none⟩)), (4, .slice a2 (2 ^ lg.toNat) c2), (6, .slice a9 i c9), (7, .int .i64 i), (8, .int .i64 k), (9, .int .i64 j)] ∧ j ≤ i ∧ k ≤ j ∧ Upd No w3 w') _ ⟨0, 0, rfl, rfl, ⟨rfl, rfl, rfl, rfl, rfl, (by first | rfl | exact Zt (by omega) | exact Zt (by simp)), trivial⟩, (by omega), (by omega), Upd.refl _ _⟩ ?_)))))))))))
  rintro m4 ρ4 ds4 w4 ⟨j, k, rfl, rfl, hl4, hj, hkj, hU4⟩
  obtain ⟨ρ4x, rfl⟩ : ∃ ρx, ρ4 = upds ρx [(1, .pointer (some ⟨B1, 0, none⟩)), (4, .slice a2 (2 ^ lg.toNat) c2), (6, .slice a9 i c9), (7, .int .i64 i), (8, .int .i64 k), (9, .int .i64 j)] := ⟨_, ZD hl4⟩
  replace hs := hs.upd hU3
  replace HU := HU.trans hU3
  replace hb1 := hb1.upd hU3
  replace hO2 := hO2.upd hU3
  clear hl4
  have:=hU4.size
  have HL4 := hU4
  refine Sm (Qs 3 rfl (Za ?_))
  replace hO2 := hO2.Zc hU4
  refine W_if rfl (fun q2 => ?_) fun q2 => ?_
  ·refine Zi (Zz (Zs (Zz (ZJ rfl (l0 := tf 0 9) (by kernel_rfl) (Tq rfl (Tq rfl ?_))))))
   obtain ⟨ib5, io5, ha5, hib5, hc5⟩ := (hO2.sl).iat (i := j) (by omega)
   replace hib5 : ((w1.heap.size ≤ ib5) ∧ ib5 < w2.heap.size) := hib5
   refine Tv rfl (fun _ _ => Yl (b := ib5) (off := io5) (m := 2 ^ lg.toNat) (c := c2) (o' := io5 + j) underlying51 sizeOf3 (by rw [← ha5]; rfl) rfl (by omega) (by omega) (by omega)) (Tv rfl (v := .int .i64 (ys2.getD j 0)) (fun w' hw' => Yd isAgg3 rfl (hw'.Y8 hc5)) (Tq rfl (Tq rfl ?_)))
   obtain ⟨ib6, io6, ha6, hib6, hc6⟩ := (hO2.sl).iat (i := i) (by omega)
   replace hib6 : ((w1.heap.size ≤ ib6) ∧ ib6 < w2.heap.size) := hib6
   refine Tv rfl (fun _ _ => Yl (b := ib6) (off := io6) (m := 2 ^ lg.toNat) (c := c2) (o' := io6 + i) underlying51 sizeOf3 (by rw [← ha6]; rfl) rfl (by omega) (by omega) (by omega)) (Tv rfl (v := .int .i64 (ys2.getD i 0)) (fun w' hw' => Yd isAgg3 rfl (hw'.Y8 hc6)) (Tq rfl ?_))
   intro w7 hU7
   have:=hU7.size
   replace hc5 := ZG hU7 hc5
   replace hc6 := ZG hU7 hc6
   refine Wd ?_
   replace HL4 := HL4.Zb hU7
   refine W_if rfl (fun q3 => ?_) fun q3 => ?_
   ·refine Zl (Qs 1 rfl (Xd rfl rfl (Qs 1 rfl (Za (Zl (Qs 1 rfl (Xd rfl rfl (Qs 1 rfl (Za ?_)))))))))
    refine ⟨_, ?_, (j + 1), (k + 1), rfl, rfl, ⟨rfl, rfl, rfl, rfl, Zt, Zt, trivial⟩, (by omega), (by omega), HL4⟩
    omega
   refine Zi (Zl (Qs 1 rfl (Xd rfl rfl (Qs 1 rfl (Za ?_)))))
   refine ⟨_, ?_, (j + 1), k, rfl, rfl, ⟨rfl, rfl, rfl, rfl, Zt, Zt, trivial⟩, (by omega), (by omega), HL4⟩
   omega
  refine ZI (Zz (ZJ rfl (l0 := tf 0 12) (by kernel_rfl) (Tv rfl (fun _ _ => Zo underlying53 rfl sizeOf51 rfl rfl) ?_)))
  replace hb1 := hb1.Zc hU4
  refine Tl rfl isAgg51 rfl hb1 rfl (Tq rfl (Tq rfl ?_))
  obtain ⟨ib8, io8, ha8, hib8, hc8⟩ := (hO2.sl).iat (i := i) (by omega)
  replace hib8 : ((w1.heap.size ≤ ib8) ∧ ib8 < w2.heap.size) := hib8
  refine Tv rfl (fun _ _ => Yl (b := ib8) (off := io8) (m := 2 ^ lg.toNat) (c := c2) (o' := io8 + i) underlying51 sizeOf3 (by rw [← ha8]; rfl) rfl (by omega) (by omega) (by omega)) (Tv rfl (v := .int .i64 (ys2.getD i 0)) (fun w' hw' => Yd isAgg3 rfl (hw'.Y8 hc8)) ?_)
  obtain ⟨ib9, io9, ha9, hib9, hc9⟩ := ((hs.Zc hU4)).iat (i := (ys2.getD i 0).toNat) (by omega)
  replace hib9 : ib9 < w.heap.size := hib9
  refine Tv rfl (fun _ _ => Yl (b := ib9) (off := io9) (m := n) (c := c) (o' := io9 + (ys2.getD i 0).toNat) underlying51 sizeOf3 (by rw [← ha9]; rfl) rfl (by omega) (by omega) (by omega)) (Tv rfl (v := .int .i64 (N.getD (ys2.getD i 0).toNat 0)) (fun w' hw' => Yd isAgg3 rfl (hw'.Y8 hc9)) (Tk 8 (tf 9 12) rfl (YI_c (v := .int .i64 (stt (N.getD (ys2.getD i 0).toNat 0))) rfl (fun w' => Zv rfl call52 rfl) (fun w' hw' => wstates w' )) (Tq rfl (Tv rfl (fun _ _ => Yf rfl rfl ZY) ?_))))
  obtain ⟨x, hx⟩ : ∃ x : Nat, (x : Int) = (stt (N.getD (ys2.getD i 0).toNat 0)) + (k : Int) := ⟨((stt (N.getD (ys2.getD i 0).toNat 0)) + (k : Int)).toNat, by omega⟩
  rw [show ((stt (N.getD (ys2.getD i 0).toNat 0)) + (k : Int) : Int) = (x : Int) from hx.symm]
  have hx9 : x < 1024 := by omega
  refine Tq rfl ?_
  intro w10 hU10
  have:=hU10.size
  replace hc8 := ZG hU10 hc8
  replace hc9 := ZG hU10 hc9
  refine Wd (Sn (Zf (Zo underlying53 rfl sizeOf3 rfl rfl) (Zk isAgg3 rfl (hb1.Zc hU10) rfl (Qs 1 rfl (Za (Sm (Qs 2 rfl (Za (Zs (ZS (fun mu ρ ds w' => ∃ (q : Nat) (y : Nat), y = mu ∧ ds = [] ∧ Liv ρ [(1, .pointer (some ⟨B1, 0, none⟩)), (4, .slice a2 (2 ^ lg.toNat) c2), (6, .slice a9 i c9), (7, .int .i64 i), (10, .int .i64 x), (11, .int .i64 (lg - (q : Int))), (12, .int .i64 y)] ∧ x / 2 ^ q = y ∧ 2 ^ q ≤ x ∧ 1 ≤ y ∧ q ≤ 600 ∧ y ≤ x ∧ Upd No w10 w') _ ⟨0, x, rfl, rfl, ⟨rfl, rfl, rfl, rfl, rfl, Zt, (by first | rfl | exact Zt (by omega) | exact Zt (by simp)), trivial⟩, (by simp), (by rw [Nat.pow_zero]; omega), (by omega), (by omega), (by omega), Upd.refl _ _⟩ ?_))))))))))
  rintro m11 ρ11 ds11 w11 ⟨q, y, rfl, rfl, hl11, hy, hqx, hy1, hq6, hyx, hU11⟩
  obtain ⟨ρ11x, rfl⟩ : ∃ ρx, ρ11 = upds ρx [(1, .pointer (some ⟨B1, 0, none⟩)), (4, .slice a2 (2 ^ lg.toNat) c2), (6, .slice a9 i c9), (7, .int .i64 i), (10, .int .i64 x), (11, .int .i64 (lg - (q : Int))), (12, .int .i64 y)] := ⟨_, ZD hl11⟩
  replace hO := (hO.Zc hU4).Zc hU10
  replace HL3 := (HL3.Zb hU4).Zb hU10
  replace hO2 := hO2.Zc hU10
  clear hl11
  have:=hU11.size
  replace hc8 := ZG hU11 hc8
  replace hc9 := ZG hU11 hc9
  have HL11 := hU11
  refine Sm (Qs 2 rfl (Za ?_))
  by_cases q4 : 1 < (y : Int)
  ·rw [decide_eq_true q4]
   refine Ct (Zi (Zz (Zs (Zl (Qs 1 rfl (Xs rfl rfl (Qs 1 rfl (Za (Zl (Qs 1 rfl (Zf (YT rfl rfl (by omega) (tq (by omega) ZY)) (Qs 1 rfl (Za ?_)))))))))))))
   have hq2 := (Nat.le_div_iff_mul_le (Nat.two_pow_pos q)).1 (show 2 ≤ x / 2 ^ q from by omega)
   have hq3 : 2 ^ (q + 1) ≤ x := by rw [p2s]; exact hq2
   have hq4 : q + 1 ≤ 600 := by
    rcases Nat.lt_or_ge (q + 1) 12 with h | h
    ·omega
    have := p2le h; omega
   refine ⟨_, ?_, (q + 1), (y / 2), rfl, rfl, ⟨rfl, rfl, rfl, rfl, rfl, Zt, Zt, trivial⟩, (by rw [Nat.pow_succ, ← Nat.div_div_eq_div_mul, hy]), hq3, (by omega), hq4, (by omega), HL11⟩
   omega
  have hx2 : x < 2 ^ (q + 1) := by rw [p2s]; exact (Nat.div_lt_iff_lt_mul (Nat.two_pow_pos q)).1 (by omega)
  have hci := cell_in (lg := lg.toNat) hqx hx2 (by omega)
  have hp0 := Nat.two_pow_pos (lg.toNat - q)
  rw [decide_eq_false q4]
  refine Cf (ZI (ZJ rfl (l0 := tf 0 17) (by kernel_rfl) (Tq rfl (Tq rfl (Tq rfl ?_)))))
  obtain ⟨ib12, io12, ha12, hib12, hc12⟩ := ((hO2.Zc hU11).sl).iat (i := i) (by omega)
  replace hib12 : ((w1.heap.size ≤ ib12) ∧ ib12 < w2.heap.size) := hib12
  refine Tv rfl (fun _ _ => Yl (b := ib12) (off := io12) (m := 2 ^ lg.toNat) (c := c2) (o' := io12 + i) underlying51 sizeOf3 (by rw [← ha12]; rfl) rfl (by omega) (by omega) (by omega)) (Tv rfl (v := .int .i64 (ys2.getD i 0)) (fun w' hw' => Yd isAgg3 rfl (hw'.Y8 hc12)) (Tq rfl (Tq rfl (Tq rfl (Tk 10 (#[true, true, true, true, true, true, true, true, false, false, true, false, false, false, false, false, false]) rfl (YI_v (v := .slice a2 (2 ^ lg.toNat) c2) rfl (fun w' hw' => r_mv (v := .slice a2 (2 ^ lg.toNat) c2) rfl)) (Tk 11 (#[true, true, true, true, true, true, true, true, false, false, true, true, false, false, false, false, false]) rfl (YI_v (v := .int .i64 ((2 ^ lg.toNat : Nat) : Int)) rfl (fun w' hw' => ZM underlying51 rfl)) ?_))))))
  intro w13 hU13
  have:=hU13.size
  replace hc8 := ZG hU13 hc8
  replace hc9 := ZG hU13 hc9
  replace hc12 := ZG hU13 hc12
  refine Wo 8 (#[true, true, true, true, true, true, true, true, true, false, true, true, false, false, false, false, false]) rfl ?_
  have hW : Upd No w11 w13 := hU13
  refine Zj (Zv rfl call53 (v0 := .int .i64 ((lg.toNat - q : Nat) : Int)) Zt) (wsize _ (by omega)) ?_
  rintro v w14 ⟨rfl, hU14⟩
  have:=hU14.size
  replace hc8 := ZG hU14 hc8
  replace hc9 := ZG hU14 hc9
  replace hc12 := ZG hU14 hc12
  try replace hW := hW.Zb hU14
  refine Za ?_
  intro w15 hS15
  have hX : Upd No w11 w15 := hW.Zb hS15.upd
  refine bF hX ?_
  have hU15 := hS15.upd
  have:=hU15.size
  replace hc8 := ZG hU15 hc8
  replace hc9 := ZG hU15 hc9
  replace hc12 := ZG hU15 hc12
  try replace hW := hW.Zb hU15
  refine ZQ hX (Tk 9 (tf 12 17) rfl (YI_v (v := .int .i64 ((x : Int) * ((2 ^ (lg.toNat - q) : Nat) : Int))) rfl (fun w' hw' => YM rfl rfl ZY)) (Tv rfl (fun _ _ => Y7 rfl rfl ZY) (Tv rfl (v := .agg #[.int .i64 (ys2.getD i 0), .int .i64 (lg - (q : Int)), .int .i64 (((x : Int) * ((2 ^ (lg.toNat - q) : Nat) : Int)) - ((2 ^ lg.toNat : Nat) : Int))]) (fun _ _ => ZF (pl := #[(0, 1), (1, 1), (2, 1)]) (pv := [(0, .int .i64 (ys2.getD i 0)), (1, .int .i64 (lg - (q : Int))), (2, .int .i64 (((x : Int) * ((2 ^ (lg.toNat - q) : Nat) : Int)) - ((2 ^ lg.toNat : Nat) : Int)))]) (cs := #[.int .i64 (ys2.getD i 0), .int .i64 (lg - (q : Int)), .int .i64 (((x : Int) * ((2 ^ (lg.toNat - q) : Nat) : Int)) - ((2 ^ lg.toNat : Nat) : Int))]) zeroValue257 underlying257 (fun w => by kernel_rfl)) ?_)))
  intro w16 hU16
  have:=hU16.size
  replace hc8 := ZG hU16 hc8
  replace hc9 := ZG hU16 hc9
  replace hc12 := ZG hU16 hc12
  try replace hW := hW.Zb hU16
  refine Wo 14 (tf 15 17) rfl ?_
  have hW : Upd No w15 w16 := hU16
  refine Xz [.int .i64 (ys2.getD i 0), .int .i64 (lg - (q : Int)), .int .i64 (((x : Int) * ((2 ^ (lg.toNat - q) : Nat) : Int)) - ((2 ^ lg.toNat : Nat) : Int))] underlying227 sizeOf257 zeroValue257 ?_
  intro B17 w17 hB17 hU17 hzz17 hs17
  replace hc8 := ZG hU17 hc8
  replace hc9 := ZG hU17 hc9
  replace hc12 := ZG hU17 hc12
  try replace hW := hW.Zb hU17
  replace hs17 : Own w17 (Is B17) 257 3 (.slice (some ⟨B17, 0, none⟩) 1 1) 1 (rows encQ [(ys2.getD i 0, lg - (q : Int), ((x : Int) * ((2 ^ (lg.toNat - q) : Nat) : Int)) - ((2 ^ lg.toNat : Nat) : Int))]) := hs17
  refine Za ?_
  intro w18 hS18
  have hX : Upd No w15 w18 := hW.Zb hS18.upd
  refine bF hX ?_
  have hU18 := hS18.upd
  have:=hU18.size
  replace hc8 := ZG hU18 hc8
  replace hc9 := ZG hU18 hc9
  replace hc12 := ZG hU18 hc12
  try replace hW := hW.Zb hU18
  refine ZQ hX ?_
  intro w19 hU19
  have:=hU19.size
  replace hc8 := ZG hU19 hc8
  replace hc9 := ZG hU19 hc9
  replace hc12 := ZG hU19 hc12
  try replace hW := hW.Zb hU19
  refine Wo 15 (tf 16 17) rfl ?_
  have hW : Upd No w18 w19 := hU19
  replace hO := (((((((hO.Zc hU11).Zc hU13).Zc hU14).Zc hU15).Zc hU16).Zc hU17).Zc hU18).Zc hU19
  refine Ye (cs3 := rows encQ (cs ++ [(ys2.getD i 0, lg - (q : Int), ((x : Int) * ((2 ^ (lg.toNat - q) : Nat) : Int)) - ((2 ^ lg.toNat : Nat) : Int))])) (tot := i + 1) (by first | rfl | exact (ZR _ _).symm | simp) underlying227 (ti := Tryz.t257) (z := .agg #[.int .i64 0, .int .i64 0, .int .i64 0]) (sz := 3) (by' := 24) rfl rfl rfl rfl rfl (by decide) rfl hO rfl ((hs17.Zc hU18).Zc hU19).sl (Yn encQ_one _) (by omega) (by simp only [maxLen]; omega) (by omega) ?_
  intro a20 c20 w20 hU20 hzz20 hO20
  replace HL3 := (((((((HL3.Zb hU11).Zb hU13).Zb hU14).Zb hU15).Zb hU16).Zb hU17).Zb hU18).Zb hU19
  clear hO
  have:=hU20.size
  replace hO20 := hO20.tight
  have hl_hO20 := Ya ZP (by decide) hO20.sl
  have hc_hO20 := hO20.sl.cap.1
  refine Za ?_
  intro w21 hS21
  refine bT (Upd No w21) ?_
  have hU21 := hS21.upd
  have:=hU21.size
  try replace hW := hW.Zb hU21
  refine ZQ (Upd.refl _ _) (Tq rfl ?_)
  intro w22 hU22
  have:=hU22.size
  try replace hW := hW.Zb hU22
  refine Wd (Zl (Qs 1 rfl (Xd rfl rfl (Qs 1 rfl (Za ?_)))))
  refine ⟨_, ?_, (i + 1), a20, c20, (cs ++ [(ys2.getD i 0, lg - (q : Int), ((x : Int) * ((2 ^ (lg.toNat - q) : Nat) : Int)) - ((2 ^ lg.toNat : Nat) : Int))]), rfl, rfl, ⟨rfl, rfl, rfl, Zt, trivial⟩, (by omega), (okC_snoc hoc ⟨⟨by omega, by omega⟩, ⟨by dsimp only; omega, by dsimp only; omega⟩, by dsimp only; omega, by dsimp only; rw [show (lg - (q : Int)).toNat = lg.toNat - q from by omega]; omega⟩), (((hO20.Zc hU21).Zc hU22).weak), (((HL3.trans hU20).Zb hU21).Zb hU22)⟩
  omega
 rw [decide_eq_false q1]
 refine Cf (ZI (Sn (Qs 3 rfl (Za (Zn (Zg rfl (Z2 results134 rfl rfl) ?_))))))
 replace hs := hs.upd hU3
 replace HU := HU.trans hU3
 replace hb1 := hb1.upd hU3
 replace hO2 := hO2.upd hU3
 obtain rfl : i = 2 ^ lg.toNat := by omega
 exact ⟨_, rfl, a9, c9, cs, rfl, hO.weak, hoc, HU⟩
end Go.Proofs.YtbjjhfoeckkacaaGreatDoor
