/-
  Several texts of this project, put together.
-/
import Derived.Test.YtbjjhfoeckkacaaGreatDoorFZ
import Derived.Test.YtbjjhfoeckkacaaGreatDoorDM
import Derived.Test.YtbjjhfoeckkacaaGreatDoorDA
set_option linter.unusedVariables false
set_option linter.unusedSimpArgs false
set_option maxRecDepth 100000
set_option maxHeartbeats 16000000
namespace Go.Proofs.YtbjjhfoeckkacaaGreatDoor
open Go.Fw _root_.Go.Proofs.Tryz
theorem wnum {a : Option Addr} {n c p : Nat} {b : List Int} {k : Nat} (w : World) (hs : Sl w (fun g => g < w.heap.size) 1 (.slice a n c) n (ints .u8 b)) (hb : Byt b) (hp : p ≤ n) (hn : n ≤ 1000000) (hk : k ≤ 1000000) : Calls Tryz.prog 121 #[.slice a n c, .int .i64 p, .int .i64 k] w (Ret fun v w' => ∃ (x9 : Nat) (q9 : Nat) (e : Int), v = .tuple #[.int .i64 x9, .int .i64 q9, .int .i64 e] ∧ x9 ≤ k ∧ p ≤ q9 ∧ q9 ≤ n ∧ Upd No w w') := by
 have hl := ZC hs
 refine (rnumber_spec (most := (k : Int)) w hs hb hp (by omega) ⟨by omega, by omega⟩).mono fun e w' h => ?_
 obtain ⟨v, he, rfl, hU⟩ := h
 have hB := gnum_b (bs := b) (p := p) (most := (k : Int)) (by omega) (by omega)
 exact ⟨_, he, (gnum b p (k : Int)).1.toNat, _, _, by rw [Int.toNat_of_nonneg hB.1], by omega, hB.2.2.1, by omega, hU⟩
theorem wvar {a : Option Addr} {n c p : Nat} {b : List Int} (w : World) (hs : Sl w (fun g => g < w.heap.size) 1 (.slice a n c) n (ints .u8 b)) (hb : Byt b) (hp : p ≤ n) (hn : n ≤ 1000000) : Calls Tryz.prog 55 #[.slice a n c, .int .i64 p] w (Ret fun v w' => ∃ (x9 : Nat) (q9 : Nat) (e : Int), v = .tuple #[.int .u64 x9, .int .i64 q9, .int .i64 e] ∧ x9 ≤ 4611686018427387903 ∧ p ≤ q9 ∧ q9 ≤ n ∧ Upd No w w') := by
 have hl := ZC hs
 refine (rget_spec w hs hb hp (by omega)).mono fun e w' h => ?_
 obtain ⟨v, he, rfl, hU⟩ := h
 have hB := Yw b p (by omega)
 exact ⟨_, he, (ZN b p).1.toNat, _, _, by rw [Int.toNat_of_nonneg hB.1], by omega, hB.2.2.2.1, by omega, hU⟩
theorem wbys {a : Option Addr} {n c p : Nat} {b : List Int} {k : Int} {R : Nat → Prop} (w : World) (hs : Sl w R 1 (.slice a n c) n (ints .u8 b)) (hb : Byt b) (hp : p ≤ n) (hn : n ≤ 1000000) : Calls Tryz.prog 29 #[.slice a n c, .int .i64 p, .int .i64 k] w (Ret fun v w' => ∃ (a' : Option Addr) (m' : Nat) (c' : Nat) (z : List Int) (q9 : Nat) (e : Int), v = .tuple #[.slice a' m' c', .int .i64 q9, .int .i64 e] ∧ Sl w' R 1 (.slice a' m' c') m' (ints .u8 z) ∧ Byt z ∧ m' ≤ n ∧ p ≤ q9 ∧ q9 ≤ n ∧ (e = 0 → ((m' : Nat) : Int) = k) ∧ Upd No w w') := by
 have hl := ZC hs
 refine (rbytes_spec (k := k) w hs hb hp (by omega)).mono fun e w' h => ?_
 obtain ⟨v, he, a', m', c', rfl, hS, hm, hU⟩ := h
 have hB := gbytes_b (bs := b) (p := p) (k := k) (by omega)
 have h2 := gbytes_len2 (bs := b) (p := p) (k := k)
 exact ⟨_, he, a', m', c', _, _, _, rfl, hS, gbytes_byt hb, by omega, hB.1, by omega, (fun h => by rw [← hm]; exact hB.2.2 h), hU⟩
theorem wflow {lg : Int} {a : Option Addr} {n c : Nat} {N : List Int} {a2 : Option Addr} {m c2 k : Nat} {b : List Int} (w : World) (hs : Sl w (fun g => g < w.heap.size) 1 (.slice a n c) n (ints .i64 N)) (hM : MayP lg N 256 9) (hs2 : Sl w (fun g => g < w.heap.size) 1 (.slice a2 m c2) m (ints .u8 b)) (hb : Byt b) (hm : m ≤ 1000000) (hk : k ≤ 131072) :
  Calls Tryz.prog 143 #[.agg #[.int .i64 lg, .slice a n c], .slice a2 m c2, .int .i64 k] w (Ret fun v w' => ∃ (a' : Option Addr) (m' : Nat) (c' : Nat) (xs : List Int) (e : Int), v = .tuple #[.slice a' m' c', .int .i64 e] ∧ Own w' (fun g => w.heap.size ≤ g) 3 1 (.slice a' m' c') m' (ints .i64 xs) ∧ m' ≤ 131072 ∧ Upd No w w') := by
 have HU := Upd.Yo w
 have hl_hs := ZC hs
 have hc_hs := hs.cap.1
 have hl_hs2 := ZC hs2
 have hc_hs2 := hs2.cap.1
 have m0 := hM.l0
 have m9 := hM.l9
 have msz := hM.sz
 refine Zq func143 rfl ntmps143 (by simp) (Sn (Xb rfl ?_))
 intro B1 w1 hB1 hU1 hzz1 hb1
 refine Qs 2 rfl (Za (Sn (Xl isAgg53 sizeOf53 rfl hb1 rfl (Zj (Zv rfl call134 rfl) (wcells _ (hs.Zc hU1).any (by have := hM.ns; omega) hM) ?_))))
 rintro v w2 ⟨a2x, c2x, cs2, rfl, hO2, hoc_2, hU2⟩
 have:=hU2.size
 replace hO2 := hO2.tight
 have hl_hO2 := Ya ZP (by decide) hO2.sl
 have hc_hO2 := hO2.sl.cap.1
 have hoc := hoc_2
 refine Qs 5 rfl (Za (Sm (Qs 1 rfl (Zf (v := .bool false) (Yh (a := 0) (b := 0) rfl rfl) (Za (Cf (Zi (Sm (Qs 3 rfl ?_)))))))))
 have q1 : ¬ ((k : Int) < 0) := (by omega)
 rw [decide_eq_false q1]
 refine Gt (Qs 1 rfl (Gt (Qs 1 rfl (Zf (Zw (v := .bool (decide (131072 < (k : Int)))) rfl rfl) (Za ?_)))))
 have q2 : ¬ (131072 < (k : Int)) := (by omega)
 rw [decide_eq_false q2]
 refine Cf (Zi (Sn (Qs 1 rfl ?_)))
 replace hs2 := (hs2.Zc hU1).Zc hU2
 replace HU := (HU.Zb hU1).Zb hU2
 by_cases q3 : 0 < m ∧ b.getD (m - 1) 0 ≠ 0
 ·refine Zj (Zv rfl call133 rfl) (wbwd_ok _ hs2.any hb (by omega) q3) ?_
  rintro v w3 ⟨rr3, hi3, qn3, rfl, hR3, hq_3, hU3⟩
  have:=hU3.size
  have hrl := hR3.lt
  have hrh := hR3.le
  refine Qs 5 rfl (Za (Sm (Qs 1 rfl (Zf (v := .bool false) (Yh (a := 0) (b := 0) rfl rfl) (Za (Cf (Zi (Sn (Qs 2 rfl (Za (Sm (Qs 2 rfl (Za ?_)))))))))))))
  replace hb1 := (hb1.Zc hU2).Zc hU3
  replace HU := HU.Zb hU3
  replace hO2 := hO2.Zc hU3
  refine W_if rfl (fun q4 => ?_) fun q4 => ?_
  ·refine Zl (Qs 1 rfl (Zf (Zo underlying53 rfl sizeOf3 rfl rfl) (Zk isAgg3 rfl hb1 rfl ?_)))
   by_cases q5 : lg.toNat ≤ qn3
   ·refine Zj (Zy rfl call135 (v1 := .int .i64 ((lg.toNat : Nat) : Int)) rfl Zt) (YA _ hR3 (by omega) (by omega) q5) ?_
    rintro v w4 ⟨z4, rfl, hR4, hv_4, hU4⟩
    have:=hU4.size
    have hz4 := hv_4
    refine Qs 5 rfl (Za (Sm (Qs 3 rfl ?_)))
    replace HU := HU.t1 hU4
    replace hO2 := hO2.Zh hU4
    by_cases q6 : 1 < (k : Int)
    ·rw [decide_eq_true q6]
     refine Gt (Qs 1 rfl (Gt (Zf (v := .bool true) (YK (a := 0) (b := 0) rfl rfl) (Zf (Zx (v := .bool true) rfl rfl) (Za (Ct (Zl (Qs 1 rfl (Zf (Zo underlying53 rfl sizeOf3 rfl rfl) (Zk isAgg3 rfl (hb1.Zh hU4) rfl ?_))))))))))
     by_cases q7 : lg.toNat ≤ (qn3 - lg.toNat)
     ·refine Zj (Zy rfl call135 (v1 := .int .i64 ((lg.toNat : Nat) : Int)) rfl Zt) (YA _ hR4 (by omega) (by omega) q7) ?_
      rintro v w5 ⟨z5, rfl, hR5, hv_5, hU5⟩
      have:=hU5.size
      have hz5 := hv_5
      refine Qs 5 rfl (Za (Sm (Qs 1 rfl (Zf (v := .bool false) (Yh (a := 0) (b := 0) rfl rfl) (Za (Cf (Zi (Sn (Qs 1 rfl (Zf (ZZ underlying101 underlying3 rfl ZY) (Qs 1 rfl (Zf (ZZ underlying101 underlying3 rfl ZY) (Qs 2 rfl (Za (Sn (Qs 1 rfl (Za (Sm (Qs 1 rfl (Za (Zs (ZS (fun mu ρ ds w' => ∃ (i : Nat) (u0 : Nat) (u1 : Nat) (n9 : Nat) (rd9 : Nat) (xs : List Int) (a9 : Option Addr) (c9 : Nat), k - i = mu ∧ ds = [] ∧ Liv ρ [(2, .int .i64 k), (8, .slice a2x (2 ^ lg.toNat) c2x), (10, .pointer (some ⟨rr3, 0, none⟩)), (14, .int .i64 u0), (15, .int .i64 u1), (16, .slice a9 i c9), (17, .int .i64 i)] ∧ i ≤ k ∧ (u0 < 2 ^ lg.toNat ∧ u1 < 2 ^ lg.toNat) ∧ n9 + rd9 ≤ 100000000 ∧ Rd w' rr3 w2.heap.size hi3 n9 rd9 ∧ Own w' (fun g => w5.heap.size ≤ g) 3 1 (.slice a9 i c9) i (ints .i64 xs) ∧ Upd (fun g => g = rr3 ∨ w5.heap.size ≤ g) w5 w') _ ⟨0, z4, z5, ((qn3 - lg.toNat) - lg.toNat), ((0 + lg.toNat) + lg.toNat), [], none, 0, rfl, rfl, ⟨rfl, rfl, rfl, rfl, rfl, (by first | rfl | exact Zt (by omega) | exact Zt (by simp)), (by first | rfl | exact Zt (by omega) | exact Zt (by simp)), trivial⟩, (by omega), ⟨by omega, by omega⟩, (by omega), hR5, (by exact Own.nil _ _ _ _), Upd.refl _ _⟩ ?_))))))))))))))))))))))
      rintro m6 ρ6 ds6 w6 ⟨i, u0, u1, n9, rd9, xs, a9, c9, rfl, rfl, hl6, hi, hu, hnr, hR5, hO, hU6⟩
      obtain ⟨ρ6x, rfl⟩ : ∃ ρx, ρ6 = upds ρx [(2, .int .i64 k), (8, .slice a2x (2 ^ lg.toNat) c2x), (10, .pointer (some ⟨rr3, 0, none⟩)), (14, .int .i64 u0), (15, .int .i64 u1), (16, .slice a9 i c9), (17, .int .i64 i)] := ⟨_, ZD hl6⟩
      replace HU := HU.t1 hU5
      replace hO2 := hO2.Zh hU5
      clear hl6
      have:=hU6.size
      replace hO := hO.tight
      have hl_hO := ZC hO.sl
      have hc_hO := hO.sl.cap.1
      have hrl := hR5.lt
      have hrh := hR5.le
      have hok := hoc u0 (by omega)
      have hok1 := hok.1
      have hok2 := hok.2.1
      have hok3 := hok.2.2
      have HL6 := hU6
      refine Sm (Qs 3 rfl (Za ?_))
      replace HU := HU.trans hU6
      refine W_if rfl (fun q8 => ?_) fun q8 => ?_
      ·refine Zi (Zz (Zs (Sn (Qs 3 rfl ?_))))
       replace hO2 := hO2.upd hU6
       refine Yg (0, 0, 0) ZP (by decide) underlying227 sizeOf257 rfl rfl hO2.sl (by omega) (by omega) ?_
       intro ib7 io7 hc7
       try rw [Int.toNat_natCast] at hc7
       refine Zf (Zo underlying257 rfl sizeOf3 rfl rfl) (ZH (v := .int .i64 ((cs2.getD u0 (0, 0, 0)).1)) isAgg3 rfl (hc7 0 (by decide)) (Xz [.int .i64 ((cs2.getD u0 (0, 0, 0)).1)] underlying51 sizeOf3 zeroValue3 ?_))
       intro B8 w8 hB8 hU8 hzz8 hs8
       replace hs8 : Own w8 (Is B8) 3 1 (.slice (some ⟨B8, 0, none⟩) 1 1) 1 (ints .i64 [(cs2.getD u0 (0, 0, 0)).1]) := hs8
       replace hO := hO.Zc hU8
       refine Z1 (xs := xs) (ys := [(cs2.getD u0 (0, 0, 0)).1]) (zs := xs ++ [(cs2.getD u0 (0, 0, 0)).1]) (k' := .i64) (tot := i + 1) (by first | rfl | exact (ZR _ _).symm | simp) underlying51 (ti := Tryz.t3) (z := .int .i64 0) (sz := 1) (by' := 8) rfl rfl rfl rfl rfl (by decide) rfl hO rfl hs8.sl  (by omega) (by simp only [maxLen]; omega) (by omega) ?_
       intro a9 c9 w9 hU9 hzz9 hO9
       replace HU := HU.Zb hU8
       replace hO2 := hO2.Zc hU8
       replace hR5 := hR5.Zc hU8
       replace HL6 := HL6.Zb hU8
       clear hO
       have:=hU9.size
       replace hO9 := hO9.tight
       have hl_hO9 := ZC hO9.sl
       have hc_hO9 := hO9.sl.cap.1
       refine Qs 1 rfl (Za (Sm (Qs 1 rfl (Xd rfl rfl (Qs 2 rfl (Za ?_))))))
       replace hR5 := hR5.upd hU9
       replace HL6 := HL6.trans hU9
       refine W_if rfl (fun q9 => ?_) fun q9 => ?_
       ·refine Sn (Qs 3 rfl ?_)
        replace hO2 := hO2.upd hU9
        refine Yg (0, 0, 0) ZP (by decide) underlying227 sizeOf257 rfl rfl hO2.sl (by omega) (by omega) ?_
        intro ib10 io10 hc10
        try rw [Int.toNat_natCast] at hc10
        refine Zf (Zo underlying257 rfl sizeOf3 rfl rfl) (ZH (v := .int .i64 ((cs2.getD u0 (0, 0, 0)).2.1)) isAgg3 rfl (hc10 1 (by decide)) ?_)
        by_cases q10 : (cs2.getD u0 (0, 0, 0)).2.1.toNat ≤ n9
        ·refine Zj (Zy rfl call135 (v1 := .int .i64 (((cs2.getD u0 (0, 0, 0)).2.1.toNat : Nat) : Int)) rfl Zt) (YA _ hR5 (by omega) (by omega) q10) ?_
         rintro v w11 ⟨z11, rfl, hR11, hv_11, hU11⟩
         have:=hU11.size
         have hz9 := hv_11
         have hp9 := p2le (j := (cs2.getD u0 (0, 0, 0)).2.1.toNat) (k := 9) (by omega)
         obtain ⟨s9, hs9⟩ : ∃ s9 : Nat, s9 = (cs2.getD u0 (0, 0, 0)).2.2.toNat + z11 := ⟨_, rfl⟩
         refine Qs 5 rfl (Za (Sm (Qs 1 rfl (Zf (v := .bool false) (Yh (a := 0) (b := 0) rfl rfl) (Za (Cf (Zi (Zl (Qs 2 rfl (Yg (0, 0, 0) ZP (by decide) underlying227 sizeOf257 rfl rfl (hO2.Zh hU11).sl (by omega) (by omega) ?_))))))))))
         intro ib12 io12 hc12
         try rw [Int.toNat_natCast] at hc12
         refine Zf (Zo underlying257 rfl sizeOf3 rfl rfl) (ZH (v := .int .i64 ((cs2.getD u0 (0, 0, 0)).2.2)) isAgg3 rfl (hc12 2 (by decide)) (Qs 1 rfl (Zf (ZZ underlying101 underlying3 rfl ZY) (Xd rfl rfl (Qs 1 rfl (Za (Zl (Qs 4 rfl (Za (Zl (Qs 1 rfl (Xd rfl rfl (Qs 1 rfl (Za ?_))))))))))))))
         refine ⟨_, ?_, (i + 1), u1, s9, (n9 - ((cs2.getD u0 (0, 0, 0)).2.1.toNat)), (rd9 + ((cs2.getD u0 (0, 0, 0)).2.1.toNat)), (xs ++ [(cs2.getD u0 (0, 0, 0)).1]), a9, c9, rfl, rfl, ⟨rfl, rfl, rfl, rfl, Zt, rfl, Zt, trivial⟩, (by omega), ⟨by omega, by omega⟩, (by omega), hR11, ((hO9.Zh hU11).weak), (HL6.Zr hU11)⟩
         omega
        refine Zj (Zy rfl call135 (v1 := .int .i64 (((cs2.getD u0 (0, 0, 0)).2.1.toNat : Nat) : Int)) rfl Zt) (YB _ hR5 (by omega) q10) ?_
        rintro v w13 ⟨rfl, hR13, hU13⟩
        have:=hU13.size
        exact Qs 5 rfl (Za (Sm (Qs 1 rfl (Zf (v := .bool true) (Yh (a := 14) (b := 0) rfl rfl) (Za (Ct (Sn (Qs 3 rfl (Za (Zn (Zg rfl (Z2 results143 rfl rfl) ⟨_, rfl, none, 0, 0, [], 14, rfl, Own.nil _ _ _ _, (by omega), ((HU.trans hU9).Zb hU13)⟩)))))))))))
       refine Zi (Zl (Qs 4 rfl (Za (Zl (Qs 1 rfl (Xd rfl rfl (Qs 1 rfl (Za ?_))))))))
       refine ⟨_, ?_, (i + 1), u1, u0, n9, rd9, (xs ++ [(cs2.getD u0 (0, 0, 0)).1]), a9, c9, rfl, rfl, ⟨rfl, rfl, rfl, rfl, rfl, rfl, Zt, trivial⟩, (by omega), ⟨by omega, by omega⟩, (by omega), hR5, hO9.weak, HL6⟩
       omega
      refine ZI (Sm (Qs 1 rfl ?_))
      obtain ⟨hrl14, hrh14, ra14, rc14, rx14, hrB14, hrS14⟩ := hR5
      have hrz14 := hrB14.lt
      have hl_hrS14 := Ya Z4 (by decide) hrS14
      have hc_hrS14 := hrS14.cap.1
      refine Zf (Yj rfl) (Zf (Zo underlying240 rfl sizeOf238 rfl rfl) (Zk isAgg238 rfl hrB14 rfl (Zf (ZM underlying238 rfl) (Qs 1 rfl (Za (W_if rfl (fun q11 => ?_) fun q11 => ?_))))))
      ·exact Sn (Qs 2 rfl (Za (Zn (Zg rfl (Z2 results143 rfl rfl) ⟨_, rfl, none, 0, 0, [], 14, rfl, Own.nil _ _ _ _, (by omega), HU⟩))))
      exact Zi (Sn (Qs 3 rfl (Za (Zn (Zg rfl (Z2 results143 rfl rfl) ⟨_, rfl, a9, i, c9, xs, 0, rfl, hO.weak, (by omega), HU⟩)))))
     refine Zj (Zy rfl call135 (v1 := .int .i64 ((lg.toNat : Nat) : Int)) rfl Zt) (YB _ hR4 (by omega) q7) ?_
     rintro v w15 ⟨rfl, hR15, hU15⟩
     have:=hU15.size
     exact Qs 5 rfl (Za (Sm (Qs 1 rfl (Zf (v := .bool true) (Yh (a := 14) (b := 0) rfl rfl) (Za (Ct (Sn (Qs 3 rfl (Za (Zn (Zg rfl (Z2 results143 rfl rfl) ⟨_, rfl, none, 0, 0, [], 14, rfl, Own.nil _ _ _ _, (by omega), (HU.Zb hU15)⟩)))))))))))
    rw [decide_eq_false q6]
    refine Gf (Gf (Zf (Zw (v := .bool false) rfl rfl) (Za (Cf (Zi (Sm (Qs 1 rfl (Zf (v := .bool false) (Yh (a := 0) (b := 0) rfl rfl) (Za (Cf (Zi (Sn (Qs 1 rfl (Zf (ZZ underlying101 underlying3 rfl ZY) (Qs 1 rfl (Zf (ZZ underlying101 underlying3 rfl ZY) (Qs 2 rfl (Za (Sn (Qs 1 rfl (Za (Sm (Qs 1 rfl (Za (Zs (ZS (fun mu ρ ds w' => ∃ (i : Nat) (u0 : Nat) (u1 : Nat) (n9 : Nat) (rd9 : Nat) (xs : List Int) (a9 : Option Addr) (c9 : Nat), k - i = mu ∧ ds = [] ∧ Liv ρ [(2, .int .i64 k), (8, .slice a2x (2 ^ lg.toNat) c2x), (10, .pointer (some ⟨rr3, 0, none⟩)), (14, .int .i64 u0), (15, .int .i64 u1), (16, .slice a9 i c9), (17, .int .i64 i)] ∧ i ≤ k ∧ (u0 < 2 ^ lg.toNat ∧ u1 < 2 ^ lg.toNat) ∧ n9 + rd9 ≤ 100000000 ∧ Rd w' rr3 w2.heap.size hi3 n9 rd9 ∧ Own w' (fun g => w4.heap.size ≤ g) 3 1 (.slice a9 i c9) i (ints .i64 xs) ∧ Upd (fun g => g = rr3 ∨ w4.heap.size ≤ g) w4 w') _ ⟨0, z4, 0, (qn3 - lg.toNat), (0 + lg.toNat), [], none, 0, rfl, rfl, ⟨rfl, rfl, rfl, rfl, rfl, (by first | rfl | exact Zt (by omega) | exact Zt (by simp)), (by first | rfl | exact Zt (by omega) | exact Zt (by simp)), trivial⟩, (by omega), ⟨by omega, by omega⟩, (by omega), hR4, (by exact Own.nil _ _ _ _), Upd.refl _ _⟩ ?_))))))))))))))))))))))))))
    rintro m16 ρ16 ds16 w16 ⟨i, u0, u1, n9, rd9, xs, a9, c9, rfl, rfl, hl16, hi, hu, hnr, hR4, hO, hU16⟩
    obtain ⟨ρ16x, rfl⟩ : ∃ ρx, ρ16 = upds ρx [(2, .int .i64 k), (8, .slice a2x (2 ^ lg.toNat) c2x), (10, .pointer (some ⟨rr3, 0, none⟩)), (14, .int .i64 u0), (15, .int .i64 u1), (16, .slice a9 i c9), (17, .int .i64 i)] := ⟨_, ZD hl16⟩
    replace hb1 := hb1.Zh hU4
    clear hl16
    have:=hU16.size
    replace hO := hO.tight
    have hl_hO := ZC hO.sl
    have hc_hO := hO.sl.cap.1
    have hrl := hR4.lt
    have hrh := hR4.le
    have hok := hoc u0 (by omega)
    have hok1 := hok.1
    have hok2 := hok.2.1
    have hok3 := hok.2.2
    have HL16 := hU16
    refine Sm (Qs 3 rfl (Za ?_))
    replace HU := HU.trans hU16
    refine W_if rfl (fun q12 => ?_) fun q12 => ?_
    ·refine Zi (Zz (Zs (Sn (Qs 3 rfl ?_))))
     replace hO2 := hO2.upd hU16
     refine Yg (0, 0, 0) ZP (by decide) underlying227 sizeOf257 rfl rfl hO2.sl (by omega) (by omega) ?_
     intro ib17 io17 hc17
     try rw [Int.toNat_natCast] at hc17
     refine Zf (Zo underlying257 rfl sizeOf3 rfl rfl) (ZH (v := .int .i64 ((cs2.getD u0 (0, 0, 0)).1)) isAgg3 rfl (hc17 0 (by decide)) (Xz [.int .i64 ((cs2.getD u0 (0, 0, 0)).1)] underlying51 sizeOf3 zeroValue3 ?_))
     intro B18 w18 hB18 hU18 hzz18 hs18
     replace hs18 : Own w18 (Is B18) 3 1 (.slice (some ⟨B18, 0, none⟩) 1 1) 1 (ints .i64 [(cs2.getD u0 (0, 0, 0)).1]) := hs18
     replace hO := hO.Zc hU18
     refine Z1 (xs := xs) (ys := [(cs2.getD u0 (0, 0, 0)).1]) (zs := xs ++ [(cs2.getD u0 (0, 0, 0)).1]) (k' := .i64) (tot := i + 1) (by first | rfl | exact (ZR _ _).symm | simp) underlying51 (ti := Tryz.t3) (z := .int .i64 0) (sz := 1) (by' := 8) rfl rfl rfl rfl rfl (by decide) rfl hO rfl hs18.sl  (by omega) (by simp only [maxLen]; omega) (by omega) ?_
     intro a19 c19 w19 hU19 hzz19 hO19
     replace HU := HU.Zb hU18
     replace hO2 := hO2.Zc hU18
     replace hR4 := hR4.Zc hU18
     replace HL16 := HL16.Zb hU18
     clear hO
     have:=hU19.size
     replace hO19 := hO19.tight
     have hl_hO19 := ZC hO19.sl
     have hc_hO19 := hO19.sl.cap.1
     refine Qs 1 rfl (Za (Sm (Qs 1 rfl (Xd rfl rfl (Qs 2 rfl (Za ?_))))))
     replace hR4 := hR4.upd hU19
     replace HL16 := HL16.trans hU19
     refine W_if rfl (fun q13 => ?_) fun q13 => ?_
     ·refine Sn (Qs 3 rfl ?_)
      replace hO2 := hO2.upd hU19
      refine Yg (0, 0, 0) ZP (by decide) underlying227 sizeOf257 rfl rfl hO2.sl (by omega) (by omega) ?_
      intro ib20 io20 hc20
      try rw [Int.toNat_natCast] at hc20
      refine Zf (Zo underlying257 rfl sizeOf3 rfl rfl) (ZH (v := .int .i64 ((cs2.getD u0 (0, 0, 0)).2.1)) isAgg3 rfl (hc20 1 (by decide)) ?_)
      by_cases q14 : (cs2.getD u0 (0, 0, 0)).2.1.toNat ≤ n9
      ·refine Zj (Zy rfl call135 (v1 := .int .i64 (((cs2.getD u0 (0, 0, 0)).2.1.toNat : Nat) : Int)) rfl Zt) (YA _ hR4 (by omega) (by omega) q14) ?_
       rintro v w21 ⟨z21, rfl, hR21, hv_21, hU21⟩
       have:=hU21.size
       have hz9 := hv_21
       have hp9 := p2le (j := (cs2.getD u0 (0, 0, 0)).2.1.toNat) (k := 9) (by omega)
       obtain ⟨s9, hs9⟩ : ∃ s9 : Nat, s9 = (cs2.getD u0 (0, 0, 0)).2.2.toNat + z21 := ⟨_, rfl⟩
       refine Qs 5 rfl (Za (Sm (Qs 1 rfl (Zf (v := .bool false) (Yh (a := 0) (b := 0) rfl rfl) (Za (Cf (Zi (Zl (Qs 2 rfl (Yg (0, 0, 0) ZP (by decide) underlying227 sizeOf257 rfl rfl (hO2.Zh hU21).sl (by omega) (by omega) ?_))))))))))
       intro ib22 io22 hc22
       try rw [Int.toNat_natCast] at hc22
       refine Zf (Zo underlying257 rfl sizeOf3 rfl rfl) (ZH (v := .int .i64 ((cs2.getD u0 (0, 0, 0)).2.2)) isAgg3 rfl (hc22 2 (by decide)) (Qs 1 rfl (Zf (ZZ underlying101 underlying3 rfl ZY) (Xd rfl rfl (Qs 1 rfl (Za (Zl (Qs 4 rfl (Za (Zl (Qs 1 rfl (Xd rfl rfl (Qs 1 rfl (Za ?_))))))))))))))
       refine ⟨_, ?_, (i + 1), u1, s9, (n9 - ((cs2.getD u0 (0, 0, 0)).2.1.toNat)), (rd9 + ((cs2.getD u0 (0, 0, 0)).2.1.toNat)), (xs ++ [(cs2.getD u0 (0, 0, 0)).1]), a19, c19, rfl, rfl, ⟨rfl, rfl, rfl, rfl, Zt, rfl, Zt, trivial⟩, (by omega), ⟨by omega, by omega⟩, (by omega), hR21, ((hO19.Zh hU21).weak), (HL16.Zr hU21)⟩
       omega
      refine Zj (Zy rfl call135 (v1 := .int .i64 (((cs2.getD u0 (0, 0, 0)).2.1.toNat : Nat) : Int)) rfl Zt) (YB _ hR4 (by omega) q14) ?_
      rintro v w23 ⟨rfl, hR23, hU23⟩
      have:=hU23.size
      exact Qs 5 rfl (Za (Sm (Qs 1 rfl (Zf (v := .bool true) (Yh (a := 14) (b := 0) rfl rfl) (Za (Ct (Sn (Qs 3 rfl (Za (Zn (Zg rfl (Z2 results143 rfl rfl) ⟨_, rfl, none, 0, 0, [], 14, rfl, Own.nil _ _ _ _, (by omega), ((HU.trans hU19).Zb hU23)⟩)))))))))))
     refine Zi (Zl (Qs 4 rfl (Za (Zl (Qs 1 rfl (Xd rfl rfl (Qs 1 rfl (Za ?_))))))))
     refine ⟨_, ?_, (i + 1), u1, u0, n9, rd9, (xs ++ [(cs2.getD u0 (0, 0, 0)).1]), a19, c19, rfl, rfl, ⟨rfl, rfl, rfl, rfl, rfl, rfl, Zt, trivial⟩, (by omega), ⟨by omega, by omega⟩, (by omega), hR4, hO19.weak, HL16⟩
     omega
    refine ZI (Sm (Qs 1 rfl ?_))
    obtain ⟨hrl24, hrh24, ra24, rc24, rx24, hrB24, hrS24⟩ := hR4
    have hrz24 := hrB24.lt
    have hl_hrS24 := Ya Z4 (by decide) hrS24
    have hc_hrS24 := hrS24.cap.1
    refine Zf (Yj rfl) (Zf (Zo underlying240 rfl sizeOf238 rfl rfl) (Zk isAgg238 rfl hrB24 rfl (Zf (ZM underlying238 rfl) (Qs 1 rfl (Za (W_if rfl (fun q15 => ?_) fun q15 => ?_))))))
    ·exact Sn (Qs 2 rfl (Za (Zn (Zg rfl (Z2 results143 rfl rfl) ⟨_, rfl, none, 0, 0, [], 14, rfl, Own.nil _ _ _ _, (by omega), HU⟩))))
    exact Zi (Sn (Qs 3 rfl (Za (Zn (Zg rfl (Z2 results143 rfl rfl) ⟨_, rfl, a9, i, c9, xs, 0, rfl, hO.weak, (by omega), HU⟩)))))
   refine Zj (Zy rfl call135 (v1 := .int .i64 ((lg.toNat : Nat) : Int)) rfl Zt) (YB _ hR3 (by omega) q5) ?_
   rintro v w25 ⟨rfl, hR25, hU25⟩
   have:=hU25.size
   refine Qs 5 rfl (Za (Sm (Qs 3 rfl ?_)))
   replace HU := HU.Zb hU25
   by_cases q16 : 1 < (k : Int)
   ·rw [decide_eq_true q16]
    exact Gt (Qs 1 rfl (Gt (Zf (v := .bool false) (YK (a := 14) (b := 0) rfl rfl) (Zf (Zx (v := .bool false) rfl rfl) (Za (Cf (Zi (Sm (Qs 1 rfl (Zf (v := .bool true) (Yh (a := 14) (b := 0) rfl rfl) (Za (Ct (Sn (Qs 3 rfl (Za (Zn (Zg rfl (Z2 results143 rfl rfl) ⟨_, rfl, none, 0, 0, [], 14, rfl, Own.nil _ _ _ _, (by omega), HU⟩)))))))))))))))))
   rw [decide_eq_false q16]
   exact Gf (Gf (Zf (Zw (v := .bool false) rfl rfl) (Za (Cf (Zi (Sm (Qs 1 rfl (Zf (v := .bool true) (Yh (a := 14) (b := 0) rfl rfl) (Za (Ct (Sn (Qs 3 rfl (Za (Zn (Zg rfl (Z2 results143 rfl rfl) ⟨_, rfl, none, 0, 0, [], 14, rfl, Own.nil _ _ _ _, (by omega), HU⟩)))))))))))))))
  refine Zi (Sm (Qs 3 rfl ?_))
  by_cases q17 : 1 < (k : Int)
  ·rw [decide_eq_true q17]
   refine Gt (Qs 1 rfl (Gt (Zf (v := .bool true) (YK (a := 0) (b := 0) rfl rfl) (Zf (Zx (v := .bool true) rfl rfl) (Za (Ct (Zl (Qs 1 rfl (Zf (Zo underlying53 rfl sizeOf3 rfl rfl) (Zk isAgg3 rfl hb1 rfl ?_))))))))))
   by_cases q18 : lg.toNat ≤ qn3
   ·refine Zj (Zy rfl call135 (v1 := .int .i64 ((lg.toNat : Nat) : Int)) rfl Zt) (YA _ hR3 (by omega) (by omega) q18) ?_
    rintro v w26 ⟨z26, rfl, hR26, hv_26, hU26⟩
    have:=hU26.size
    have hz26 := hv_26
    refine Qs 5 rfl (Za (Sm (Qs 1 rfl (Zf (v := .bool false) (Yh (a := 0) (b := 0) rfl rfl) (Za (Cf (Zi (Sn (Qs 1 rfl (Zf (ZZ underlying101 underlying3 rfl ZY) (Qs 1 rfl (Zf (ZZ underlying101 underlying3 rfl ZY) (Qs 2 rfl (Za (Sn (Qs 1 rfl (Za (Sm (Qs 1 rfl (Za (Zs (ZS (fun mu ρ ds w' => ∃ (i : Nat) (u0 : Nat) (u1 : Nat) (n9 : Nat) (rd9 : Nat) (xs : List Int) (a9 : Option Addr) (c9 : Nat), k - i = mu ∧ ds = [] ∧ Liv ρ [(2, .int .i64 k), (8, .slice a2x (2 ^ lg.toNat) c2x), (10, .pointer (some ⟨rr3, 0, none⟩)), (14, .int .i64 u0), (15, .int .i64 u1), (16, .slice a9 i c9), (17, .int .i64 i)] ∧ i ≤ k ∧ (u0 < 2 ^ lg.toNat ∧ u1 < 2 ^ lg.toNat) ∧ n9 + rd9 ≤ 100000000 ∧ Rd w' rr3 w2.heap.size hi3 n9 rd9 ∧ Own w' (fun g => w26.heap.size ≤ g) 3 1 (.slice a9 i c9) i (ints .i64 xs) ∧ Upd (fun g => g = rr3 ∨ w26.heap.size ≤ g) w26 w') _ ⟨0, 0, z26, (qn3 - lg.toNat), (0 + lg.toNat), [], none, 0, rfl, rfl, ⟨rfl, rfl, rfl, rfl, rfl, (by first | rfl | exact Zt (by omega) | exact Zt (by simp)), (by first | rfl | exact Zt (by omega) | exact Zt (by simp)), trivial⟩, (by omega), ⟨by omega, by omega⟩, (by omega), hR26, (by exact Own.nil _ _ _ _), Upd.refl _ _⟩ ?_))))))))))))))))))))))
    rintro m27 ρ27 ds27 w27 ⟨i, u0, u1, n9, rd9, xs, a9, c9, rfl, rfl, hl27, hi, hu, hnr, hR26, hO, hU27⟩
    obtain ⟨ρ27x, rfl⟩ : ∃ ρx, ρ27 = upds ρx [(2, .int .i64 k), (8, .slice a2x (2 ^ lg.toNat) c2x), (10, .pointer (some ⟨rr3, 0, none⟩)), (14, .int .i64 u0), (15, .int .i64 u1), (16, .slice a9 i c9), (17, .int .i64 i)] := ⟨_, ZD hl27⟩
    replace HU := HU.t1 hU26
    replace hO2 := hO2.Zh hU26
    clear hl27
    have:=hU27.size
    replace hO := hO.tight
    have hl_hO := ZC hO.sl
    have hc_hO := hO.sl.cap.1
    have hrl := hR26.lt
    have hrh := hR26.le
    have hok := hoc u0 (by omega)
    have hok1 := hok.1
    have hok2 := hok.2.1
    have hok3 := hok.2.2
    have HL27 := hU27
    refine Sm (Qs 3 rfl (Za ?_))
    replace HU := HU.trans hU27
    refine W_if rfl (fun q19 => ?_) fun q19 => ?_
    ·refine Zi (Zz (Zs (Sn (Qs 3 rfl ?_))))
     replace hO2 := hO2.upd hU27
     refine Yg (0, 0, 0) ZP (by decide) underlying227 sizeOf257 rfl rfl hO2.sl (by omega) (by omega) ?_
     intro ib28 io28 hc28
     try rw [Int.toNat_natCast] at hc28
     refine Zf (Zo underlying257 rfl sizeOf3 rfl rfl) (ZH (v := .int .i64 ((cs2.getD u0 (0, 0, 0)).1)) isAgg3 rfl (hc28 0 (by decide)) (Xz [.int .i64 ((cs2.getD u0 (0, 0, 0)).1)] underlying51 sizeOf3 zeroValue3 ?_))
     intro B29 w29 hB29 hU29 hzz29 hs29
     replace hs29 : Own w29 (Is B29) 3 1 (.slice (some ⟨B29, 0, none⟩) 1 1) 1 (ints .i64 [(cs2.getD u0 (0, 0, 0)).1]) := hs29
     replace hO := hO.Zc hU29
     refine Z1 (xs := xs) (ys := [(cs2.getD u0 (0, 0, 0)).1]) (zs := xs ++ [(cs2.getD u0 (0, 0, 0)).1]) (k' := .i64) (tot := i + 1) (by first | rfl | exact (ZR _ _).symm | simp) underlying51 (ti := Tryz.t3) (z := .int .i64 0) (sz := 1) (by' := 8) rfl rfl rfl rfl rfl (by decide) rfl hO rfl hs29.sl  (by omega) (by simp only [maxLen]; omega) (by omega) ?_
     intro a30 c30 w30 hU30 hzz30 hO30
     replace HU := HU.Zb hU29
     replace hO2 := hO2.Zc hU29
     replace hR26 := hR26.Zc hU29
     replace HL27 := HL27.Zb hU29
     clear hO
     have:=hU30.size
     replace hO30 := hO30.tight
     have hl_hO30 := ZC hO30.sl
     have hc_hO30 := hO30.sl.cap.1
     refine Qs 1 rfl (Za (Sm (Qs 1 rfl (Xd rfl rfl (Qs 2 rfl (Za ?_))))))
     replace hR26 := hR26.upd hU30
     replace HL27 := HL27.trans hU30
     refine W_if rfl (fun q20 => ?_) fun q20 => ?_
     ·refine Sn (Qs 3 rfl ?_)
      replace hO2 := hO2.upd hU30
      refine Yg (0, 0, 0) ZP (by decide) underlying227 sizeOf257 rfl rfl hO2.sl (by omega) (by omega) ?_
      intro ib31 io31 hc31
      try rw [Int.toNat_natCast] at hc31
      refine Zf (Zo underlying257 rfl sizeOf3 rfl rfl) (ZH (v := .int .i64 ((cs2.getD u0 (0, 0, 0)).2.1)) isAgg3 rfl (hc31 1 (by decide)) ?_)
      by_cases q21 : (cs2.getD u0 (0, 0, 0)).2.1.toNat ≤ n9
      ·refine Zj (Zy rfl call135 (v1 := .int .i64 (((cs2.getD u0 (0, 0, 0)).2.1.toNat : Nat) : Int)) rfl Zt) (YA _ hR26 (by omega) (by omega) q21) ?_
       rintro v w32 ⟨z32, rfl, hR32, hv_32, hU32⟩
       have:=hU32.size
       have hz9 := hv_32
       have hp9 := p2le (j := (cs2.getD u0 (0, 0, 0)).2.1.toNat) (k := 9) (by omega)
       obtain ⟨s9, hs9⟩ : ∃ s9 : Nat, s9 = (cs2.getD u0 (0, 0, 0)).2.2.toNat + z32 := ⟨_, rfl⟩
       refine Qs 5 rfl (Za (Sm (Qs 1 rfl (Zf (v := .bool false) (Yh (a := 0) (b := 0) rfl rfl) (Za (Cf (Zi (Zl (Qs 2 rfl (Yg (0, 0, 0) ZP (by decide) underlying227 sizeOf257 rfl rfl (hO2.Zh hU32).sl (by omega) (by omega) ?_))))))))))
       intro ib33 io33 hc33
       try rw [Int.toNat_natCast] at hc33
       refine Zf (Zo underlying257 rfl sizeOf3 rfl rfl) (ZH (v := .int .i64 ((cs2.getD u0 (0, 0, 0)).2.2)) isAgg3 rfl (hc33 2 (by decide)) (Qs 1 rfl (Zf (ZZ underlying101 underlying3 rfl ZY) (Xd rfl rfl (Qs 1 rfl (Za (Zl (Qs 4 rfl (Za (Zl (Qs 1 rfl (Xd rfl rfl (Qs 1 rfl (Za ?_))))))))))))))
       refine ⟨_, ?_, (i + 1), u1, s9, (n9 - ((cs2.getD u0 (0, 0, 0)).2.1.toNat)), (rd9 + ((cs2.getD u0 (0, 0, 0)).2.1.toNat)), (xs ++ [(cs2.getD u0 (0, 0, 0)).1]), a30, c30, rfl, rfl, ⟨rfl, rfl, rfl, rfl, Zt, rfl, Zt, trivial⟩, (by omega), ⟨by omega, by omega⟩, (by omega), hR32, ((hO30.Zh hU32).weak), (HL27.Zr hU32)⟩
       omega
      refine Zj (Zy rfl call135 (v1 := .int .i64 (((cs2.getD u0 (0, 0, 0)).2.1.toNat : Nat) : Int)) rfl Zt) (YB _ hR26 (by omega) q21) ?_
      rintro v w34 ⟨rfl, hR34, hU34⟩
      have:=hU34.size
      exact Qs 5 rfl (Za (Sm (Qs 1 rfl (Zf (v := .bool true) (Yh (a := 14) (b := 0) rfl rfl) (Za (Ct (Sn (Qs 3 rfl (Za (Zn (Zg rfl (Z2 results143 rfl rfl) ⟨_, rfl, none, 0, 0, [], 14, rfl, Own.nil _ _ _ _, (by omega), ((HU.trans hU30).Zb hU34)⟩)))))))))))
     refine Zi (Zl (Qs 4 rfl (Za (Zl (Qs 1 rfl (Xd rfl rfl (Qs 1 rfl (Za ?_))))))))
     refine ⟨_, ?_, (i + 1), u1, u0, n9, rd9, (xs ++ [(cs2.getD u0 (0, 0, 0)).1]), a30, c30, rfl, rfl, ⟨rfl, rfl, rfl, rfl, rfl, rfl, Zt, trivial⟩, (by omega), ⟨by omega, by omega⟩, (by omega), hR26, hO30.weak, HL27⟩
     omega
    refine ZI (Sm (Qs 1 rfl ?_))
    obtain ⟨hrl35, hrh35, ra35, rc35, rx35, hrB35, hrS35⟩ := hR26
    have hrz35 := hrB35.lt
    have hl_hrS35 := Ya Z4 (by decide) hrS35
    have hc_hrS35 := hrS35.cap.1
    refine Zf (Yj rfl) (Zf (Zo underlying240 rfl sizeOf238 rfl rfl) (Zk isAgg238 rfl hrB35 rfl (Zf (ZM underlying238 rfl) (Qs 1 rfl (Za (W_if rfl (fun q22 => ?_) fun q22 => ?_))))))
    ·exact Sn (Qs 2 rfl (Za (Zn (Zg rfl (Z2 results143 rfl rfl) ⟨_, rfl, none, 0, 0, [], 14, rfl, Own.nil _ _ _ _, (by omega), HU⟩))))
    exact Zi (Sn (Qs 3 rfl (Za (Zn (Zg rfl (Z2 results143 rfl rfl) ⟨_, rfl, a9, i, c9, xs, 0, rfl, hO.weak, (by omega), HU⟩)))))
   refine Zj (Zy rfl call135 (v1 := .int .i64 ((lg.toNat : Nat) : Int)) rfl Zt) (YB _ hR3 (by omega) q18) ?_
   rintro v w36 ⟨rfl, hR36, hU36⟩
   have:=hU36.size
   exact Qs 5 rfl (Za (Sm (Qs 1 rfl (Zf (v := .bool true) (Yh (a := 14) (b := 0) rfl rfl) (Za (Ct (Sn (Qs 3 rfl (Za (Zn (Zg rfl (Z2 results143 rfl rfl) ⟨_, rfl, none, 0, 0, [], 14, rfl, Own.nil _ _ _ _, (by omega), (HU.Zb hU36)⟩)))))))))))
  rw [decide_eq_false q17]
  refine Gf (Gf (Zf (Zw (v := .bool false) rfl rfl) (Za (Cf (Zi (Sm (Qs 1 rfl (Zf (v := .bool false) (Yh (a := 0) (b := 0) rfl rfl) (Za (Cf (Zi (Sn (Qs 1 rfl (Zf (ZZ underlying101 underlying3 rfl ZY) (Qs 1 rfl (Zf (ZZ underlying101 underlying3 rfl ZY) (Qs 2 rfl (Za (Sn (Qs 1 rfl (Za (Sm (Qs 1 rfl (Za (Zs (ZS (fun mu ρ ds w' => ∃ (i : Nat) (u0 : Nat) (u1 : Nat) (n9 : Nat) (rd9 : Nat) (xs : List Int) (a9 : Option Addr) (c9 : Nat), k - i = mu ∧ ds = [] ∧ Liv ρ [(2, .int .i64 k), (8, .slice a2x (2 ^ lg.toNat) c2x), (10, .pointer (some ⟨rr3, 0, none⟩)), (14, .int .i64 u0), (15, .int .i64 u1), (16, .slice a9 i c9), (17, .int .i64 i)] ∧ i ≤ k ∧ (u0 < 2 ^ lg.toNat ∧ u1 < 2 ^ lg.toNat) ∧ n9 + rd9 ≤ 100000000 ∧ Rd w' rr3 w2.heap.size hi3 n9 rd9 ∧ Own w' (fun g => w3.heap.size ≤ g) 3 1 (.slice a9 i c9) i (ints .i64 xs) ∧ Upd (fun g => g = rr3 ∨ w3.heap.size ≤ g) w3 w') _ ⟨0, 0, 0, qn3, 0, [], none, 0, rfl, rfl, ⟨rfl, rfl, rfl, rfl, rfl, (by first | rfl | exact Zt (by omega) | exact Zt (by simp)), (by first | rfl | exact Zt (by omega) | exact Zt (by simp)), trivial⟩, (by omega), ⟨by omega, by omega⟩, (by omega), hR3, (by exact Own.nil _ _ _ _), Upd.refl _ _⟩ ?_))))))))))))))))))))))))))
  rintro m37 ρ37 ds37 w37 ⟨i, u0, u1, n9, rd9, xs, a9, c9, rfl, rfl, hl37, hi, hu, hnr, hR3, hO, hU37⟩
  obtain ⟨ρ37x, rfl⟩ : ∃ ρx, ρ37 = upds ρx [(2, .int .i64 k), (8, .slice a2x (2 ^ lg.toNat) c2x), (10, .pointer (some ⟨rr3, 0, none⟩)), (14, .int .i64 u0), (15, .int .i64 u1), (16, .slice a9 i c9), (17, .int .i64 i)] := ⟨_, ZD hl37⟩
  clear hl37
  have:=hU37.size
  replace hO := hO.tight
  have hl_hO := ZC hO.sl
  have hc_hO := hO.sl.cap.1
  have hrl := hR3.lt
  have hrh := hR3.le
  have hok := hoc u0 (by omega)
  have hok1 := hok.1
  have hok2 := hok.2.1
  have hok3 := hok.2.2
  have HL37 := hU37
  refine Sm (Qs 3 rfl (Za ?_))
  replace HU := HU.trans hU37
  refine W_if rfl (fun q23 => ?_) fun q23 => ?_
  ·refine Zi (Zz (Zs (Sn (Qs 3 rfl ?_))))
   replace hO2 := hO2.upd hU37
   refine Yg (0, 0, 0) ZP (by decide) underlying227 sizeOf257 rfl rfl hO2.sl (by omega) (by omega) ?_
   intro ib38 io38 hc38
   try rw [Int.toNat_natCast] at hc38
   refine Zf (Zo underlying257 rfl sizeOf3 rfl rfl) (ZH (v := .int .i64 ((cs2.getD u0 (0, 0, 0)).1)) isAgg3 rfl (hc38 0 (by decide)) (Xz [.int .i64 ((cs2.getD u0 (0, 0, 0)).1)] underlying51 sizeOf3 zeroValue3 ?_))
   intro B39 w39 hB39 hU39 hzz39 hs39
   replace hs39 : Own w39 (Is B39) 3 1 (.slice (some ⟨B39, 0, none⟩) 1 1) 1 (ints .i64 [(cs2.getD u0 (0, 0, 0)).1]) := hs39
   replace hO := hO.Zc hU39
   refine Z1 (xs := xs) (ys := [(cs2.getD u0 (0, 0, 0)).1]) (zs := xs ++ [(cs2.getD u0 (0, 0, 0)).1]) (k' := .i64) (tot := i + 1) (by first | rfl | exact (ZR _ _).symm | simp) underlying51 (ti := Tryz.t3) (z := .int .i64 0) (sz := 1) (by' := 8) rfl rfl rfl rfl rfl (by decide) rfl hO rfl hs39.sl  (by omega) (by simp only [maxLen]; omega) (by omega) ?_
   intro a40 c40 w40 hU40 hzz40 hO40
   replace HU := HU.Zb hU39
   replace hO2 := hO2.Zc hU39
   replace hR3 := hR3.Zc hU39
   replace HL37 := HL37.Zb hU39
   clear hO
   have:=hU40.size
   replace hO40 := hO40.tight
   have hl_hO40 := ZC hO40.sl
   have hc_hO40 := hO40.sl.cap.1
   refine Qs 1 rfl (Za (Sm (Qs 1 rfl (Xd rfl rfl (Qs 2 rfl (Za ?_))))))
   replace hR3 := hR3.upd hU40
   replace HL37 := HL37.trans hU40
   refine W_if rfl (fun q24 => ?_) fun q24 => ?_
   ·refine Sn (Qs 3 rfl ?_)
    replace hO2 := hO2.upd hU40
    refine Yg (0, 0, 0) ZP (by decide) underlying227 sizeOf257 rfl rfl hO2.sl (by omega) (by omega) ?_
    intro ib41 io41 hc41
    try rw [Int.toNat_natCast] at hc41
    refine Zf (Zo underlying257 rfl sizeOf3 rfl rfl) (ZH (v := .int .i64 ((cs2.getD u0 (0, 0, 0)).2.1)) isAgg3 rfl (hc41 1 (by decide)) ?_)
    by_cases q25 : (cs2.getD u0 (0, 0, 0)).2.1.toNat ≤ n9
    ·refine Zj (Zy rfl call135 (v1 := .int .i64 (((cs2.getD u0 (0, 0, 0)).2.1.toNat : Nat) : Int)) rfl Zt) (YA _ hR3 (by omega) (by omega) q25) ?_
     rintro v w42 ⟨z42, rfl, hR42, hv_42, hU42⟩
     have:=hU42.size
     have hz9 := hv_42
     have hp9 := p2le (j := (cs2.getD u0 (0, 0, 0)).2.1.toNat) (k := 9) (by omega)
     obtain ⟨s9, hs9⟩ : ∃ s9 : Nat, s9 = (cs2.getD u0 (0, 0, 0)).2.2.toNat + z42 := ⟨_, rfl⟩
     refine Qs 5 rfl (Za (Sm (Qs 1 rfl (Zf (v := .bool false) (Yh (a := 0) (b := 0) rfl rfl) (Za (Cf (Zi (Zl (Qs 2 rfl (Yg (0, 0, 0) ZP (by decide) underlying227 sizeOf257 rfl rfl (hO2.Zh hU42).sl (by omega) (by omega) ?_))))))))))
     intro ib43 io43 hc43
     try rw [Int.toNat_natCast] at hc43
     refine Zf (Zo underlying257 rfl sizeOf3 rfl rfl) (ZH (v := .int .i64 ((cs2.getD u0 (0, 0, 0)).2.2)) isAgg3 rfl (hc43 2 (by decide)) (Qs 1 rfl (Zf (ZZ underlying101 underlying3 rfl ZY) (Xd rfl rfl (Qs 1 rfl (Za (Zl (Qs 4 rfl (Za (Zl (Qs 1 rfl (Xd rfl rfl (Qs 1 rfl (Za ?_))))))))))))))
     refine ⟨_, ?_, (i + 1), u1, s9, (n9 - ((cs2.getD u0 (0, 0, 0)).2.1.toNat)), (rd9 + ((cs2.getD u0 (0, 0, 0)).2.1.toNat)), (xs ++ [(cs2.getD u0 (0, 0, 0)).1]), a40, c40, rfl, rfl, ⟨rfl, rfl, rfl, rfl, Zt, rfl, Zt, trivial⟩, (by omega), ⟨by omega, by omega⟩, (by omega), hR42, ((hO40.Zh hU42).weak), (HL37.Zr hU42)⟩
     omega
    refine Zj (Zy rfl call135 (v1 := .int .i64 (((cs2.getD u0 (0, 0, 0)).2.1.toNat : Nat) : Int)) rfl Zt) (YB _ hR3 (by omega) q25) ?_
    rintro v w44 ⟨rfl, hR44, hU44⟩
    have:=hU44.size
    exact Qs 5 rfl (Za (Sm (Qs 1 rfl (Zf (v := .bool true) (Yh (a := 14) (b := 0) rfl rfl) (Za (Ct (Sn (Qs 3 rfl (Za (Zn (Zg rfl (Z2 results143 rfl rfl) ⟨_, rfl, none, 0, 0, [], 14, rfl, Own.nil _ _ _ _, (by omega), ((HU.trans hU40).Zb hU44)⟩)))))))))))
   refine Zi (Zl (Qs 4 rfl (Za (Zl (Qs 1 rfl (Xd rfl rfl (Qs 1 rfl (Za ?_))))))))
   refine ⟨_, ?_, (i + 1), u1, u0, n9, rd9, (xs ++ [(cs2.getD u0 (0, 0, 0)).1]), a40, c40, rfl, rfl, ⟨rfl, rfl, rfl, rfl, rfl, rfl, Zt, trivial⟩, (by omega), ⟨by omega, by omega⟩, (by omega), hR3, hO40.weak, HL37⟩
   omega
  refine ZI (Sm (Qs 1 rfl ?_))
  obtain ⟨hrl45, hrh45, ra45, rc45, rx45, hrB45, hrS45⟩ := hR3
  have hrz45 := hrB45.lt
  have hl_hrS45 := Ya Z4 (by decide) hrS45
  have hc_hrS45 := hrS45.cap.1
  refine Zf (Yj rfl) (Zf (Zo underlying240 rfl sizeOf238 rfl rfl) (Zk isAgg238 rfl hrB45 rfl (Zf (ZM underlying238 rfl) (Qs 1 rfl (Za (W_if rfl (fun q26 => ?_) fun q26 => ?_))))))
  ·exact Sn (Qs 2 rfl (Za (Zn (Zg rfl (Z2 results143 rfl rfl) ⟨_, rfl, none, 0, 0, [], 14, rfl, Own.nil _ _ _ _, (by omega), HU⟩))))
  exact Zi (Sn (Qs 3 rfl (Za (Zn (Zg rfl (Z2 results143 rfl rfl) ⟨_, rfl, a9, i, c9, xs, 0, rfl, hO.weak, (by omega), HU⟩)))))
 refine Zj (Zv rfl call133 rfl) (wbwd_no _ hs2.any hb (by omega) q3) ?_
 rintro v w46 ⟨rfl, hU46⟩
 have:=hU46.size
 exact Qs 5 rfl (Za (Sm (Qs 1 rfl (Zf (v := .bool true) (Yh (a := 14) (b := 0) rfl rfl) (Za (Ct (Sn (Qs 3 rfl (Za (Zn (Zg rfl (Z2 results143 rfl rfl) ⟨_, rfl, none, 0, 0, [], 14, rfl, Own.nil _ _ _ _, (by omega), (HU.Zb hU46)⟩)))))))))))
theorem wlast16 {a : Option Addr} {n c : Nat} {l : List Int} (w : World) (hs : Sl w (fun g => g < w.heap.size) 1 (.slice a n c) n (ints .i64 l)) (hn : n ≤ 1000000) :
  Calls Tryz.prog 144 #[.slice a n c] w (Ret fun v w' => ∃ (kk : Int) (vv : Int) (e : Int), v = .tuple #[.int .i64 kk, .int .i64 vv, .int .i64 e] ∧ 0 ≤ kk ∧ kk ≤ 18 ∧ 0 ≤ vv ∧ vv ≤ 12 ∧ (e = 0 → 1 ≤ n ∧ n ≤ 255 ∧ ∀ j, j < n → 0 ≤ l.getD j 0 ∧ l.getD j 0 ≤ 11) ∧ Upd No w w') := by
 have HU := Upd.Yo w
 have hl_hs := ZC hs
 have hc_hs := hs.cap.1
 refine Zq func144 rfl ntmps144 (by simp) (Sn (Qs 3 rfl (Za (Sm (Qs 1 rfl (Zf (ZM underlying51 rfl) (Qs 2 rfl ?_)))))))
 by_cases q1 : (n : Int) < 1
 ·rw [decide_eq_true q1]
  exact Gf (Gf (Gf (Zf (Zx (v := .bool true) rfl rfl) (Za (Ct (Sn (Qs 3 rfl (Za (Zn (Zg rfl (Yr results144 rfl rfl rfl) ⟨_, rfl, 0, 0, 12, rfl, (by omega), (by omega), (by omega), (by omega), (fun h => absurd h (by decide)), HU⟩))))))))))
 rw [decide_eq_false q1]
 refine Gt (Qs 1 rfl (Gt (Zf (ZM underlying51 rfl) (Gt (Qs 1 rfl (Zf (Zw (v := .bool (decide (255 < (n : Int)))) rfl rfl) (Za (W_if rfl (fun q2 => ?_) fun q2 => ?_))))))))
 ·exact Sn (Qs 3 rfl (Za (Zn (Zg rfl (Yr results144 rfl rfl rfl) ⟨_, rfl, 0, 0, 12, rfl, (by omega), (by omega), (by omega), (by omega), (fun h => absurd h (by decide)), HU⟩))))
 refine Zi (Sn (Qs 2 rfl (Za (Sm (Qs 1 rfl (Za (Zs (ZS (fun mu ρ ds w' => ∃ (i : Nat) (s : Nat) (u : Nat), n - i = mu ∧ ds = [] ∧ Liv ρ [(0, .slice a n c), (5, .int .i64 s), (6, .int .i64 u), (7, .int .i64 i)] ∧ i ≤ n ∧ s ≤ i * 1024 ∧ u ≤ i ∧ (∀ j, j < i → 0 ≤ l.getD j 0 ∧ l.getD j 0 ≤ 11) ∧ Upd No w w') _ ⟨0, 0, 0, rfl, rfl, ⟨rfl, (by first | rfl | exact Zt (by omega) | exact Zt (by simp)), (by first | rfl | exact Zt (by omega) | exact Zt (by simp)), (by first | rfl | exact Zt (by omega) | exact Zt (by simp)), trivial⟩, (by omega), (by omega), (by omega), (fun j hj => absurd hj (by omega)), Upd.refl _ _⟩ ?_))))))))
 rintro m1 ρ1 ds1 w1 ⟨i, s, u, rfl, rfl, hl1, hi, hs9, hu, hrg, hU1⟩
 obtain ⟨ρ1x, rfl⟩ : ∃ ρx, ρ1 = upds ρx [(0, .slice a n c), (5, .int .i64 s), (6, .int .i64 u), (7, .int .i64 i)] := ⟨_, ZD hl1⟩
 clear hl1
 have:=hU1.size
 have HL1 := hU1
 refine Sm (Qs 2 rfl (Zf (ZM underlying51 rfl) (Qs 1 rfl (Za ?_))))
 replace HU := HU.Zb hU1
 refine W_if rfl (fun q3 => ?_) fun q3 => ?_
 ·refine Zi (Zz (Zs (Sm (Qs 2 rfl ?_))))
  replace hs := hs.Zc hU1
  refine Z7 underlying51 sizeOf3 rfl rfl hs (by omega) (by omega) ?_
  intro ib2 io2 hc2
  rw [Int.toNat_natCast] at hc2
  refine ZH isAgg3 rfl hc2 (Qs 2 rfl ?_)
  by_cases q4 : (l.getD i 0) < 0
  ·rw [decide_eq_true q4]
   exact Gf (Gf (Gf (Gf (Gf (Zf (Zx (v := .bool true) rfl rfl) (Za (Ct (Sn (Qs 3 rfl (Za (Zn (Zg rfl (Yr results144 rfl rfl rfl) ⟨_, rfl, 0, 0, 12, rfl, (by omega), (by omega), (by omega), (by omega), (fun h => absurd h (by decide)), HU⟩))))))))))))
  rw [decide_eq_false q4]
  refine Gt (Qs 1 rfl (Gt (Qs 1 rfl (Gt (Z7 underlying51 sizeOf3 rfl rfl hs (by omega) (by omega) ?_)))))
  intro ib3 io3 hc3
  rw [Int.toNat_natCast] at hc3
  refine Gt (ZH isAgg3 rfl hc3 (Gt (Qs 1 rfl (Zf (Zw (v := .bool (decide (11 < (l.getD i 0)))) rfl rfl) (Za (W_if rfl (fun q5 => ?_) fun q5 => ?_))))))
  ·exact Sn (Qs 3 rfl (Za (Zn (Zg rfl (Yr results144 rfl rfl rfl) ⟨_, rfl, 0, 0, 12, rfl, (by omega), (by omega), (by omega), (by omega), (fun h => absurd h (by decide)), HU⟩))))
  refine Zi (Sm (Qs 2 rfl (Z7 underlying51 sizeOf3 rfl rfl hs (by omega) (by omega) ?_)))
  intro ib4 io4 hc4
  rw [Int.toNat_natCast] at hc4
  refine ZH isAgg3 rfl hc4 (Qs 1 rfl (Za ?_))
  by_cases q6 : 0 < (l.getD i 0)
  ·have hpw : 2 ^ (l.getD i 0 - 1).toNat ≤ 2 ^ 10 := p2le (by omega)
   have hpw0 := Nat.two_pow_pos (l.getD i 0 - 1).toNat
   rw [decide_eq_true q6]
   refine Ct (Zl (Qs 3 rfl (Z7 underlying51 sizeOf3 rfl rfl hs (by omega) (by omega) ?_)))
   intro ib5 io5 hc5
   rw [Int.toNat_natCast] at hc5
   refine ZH isAgg3 rfl hc5 (Xs rfl rfl (Zf (r_shl rfl rfl (by omega) (shl1 (k := ((l.getD i 0) - 1).toNat) (by omega) (by omega))) (Xd rfl rfl (Qs 1 rfl (Za (Sn (Qs 2 rfl (Z7 underlying51 sizeOf3 rfl rfl hs (by omega) (by omega) ?_))))))))
   intro ib6 io6 hc6
   rw [Int.toNat_natCast] at hc6
   refine ZH isAgg3 rfl hc6 (Qs 1 rfl (Za (W_if rfl (fun q7 => ?_) fun q7 => ?_)))
   ·refine Zl (Qs 1 rfl (Xd rfl rfl (Qs 1 rfl (Za (Zl (Qs 1 rfl (Xd rfl rfl (Qs 1 rfl (Za ?_)))))))))
    refine ⟨_, ?_, (i + 1), (s + 2 ^ (l.getD i 0 - 1).toNat), (u + 1), rfl, rfl, ⟨rfl, (Zt (by rw [Int.natCast_add])), Zt, Zt, trivial⟩, (by omega), (by omega), (by omega), (fun j hj => by rcases Nat.lt_or_ge j i with h9 | h9; exact hrg j h9; obtain rfl : j = i := (by omega); exact ⟨by omega, by omega⟩), HL1⟩
    omega
   refine Zi (Zl (Qs 1 rfl (Xd rfl rfl (Qs 1 rfl (Za ?_)))))
   refine ⟨_, ?_, (i + 1), (s + 2 ^ (l.getD i 0 - 1).toNat), u, rfl, rfl, ⟨rfl, (Zt (by rw [Int.natCast_add])), rfl, Zt, trivial⟩, (by omega), (by omega), (by omega), (fun j hj => by rcases Nat.lt_or_ge j i with h9 | h9; exact hrg j h9; obtain rfl : j = i := (by omega); exact ⟨by omega, by omega⟩), HL1⟩
   omega
  rw [decide_eq_false q6]
  refine Cf (Zi (Sn (Qs 2 rfl (Z7 underlying51 sizeOf3 rfl rfl hs (by omega) (by omega) ?_))))
  intro ib7 io7 hc7
  rw [Int.toNat_natCast] at hc7
  refine ZH isAgg3 rfl hc7 (Qs 1 rfl (Za (W_if rfl (fun q8 => ?_) fun q8 => ?_)))
  ·refine Zl (Qs 1 rfl (Xd rfl rfl (Qs 1 rfl (Za (Zl (Qs 1 rfl (Xd rfl rfl (Qs 1 rfl (Za ?_)))))))))
   refine ⟨_, ?_, (i + 1), s, (u + 1), rfl, rfl, ⟨rfl, rfl, Zt, Zt, trivial⟩, (by omega), (by omega), (by omega), (fun j hj => by rcases Nat.lt_or_ge j i with h9 | h9; exact hrg j h9; obtain rfl : j = i := (by omega); exact ⟨by omega, by omega⟩), HL1⟩
   omega
  refine Zi (Zl (Qs 1 rfl (Xd rfl rfl (Qs 1 rfl (Za ?_)))))
  refine ⟨_, ?_, (i + 1), s, u, rfl, rfl, ⟨rfl, rfl, rfl, Zt, trivial⟩, (by omega), (by omega), (by omega), (fun j hj => by rcases Nat.lt_or_ge j i with h9 | h9; exact hrg j h9; obtain rfl : j = i := (by omega); exact ⟨by omega, by omega⟩), HL1⟩
  omega
 refine ZI (Sm (Qs 2 rfl (Za (W_if rfl (fun q9 => ?_) fun q9 => ?_))))
 ·exact Sn (Qs 3 rfl (Za (Zn (Zg rfl (Yr results144 rfl rfl rfl) ⟨_, rfl, 0, 0, 12, rfl, (by omega), (by omega), (by omega), (by omega), (fun h => absurd h (by decide)), HU⟩))))
 refine Zi (Sn (Qs 1 rfl (Za (Zz (Zs (ZS (fun mu ρ ds w' => ∃ (k : Nat), 20 - k = mu ∧ ds = [] ∧ Liv ρ [(5, .int .i64 s), (6, .int .i64 u), (8, .int .i64 k)] ∧ k ≤ 18 ∧ Upd No w1 w') _ ⟨0, rfl, rfl, ⟨rfl, rfl, (by first | rfl | exact Zt (by omega) | exact Zt (by simp)), trivial⟩, (by omega), Upd.refl _ _⟩ ?_))))))
 rintro m8 ρ8 ds8 w8 ⟨k, rfl, rfl, hl8, hk, hU8⟩
 obtain ⟨ρ8x, rfl⟩ : ∃ ρx, ρ8 = upds ρx [(5, .int .i64 s), (6, .int .i64 u), (8, .int .i64 k)] := ⟨_, ZD hl8⟩
 replace hs := hs.Zc hU1
 clear hl8
 have:=hU8.size
 have hpk : 2 ^ k ≤ 2 ^ 18 := p2le hk
 have HL8 := hU8
 refine Sm (Qs 1 rfl (Zf (r_shl rfl rfl (by omega) (shl1 (k := k) (by omega) (by omega))) (Qs 2 rfl (Za (W_if rfl (fun q10 => ?_) fun q10 => ?_)))))
 ·refine Zi (Zs (Zl (Qs 1 rfl (Xd rfl rfl (Qs 1 rfl (Za ?_))))))
  have hk7 : k + 1 ≤ 18 := by
   rcases Nat.lt_or_ge k 18 with h | h
   ·omega
   have := p2le h; omega
  refine ⟨_, ?_, (k + 1), rfl, rfl, ⟨rfl, rfl, Zt, trivial⟩, hk7, HL8⟩
  omega
 refine ZI (Sn (Qs 1 rfl (Za (Zz (Zs (ZS (fun mu ρ ds w' => ∃ (v : Nat), 13 - v = mu ∧ ds = [] ∧ Liv ρ [(5, .int .i64 s), (6, .int .i64 u), (8, .int .i64 k), (9, .int .i64 v)] ∧ 1 ≤ v ∧ v ≤ 12 ∧ Upd No w8 w') _ ⟨1, rfl, rfl, ⟨rfl, rfl, rfl, rfl, trivial⟩, (by omega), (by omega), Upd.refl _ _⟩ ?_))))))
 rintro m9 ρ9 ds9 w9 ⟨v, rfl, rfl, hl9, hv1, hv2, hU9⟩
 obtain ⟨ρ9x, rfl⟩ : ∃ ρx, ρ9 = upds ρx [(5, .int .i64 s), (6, .int .i64 u), (8, .int .i64 k), (9, .int .i64 v)] := ⟨_, ZD hl9⟩
 replace HU := HU.Zb hU8
 clear hl9
 have:=hU9.size
 have hpv : 2 ^ (v - 1) ≤ 2 ^ 11 := p2le (by omega)
 have HL9 := hU9
 refine Zz (Zz (ZJ rfl (l0 := tf 0 12) (by kernel_rfl) (Tq rfl (Tq rfl (Tq rfl ?_)))))
 replace HU := HU.Zb hU9
 by_cases q11 : (v : Int) ≤ 11
 ·rw [decide_eq_true q11]
  refine Tq rfl (Tv rfl (fun _ _ => Y7 rfl rfl ZY) (Tv rfl (v := .int .i64 ((2 ^ (v - 1) : Nat) : Int)) (fun _ _ => r_shl rfl rfl (by omega) (shl1 (k := (v - 1)) (by omega) (by omega))) (Tq rfl (Tv rfl (v := .int .i64 ((2 ^ k : Nat) : Int)) (fun _ _ => r_shl rfl rfl (by omega) (shl1 (k := k) (by omega) (by omega))) (Tq rfl (Tv rfl (fun _ _ => Y7 rfl rfl ZY) (Tq rfl (Tq rfl ?_))))))))
  intro w10 hU10
  have:=hU10.size
  refine Wd (W_if rfl (fun q12 => ?_) fun q12 => ?_)
  ·refine Zi (Zs (Zl (Qs 1 rfl (Xd rfl rfl (Qs 1 rfl (Za ?_))))))
   refine ⟨_, ?_, (v + 1), rfl, rfl, ⟨rfl, rfl, rfl, Zt, trivial⟩, (by omega), (by omega), (HL9.Zb hU10)⟩
   omega
  refine ZI (Zz (Zz (ZJ rfl (l0 := tf 0 20) (by kernel_rfl) (Tq rfl (Tq rfl (Tq rfl ?_))))))
  replace HU := HU.Zb hU10
  by_cases q13 : 11 < (k : Int)
  ·rw [decide_eq_true q13]
   refine Tq rfl (Tq rfl (Tq rfl (Tq rfl (Tq rfl (Tq rfl (Tq rfl (Tq rfl (Tq rfl (Tq rfl (Tq rfl (Tq rfl (Tq rfl (Tq rfl (Tq rfl (Tq rfl (Tq rfl ?_))))))))))))))))
   intro w11 hU11
   have:=hU11.size
   exact Wd (Ct (Sn (Qs 3 rfl (Za (Zn (Zg rfl (Yr results144 rfl rfl rfl) ⟨_, rfl, 0, 0, 12, rfl, (by omega), (by omega), (by omega), (by omega), (fun h => absurd h (by decide)), (HU.Zb hU11)⟩))))))
  rw [decide_eq_false q13]
  refine Tq rfl (Tv rfl (fun _ _ => Y7 rfl rfl ZY) (Tv rfl (v := .int .i64 ((2 ^ (v - 1) : Nat) : Int)) (fun _ _ => r_shl rfl rfl (by omega) (shl1 (k := (v - 1)) (by omega) (by omega))) (Tq rfl (Tv rfl (v := .int .i64 ((2 ^ k : Nat) : Int)) (fun _ _ => r_shl rfl rfl (by omega) (shl1 (k := k) (by omega) (by omega))) (Tq rfl (Tv rfl (fun _ _ => Y7 rfl rfl ZY) (Tq rfl (Tq rfl (Tq rfl ?_)))))))))
  by_cases q14 : ((2 ^ (v - 1) : Nat) : Int) ≠ (((2 ^ k : Nat) : Int) - (s : Int))
  ·rw [decide_eq_true q14]
   refine Tq rfl (Tq rfl (Tq rfl (Tq rfl (Tq rfl (Tq rfl (Tq rfl ?_))))))
   intro w12 hU12
   have:=hU12.size
   exact Wd (Ct (Sn (Qs 3 rfl (Za (Zn (Zg rfl (Yr results144 rfl rfl rfl) ⟨_, rfl, 0, 0, 12, rfl, (by omega), (by omega), (by omega), (by omega), (fun h => absurd h (by decide)), (HU.Zb hU12)⟩))))))
  rw [decide_eq_false q14]
  refine Tq rfl (Tq rfl (Tq rfl ?_))
  by_cases q15 : (u : Int) = 0
  ·rw [decide_eq_true q15]
   refine Tq rfl (Tq rfl (Tq rfl (Tq rfl ?_)))
   intro w13 hU13
   have:=hU13.size
   refine Wd ?_
   replace HU := HU.Zb hU13
   refine W_if rfl (fun q16 => ?_) fun q16 => ?_
   ·exact Sn (Qs 3 rfl (Za (Zn (Zg rfl (Yr results144 rfl rfl rfl) ⟨_, rfl, 0, 0, 12, rfl, (by omega), (by omega), (by omega), (by omega), (fun h => absurd h (by decide)), HU⟩))))
   exact Zi (Sn (Qs 5 rfl (Za (Zn (Zg rfl (Yr results144 rfl rfl rfl) ⟨_, rfl, (k : Int), (v : Int), 0, rfl, (by omega), (by omega), (by omega), (by omega), (fun _ => ⟨by omega, by omega, fun j hj => hrg j (by omega)⟩), HU⟩)))))
  rw [decide_eq_false q15]
  refine Tq rfl (Tq rfl (Tq rfl (Tq rfl ?_)))
  intro w14 hU14
  have:=hU14.size
  exact Wd (Cf (Zi (Sn (Qs 5 rfl (Za (Zn (Zg rfl (Yr results144 rfl rfl rfl) ⟨_, rfl, (k : Int), (v : Int), 0, rfl, (by omega), (by omega), (by omega), (by omega), (fun _ => ⟨by omega, by omega, fun j hj => hrg j (by omega)⟩), (HU.Zb hU14)⟩)))))))
 rw [decide_eq_false q11]
 refine Tq rfl (Tq rfl (Tq rfl (Tq rfl (Tq rfl (Tq rfl (Tq rfl (Tq rfl (Tq rfl ?_))))))))
 intro w15 hU15
 have:=hU15.size
 refine Wd (Cf (ZI (Zz (Zz (ZJ rfl (l0 := tf 0 20) (by kernel_rfl) (Tq rfl (Tq rfl (Tq rfl ?_))))))))
 replace HU := HU.Zb hU15
 by_cases q17 : 11 < (k : Int)
 ·rw [decide_eq_true q17]
  refine Tq rfl (Tq rfl (Tq rfl (Tq rfl (Tq rfl (Tq rfl (Tq rfl (Tq rfl (Tq rfl (Tq rfl (Tq rfl (Tq rfl (Tq rfl (Tq rfl (Tq rfl (Tq rfl (Tq rfl ?_))))))))))))))))
  intro w16 hU16
  have:=hU16.size
  exact Wd (Ct (Sn (Qs 3 rfl (Za (Zn (Zg rfl (Yr results144 rfl rfl rfl) ⟨_, rfl, 0, 0, 12, rfl, (by omega), (by omega), (by omega), (by omega), (fun h => absurd h (by decide)), (HU.Zb hU16)⟩))))))
 rw [decide_eq_false q17]
 refine Tq rfl (Tv rfl (fun _ _ => Y7 rfl rfl ZY) (Tv rfl (v := .int .i64 ((2 ^ (v - 1) : Nat) : Int)) (fun _ _ => r_shl rfl rfl (by omega) (shl1 (k := (v - 1)) (by omega) (by omega))) (Tq rfl (Tv rfl (v := .int .i64 ((2 ^ k : Nat) : Int)) (fun _ _ => r_shl rfl rfl (by omega) (shl1 (k := k) (by omega) (by omega))) (Tq rfl (Tv rfl (fun _ _ => Y7 rfl rfl ZY) (Tq rfl (Tq rfl (Tq rfl ?_)))))))))
 by_cases q18 : ((2 ^ (v - 1) : Nat) : Int) ≠ (((2 ^ k : Nat) : Int) - (s : Int))
 ·rw [decide_eq_true q18]
  refine Tq rfl (Tq rfl (Tq rfl (Tq rfl (Tq rfl (Tq rfl (Tq rfl ?_))))))
  intro w17 hU17
  have:=hU17.size
  exact Wd (Ct (Sn (Qs 3 rfl (Za (Zn (Zg rfl (Yr results144 rfl rfl rfl) ⟨_, rfl, 0, 0, 12, rfl, (by omega), (by omega), (by omega), (by omega), (fun h => absurd h (by decide)), (HU.Zb hU17)⟩))))))
 rw [decide_eq_false q18]
 refine Tq rfl (Tq rfl (Tq rfl ?_))
 by_cases q19 : (u : Int) = 0
 ·rw [decide_eq_true q19]
  refine Tq rfl (Tq rfl (Tq rfl (Tq rfl ?_)))
  intro w18 hU18
  have:=hU18.size
  refine Wd ?_
  replace HU := HU.Zb hU18
  refine W_if rfl (fun q20 => ?_) fun q20 => ?_
  ·exact Sn (Qs 3 rfl (Za (Zn (Zg rfl (Yr results144 rfl rfl rfl) ⟨_, rfl, 0, 0, 12, rfl, (by omega), (by omega), (by omega), (by omega), (fun h => absurd h (by decide)), HU⟩))))
  exact Zi (Sn (Qs 5 rfl (Za (Zn (Zg rfl (Yr results144 rfl rfl rfl) ⟨_, rfl, (k : Int), (v : Int), 0, rfl, (by omega), (by omega), (by omega), (by omega), (fun _ => ⟨by omega, by omega, fun j hj => hrg j (by omega)⟩), HU⟩)))))
 rw [decide_eq_false q19]
 refine Tq rfl (Tq rfl (Tq rfl (Tq rfl ?_)))
 intro w19 hU19
 have:=hU19.size
 exact Wd (Cf (Zi (Sn (Qs 5 rfl (Za (Zn (Zg rfl (Yr results144 rfl rfl rfl) ⟨_, rfl, (k : Int), (v : Int), 0, rfl, (by omega), (by omega), (by omega), (by omega), (fun _ => ⟨by omega, by omega, fun j hj => hrg j (by omega)⟩), (HU.Zb hU19)⟩)))))))
theorem wtree16 {a : Option Addr} {n c : Nat} {l : List Int} (w : World) (hs : Sl w (fun g => g < w.heap.size) 1 (.slice a n c) n (ints .i64 l)) (hn : n ≤ 1000000) :
  Calls Tryz.prog 124 #[.slice a n c] w (Ret fun v w' => ∃ (a' : Option Addr) (m' : Nat) (c' : Nat) (xs : List Int) (e : Int), v = .tuple #[.slice a' m' c', .int .i64 e] ∧ Own w' (fun g => w.heap.size ≤ g) 3 1 (.slice a' m' c') m' (ints .i64 xs) ∧ m' ≤ 256 ∧ Upd No w w') := by
 have HU := Upd.Yo w
 have hl_hs := ZC hs
 have hc_hs := hs.cap.1
 refine Zq func124 rfl ntmps124 (by simp) (Sn (Qs 2 rfl (Za (Sn (Qs 1 rfl (Zj (Zv rfl call144 rfl) (wlast16 _ hs.any (by omega)) ?_))))))
 rintro v w1 ⟨kk1, vv1, e1, rfl, hk0_1, hk1_1, hv0_1, hv1_1, he_1, hU1⟩
 have:=hU1.size
 refine Qs 7 rfl (Za (Sm (Qs 2 rfl (Za ?_))))
 replace HU := HU.Zb hU1
 by_cases q1 : e1 ≠ 0
 ·rw [decide_eq_true q1]
  exact Ct (Sn (Qs 3 rfl (Za (Zn (Zg rfl (Z2 results124 rfl rfl) ⟨_, rfl, none, 0, 0, [], e1, rfl, Own.nil _ _ _ _, (by omega), HU⟩)))))
 have hee := he_1 (Classical.not_not.1 q1)
 rw [decide_eq_false q1]
 refine Cf (Zi (Sn (Wl_lit0 underlying51 sizeOf3 ?_)))
 intro B2 w2 hB2 hU2 hzz2 hs2
 refine Qs 1 rfl (Z1 (xs := []) (ys := l) (zs := l) (k' := .i64) (tot := n) (by first | rfl | exact (ZR _ _).symm | simp) underlying51 (ti := Tryz.t3) (z := .int .i64 0) (sz := 1) (by' := 8) rfl rfl rfl rfl rfl (by decide) rfl hs2 rfl ((hs.Zc hU1).Zc hU2)  (by omega) (by simp only [maxLen]; omega) (by omega) ?_)
 intro a3 c3 w3 hU3 hzz3 hO3
 replace HU := HU.Zb hU2
 clear hs2
 have:=hU3.size
 replace hO3 := hO3.tight
 have hl_hO3 := ZC hO3.sl
 have hc_hO3 := hO3.sl.cap.1
 refine Qs 1 rfl (Xz [.int .i64 vv1] underlying51 sizeOf3 zeroValue3 ?_)
 intro B4 w4 hB4 hU4 hzz4 hs4
 replace hs4 : Own w4 (Is B4) 3 1 (.slice (some ⟨B4, 0, none⟩) 1 1) 1 (ints .i64 [vv1]) := hs4
 replace hs4 : Own w4 (Is B4) 3 1 (.slice (some ⟨B4, 0, none⟩) 1 1) 1 (ints .i64 [vv1]) := hs4
 replace hO3 := hO3.Zc hU4
 refine Z1 (xs := l) (ys := [vv1]) (zs := l ++ [vv1]) (k' := .i64) (tot := n + 1) (by first | rfl | exact (ZR _ _).symm | simp) underlying51 (ti := Tryz.t3) (z := .int .i64 0) (sz := 1) (by' := 8) rfl rfl rfl rfl rfl (by decide) rfl hO3 rfl hs4.sl  (by omega) (by simp only [maxLen]; omega) (by omega) ?_
 intro a5 c5 w5 hU5 hzz5 hO5
 replace HU := (HU.trans hU3).Zb hU4
 clear hO3
 have:=hU5.size
 replace hO5 := hO5.tight
 have hl_hO5 := ZC hO5.sl
 have hc_hO5 := hO5.sl.cap.1
 refine Qs 1 rfl (Za (Sm (Qs 1 rfl (Za (Zs (ZS (fun mu ρ ds w' => ∃ (i : Nat) (ys : List Int), n + 1 - i = mu ∧ ds = [] ∧ Liv ρ [(4, .int .i64 kk1), (7, .slice a5 (n + 1) c5), (8, .int .i64 i)] ∧ i ≤ n + 1 ∧ R30 ys ∧ Own w' (fun g => ((((((((g = B2) ∨ g = w2.heap.size)) ∧ g < w3.heap.size)) ∨ g = w4.heap.size)) ∧ g < w5.heap.size)) 3 1 (.slice a5 (n + 1) c5) (n + 1) (ints .i64 ys) ∧ Upd (fun g => w.heap.size ≤ g) w5 w') _ ⟨0, (l ++ [vv1]), rfl, rfl, ⟨rfl, rfl, (by first | rfl | exact Zt (by omega) | exact Zt (by simp)), trivial⟩, (by omega), (R30.of (fun j hj => hee.2.2 j (by omega)) ⟨by omega, by omega⟩), hO5, Upd.refl _ _⟩ ?_))))))
 rintro m6 ρ6 ds6 w6 ⟨i, ys, rfl, rfl, hl6, hi, hr, hY, hU6⟩
 obtain ⟨ρ6x, rfl⟩ : ∃ ρx, ρ6 = upds ρx [(4, .int .i64 kk1), (7, .slice a5 (n + 1) c5), (8, .int .i64 i)] := ⟨_, ZD hl6⟩
 replace HU := HU.trans hU5
 clear hl6
 have:=hU6.size
 have hl_hY := ZC hY.sl
 have hc_hY := hY.sl.cap.1
 have hri := hr.gd i
 have HL6 := hU6
 refine Sm (Qs 2 rfl (Zf (ZM underlying51 rfl) (Qs 1 rfl (Za (W_if rfl (fun q2 => ?_) fun q2 => ?_)))))
 ·refine Zi (Zz (Zs (Sn (Qs 2 rfl (Z7 underlying51 sizeOf3 rfl rfl hY.sl (by omega) (by omega) ?_)))))
  intro ib7 io7 hc7
  rw [Int.toNat_natCast] at hc7
  refine ZH isAgg3 rfl hc7 (Qs 1 rfl (Za (W_if rfl (fun q3 => ?_) fun q3 => ?_)))
  ·refine Zl (Qs 3 rfl (Xd rfl rfl (Qs 2 rfl (Z7 underlying51 sizeOf3 rfl rfl hY.sl (by omega) (by omega) ?_))))
   intro ib8 io8 hc8
   rw [Int.toNat_natCast] at hc8
   refine ZH isAgg3 rfl hc8 (Xs rfl rfl ?_)
   obtain ⟨g9, rfl, hg9⟩ := hY.addr (by omega)
   replace hg9 : ((((((((g9 = B2) ∨ g9 = w2.heap.size)) ∧ g9 < w3.heap.size)) ∨ g9 = w4.heap.size)) ∧ g9 < w5.heap.size) := hg9
   refine Wl_idxo (i' := i) underlying51 sizeOf3 rfl rfl hY (by omega) (by omega) ?_
   intro hc10
   refine Wl_storeo (i := i) sizeOf3 rfl rfl hY (by omega) ?_
   intro w11 hU11 hzz11 hO11
   replace HU := HU.trans hU6
   clear hY
   have:=hU11.size
   have hl_hO11 := ZC hO11.sl
   have hc_hO11 := hO11.sl.cap.1
   refine Za (Zl (Qs 1 rfl (Xd rfl rfl (Qs 1 rfl (Za ?_)))))
   refine ⟨_, ?_, (i + 1), (ys.set i ((kk1 + 1) - (ys.getD i 0))), rfl, rfl, ⟨rfl, rfl, Zt, trivial⟩, (by omega), (hr.set ⟨by omega, by omega⟩), hO11, (HL6.Zr hU11)⟩
   omega
  refine Zi (Zl (Qs 1 rfl (Xd rfl rfl (Qs 1 rfl (Za ?_)))))
  refine ⟨_, ?_, (i + 1), ys, rfl, rfl, ⟨rfl, rfl, Zt, trivial⟩, (by omega), hr, hY, HL6⟩
  omega
 exact ZI (Sn (Qs 3 rfl (Za (Zn (Zg rfl (Z2 results124 rfl rfl) ⟨_, rfl, a5, (n + 1), c5, _, 0, rfl, hY.weak, (by omega), (HU.trans hU6)⟩)))))
theorem whalves {a : Option Addr} {n c p k : Nat} {b : List Int} (w : World) (hs : Sl w (fun g => g < w.heap.size) 1 (.slice a n c) n (ints .u8 b)) (hb : Byt b) (hp : p ≤ n) (hn : n ≤ 1000000) (hk : 1 ≤ k ∧ k ≤ 255) :
  Calls Tryz.prog 122 #[.slice a n c, .int .i64 p, .int .i64 k] w (Ret fun v w' => ∃ (a' : Option Addr) (m' : Nat) (c' : Nat) (xs : List Int) (qq : Nat) (e : Int), v = .tuple #[.slice a' m' c', .int .i64 qq, .int .i64 e] ∧ Sl w' (fun g => w.heap.size ≤ g) 1 (.slice a' m' c') m' (ints .i64 xs) ∧ p ≤ qq ∧ qq ≤ n ∧ m' ≤ 131072 ∧ Upd No w w') := by
 have HU := Upd.Yo w
 have hl_hs := ZC hs
 have hc_hs := hs.cap.1
 refine Zq func122 rfl ntmps122 (by simp) (Sn (Qs 3 rfl (Za (Sn (Qs 3 rfl (Xd rfl rfl (Zf (YT rfl rfl (by omega) (tq (by omega) ZY)) (Zj (Z5 rfl call29 rfl rfl rfl) (wbys _ hs hb (by omega) (by omega)) ?_))))))))
 rintro v w1 ⟨a1, m1, c1, z1, qz1, e1, rfl, hB1, hz_1, hm9_1, hq_1, hq2_1, he_1, hU1⟩
 have:=hU1.size
 have hl_hB1 := ZC hB1
 have hc_hB1 := hB1.cap.1
 refine Qs 7 rfl (Za (Sm (Qs 2 rfl (Za ?_))))
 replace HU := HU.Zb hU1
 by_cases q1 : e1 ≠ 0
 ·rw [decide_eq_true q1]
  exact Ct (Sn (Qs 5 rfl (Za (Zn (Zg rfl (Yr results122 rfl rfl rfl) ⟨_, rfl, none, 0, 0, [], p, e1, rfl, Sl.nil _ _ _, (by omega), (by omega), (by omega), HU⟩)))))
 have hee := he_1 (Classical.not_not.1 q1)
 rw [decide_eq_false q1]
 refine Cf (Zi (Sn (Qs 1 rfl (Za (Sm (Qs 1 rfl (Za (Zs (ZS (fun mu ρ ds w' => ∃ (i : Nat) (q9 : Nat) (xs : List Int) (a9 : Option Addr) (c9 : Nat), m1 - i = mu ∧ ds = [] ∧ Liv ρ [(1, .int .i64 p), (2, .int .i64 k), (9, .slice a1 m1 c1), (10, .int .i64 qz1), (12, .slice a9 q9 c9), (13, .int .i64 i)] ∧ i ≤ m1 ∧ q9 = 2 * i ∧ Own w' (fun g => w1.heap.size ≤ g) 3 1 (.slice a9 q9 c9) q9 (ints .i64 xs) ∧ Upd (fun g => w1.heap.size ≤ g) w1 w') _ ⟨0, 0, [], none, 0, rfl, rfl, ⟨rfl, rfl, rfl, rfl, (by first | rfl | exact Zt (by omega) | exact Zt (by simp)), (by first | rfl | exact Zt (by omega) | exact Zt (by simp)), trivial⟩, (by omega), (by omega), (by exact Own.nil _ _ _ _), Upd.refl _ _⟩ ?_)))))))))
 rintro m2 ρ2 ds2 w2 ⟨i, q9, xs, a9, c9, rfl, rfl, hl2, hi, hq9, hO, hU2⟩
 obtain ⟨ρ2x, rfl⟩ : ∃ ρx, ρ2 = upds ρx [(1, .int .i64 p), (2, .int .i64 k), (9, .slice a1 m1 c1), (10, .int .i64 qz1), (12, .slice a9 q9 c9), (13, .int .i64 i)] := ⟨_, ZD hl2⟩
 clear hl2
 have:=hU2.size
 replace hO := hO.tight
 have hl_hO := ZC hO.sl
 have hc_hO := hO.sl.cap.1
 have hgz := Yi hz_1 i
 have HL2 := hU2
 refine Sm (Qs 2 rfl (Zf (ZM underlying22 rfl) (Qs 1 rfl (Za (W_if rfl (fun q2 => ?_) fun q2 => ?_)))))
 ·refine Zi (Zz (Zs (ZJ rfl (l0 := tf 0 16) (by kernel_rfl) (Tq rfl (Tq rfl (Tq rfl ?_))))))
  replace hB1 := hB1.upd hU2
  obtain ⟨ib3, io3, ha3, hib3, hc3⟩ := (hB1).iat (i := i) (by omega)
  replace hib3 : ib3 < w.heap.size := hib3
  refine Tv rfl (fun _ _ => Yl (b := ib3) (off := io3) (m := m1) (c := c1) (o' := io3 + i) underlying22 sizeOf5 (by rw [← ha3]; rfl) rfl (by omega) (by omega) (by omega)) (Tv rfl (v := .int .u8 (z1.getD i 0)) (fun w' hw' => Yd isAgg5 rfl (hw'.Y8 hc3)) (Tv rfl (fun _ _ => ZZ underlying5 underlying3 rfl ZY) (Tv rfl (fun _ _ => YW rfl rfl (by omega) (tr (by omega))) (Tq rfl (Tq rfl ?_)))))
  obtain ⟨ib4, io4, ha4, hib4, hc4⟩ := (hB1).iat (i := i) (by omega)
  replace hib4 : ib4 < w.heap.size := hib4
  refine Tv rfl (fun _ _ => Yl (b := ib4) (off := io4) (m := m1) (c := c1) (o' := io4 + i) underlying22 sizeOf5 (by rw [← ha4]; rfl) rfl (by omega) (by omega) (by omega)) (Tv rfl (v := .int .u8 (z1.getD i 0)) (fun w' hw' => Yd isAgg5 rfl (hw'.Y8 hc4)) (Tv rfl (fun _ _ => ZZ underlying5 underlying3 rfl ZY) (Tv rfl (fun _ _ => YT rfl rfl (by omega) (tq (by omega) ZY)) ?_)))
  intro w5 hU5
  have:=hU5.size
  replace hc3 := ZG hU5 hc3
  replace hc4 := ZG hU5 hc4
  refine Wo 13 (tf 14 16) rfl ?_
  have hW : Upd No w2 w5 := hU5
  refine Xz [.int .i64 ((z1.getD i 0) % 16), .int .i64 ((z1.getD i 0) / 16)] underlying51 sizeOf3 zeroValue3 ?_
  intro B6 w6 hB6 hU6 hzz6 hs6
  replace hc3 := ZG hU6 hc3
  replace hc4 := ZG hU6 hc4
  try replace hW := hW.Zb hU6
  replace hs6 : Own w6 (Is B6) 3 1 (.slice (some ⟨B6, 0, none⟩) 2 2) 2 (ints .i64 [(z1.getD i 0) % 16, (z1.getD i 0) / 16]) := hs6
  refine Za ?_
  intro w7 hS7
  have hX : Upd No w2 w7 := hW.Zb hS7.upd
  refine bF hX ?_
  have hU7 := hS7.upd
  have:=hU7.size
  replace hc3 := ZG hU7 hc3
  replace hc4 := ZG hU7 hc4
  try replace hW := hW.Zb hU7
  refine ZQ hX ?_
  intro w8 hU8
  have:=hU8.size
  replace hc3 := ZG hU8 hc3
  replace hc4 := ZG hU8 hc4
  try replace hW := hW.Zb hU8
  refine Wo 14 (tf 15 16) rfl ?_
  have hW : Upd No w7 w8 := hU8
  replace hO := (((hO.Zc hU5).Zc hU6).Zc hU7).Zc hU8
  refine Z1 (xs := xs) (ys := [(z1.getD i 0) % 16, (z1.getD i 0) / 16]) (zs := xs ++ [(z1.getD i 0) % 16, (z1.getD i 0) / 16]) (k' := .i64) (tot := q9 + 2) (by first | rfl | exact (ZR _ _).symm | simp) underlying51 (ti := Tryz.t3) (z := .int .i64 0) (sz := 1) (by' := 8) rfl rfl rfl rfl rfl (by decide) rfl hO rfl ((hs6.Zc hU7).Zc hU8).sl  (by omega) (by simp only [maxLen]; omega) (by omega) ?_
  intro a9 c9 w9 hU9 hzz9 hO9
  replace HU := HU.trans hU2
  replace HL2 := (((HL2.Zb hU5).Zb hU6).Zb hU7).Zb hU8
  clear hO
  have:=hU9.size
  replace hO9 := hO9.tight
  have hl_hO9 := ZC hO9.sl
  have hc_hO9 := hO9.sl.cap.1
  refine Za ?_
  intro w10 hS10
  refine bT (Upd No w10) ?_
  have hU10 := hS10.upd
  have:=hU10.size
  try replace hW := hW.Zb hU10
  refine ZQ (Upd.refl _ _) (Tq rfl ?_)
  intro w11 hU11
  have:=hU11.size
  try replace hW := hW.Zb hU11
  refine Wd (Zl (Qs 1 rfl (Xd rfl rfl (Qs 1 rfl (Za ?_)))))
  refine ⟨_, ?_, (i + 1), (q9 + 2), (xs ++ [(z1.getD i 0) % 16, (z1.getD i 0) / 16]), a9, c9, rfl, rfl, ⟨rfl, rfl, rfl, rfl, rfl, Zt, trivial⟩, (by omega), (by omega), (((hO9.Zc hU10).Zc hU11).weak), (((HL2.trans hU9).Zb hU10).Zb hU11)⟩
  omega
 refine ZI (Sm (Qs 2 rfl (Zf (ZM underlying51 rfl) (Qs 2 rfl ?_))))
 replace HU := HU.trans hU2
 by_cases q3 : (k : Int) < (q9 : Int)
 ·rw [decide_eq_true q3]
  refine Gt (Qs 1 rfl (Gt (Qs 1 rfl (Gt (Z7 underlying51 sizeOf3 rfl rfl hO.sl (by omega) (by omega) ?_)))))
  intro ib12 io12 hc12
  rw [Int.toNat_natCast] at hc12
  refine Gt (ZH isAgg3 rfl hc12 (Gt (Qs 1 rfl (Zf (Zx (v := .bool (decide ((xs.getD k 0) ≠ 0))) rfl rfl) (Za (W_if rfl (fun q4 => ?_) fun q4 => ?_))))))
  ·exact Sn (Qs 4 rfl (Za (Zn (Zg rfl (Yr results122 rfl rfl rfl) ⟨_, rfl, none, 0, 0, [], p, 12, rfl, Sl.nil _ _ _, (by omega), (by omega), (by omega), HU⟩))))
  refine Zi (Sn (Qs 2 rfl (Zf (Y5 (h' := k) underlying51 sizeOf3 rfl rfl (by omega) (by omega)) ?_)))
  have hT13 := Sl.cuth (n := k) hO.sl (by omega)
  have hl_hT13 := ZC hT13
  have hc_hT13 := hT13.cap.1
  exact Qs 4 rfl (Za (Zn (Zg rfl (Yr results122 rfl rfl rfl) ⟨_, rfl, a9, k, c9, (xs.take k), qz1, 0, rfl, hT13.weak, (by omega), (by omega), (by omega), HU⟩)))
 rw [decide_eq_false q3]
 refine Gf (Gf (Gf (Gf (Gf (Zf (Zw (v := .bool false) rfl rfl) (Za (Cf (Zi (Sn (Qs 2 rfl (Zf (Y5 (h' := k) underlying51 sizeOf3 rfl rfl (by omega) (by omega)) ?_)))))))))))
 have hT14 := Sl.cuth (n := k) hO.sl (by omega)
 have hl_hT14 := ZC hT14
 have hc_hT14 := hT14.cap.1
 exact Qs 4 rfl (Za (Zn (Zg rfl (Yr results122 rfl rfl rfl) ⟨_, rfl, a9, k, c9, (xs.take k), qz1, 0, rfl, hT14.weak, (by omega), (by omega), (by omega), HU⟩)))
theorem wcoded16 {a : Option Addr} {n c p k : Nat} {b : List Int} (w : World) (hs : Sl w (fun g => g < w.heap.size) 1 (.slice a n c) n (ints .u8 b)) (hb : Byt b) (hp : p ≤ n) (hn : n ≤ 1000000) (hk : 1 ≤ k ∧ k ≤ 255) :
  Calls Tryz.prog 123 #[.slice a n c, .int .i64 p, .int .i64 k] w (Ret fun v w' => ∃ (a' : Option Addr) (m' : Nat) (c' : Nat) (xs : List Int) (qq : Nat) (e : Int), v = .tuple #[.slice a' m' c', .int .i64 qq, .int .i64 e] ∧ Sl w' (fun g => w.heap.size ≤ g) 1 (.slice a' m' c') m' (ints .i64 xs) ∧ p ≤ qq ∧ qq ≤ n ∧ m' ≤ 131072 ∧ Upd No w w') := by
 have HU := Upd.Yo w
 have hl_hs := ZC hs
 have hc_hs := hs.cap.1
 refine Zq func123 rfl ntmps123 (by simp) (Sn (Qs 3 rfl (Za (Sn (Qs 2 rfl (Zj (r_call4 rfl call130 rfl rfl rfl rfl) (wtget _ hs.any hb (by omega) (by omega)) ?_))))))
 rintro v w1 ⟨lg1, a1, m1, c1, N1, q1, e1, rfl, hO1, hN_1, hq1_1, hq2_1, hU1⟩
 have:=hU1.size
 replace hO1 := hO1.tight
 have hl_hO1 := ZC hO1.sl
 have hc_hO1 := hO1.sl.cap.1
 obtain ⟨qa, hqa⟩ : ∃ qa : Nat, (qa : Int) = q1 := ⟨(q1).toNat, by omega⟩
 refine Qs 4 rfl (ZB zeroValue53 rfl ?_)
 intro B2 w2 hB2 hU2 hzz2 hb2
 refine Xa sizeOf53 rfl rfl rfl rfl hb2 rfl ?_
 intro w3 hU3 hzz3 hb2
 refine Qs 1 rfl ?_
 rw [show (q1 : Int) = (qa : Int) from hqa.symm]
 refine Qs 1 rfl (Za (Sm (Qs 2 rfl (Za ?_))))
 replace HU := ((HU.Zb hU1).Zb hU2).t1 hU3
 refine W_if rfl (fun q1 => ?_) fun q1 => ?_
 ·exact Sn (Qs 5 rfl (Za (Zn (Zg rfl (Yr results123 rfl rfl rfl) ⟨_, rfl, none, 0, 0, [], p, e1, rfl, Sl.nil _ _ _, (by omega), (by omega), (by omega), HU⟩))))
 refine Zi (Sn (Qs 2 rfl ?_))
 replace hs := ((hs.Zc hU1).Zc hU2).Zh hU3
 refine Zj (Z5 rfl call121 rfl rfl rfl) (wnum (k := 131072) _ hs.any hb (by omega) (by omega) (by omega)) ?_
 rintro v w4 ⟨xz4, qz4, e4, rfl, hx_4, hq_4, hq2_4, hU4⟩
 have:=hU4.size
 refine Qs 7 rfl (Za (Sm (Qs 2 rfl (Za ?_))))
 replace HU := HU.Zb hU4
 refine W_if rfl (fun q2 => ?_) fun q2 => ?_
 ·exact Sn (Qs 5 rfl (Za (Zn (Zg rfl (Yr results123 rfl rfl rfl) ⟨_, rfl, none, 0, 0, [], p, e4, rfl, Sl.nil _ _ _, (by omega), (by omega), (by omega), HU⟩))))
 refine Zi (Sn (Qs 3 rfl (Zj (Z5 rfl call29 rfl rfl rfl) (wbys _ (hs.Zc hU4) hb (by omega) (by omega)) ?_)))
 rintro v w5 ⟨a5, m5, c5, z5, qz5, e5, rfl, hB5, hz_5, hm9_5, hq_5, hq2_5, he_5, hU5⟩
 have:=hU5.size
 have hl_hB5 := ZC hB5
 have hc_hB5 := hB5.cap.1
 refine Qs 7 rfl (Za (Sm (Qs 2 rfl (Za ?_))))
 replace HU := HU.Zb hU5
 refine W_if rfl (fun q3 => ?_) fun q3 => ?_
 ·exact Sn (Qs 5 rfl (Za (Zn (Zg rfl (Yr results123 rfl rfl rfl) ⟨_, rfl, none, 0, 0, [], p, e5, rfl, Sl.nil _ _ _, (by omega), (by omega), (by omega), HU⟩))))
 refine Zi (Sn (Xl isAgg53 sizeOf53 rfl ((hb2.Zc hU4).Zc hU5) rfl (Qs 2 rfl (Zj (Z5 rfl call143 rfl rfl rfl) (wflow _ ((((hO1.Zc hU2).Zh hU3).Zc hU4).Zc hU5).sl.any ((hN_1 (Classical.not_not.1 q1)).any (by decide)) hB5.any hz_5 (by omega) (by omega)) ?_))))
 rintro v w6 ⟨a6, m6, c6, xs6, e6, rfl, hO6, hm9_6, hU6⟩
 have:=hU6.size
 replace hO6 := hO6.tight
 have hl_hO6 := ZC hO6.sl
 have hc_hO6 := hO6.sl.cap.1
 exact Qs 5 rfl (Za (Sn (Qs 6 rfl (Za (Zn (Zg rfl (Yr results123 rfl rfl rfl) ⟨_, rfl, a6, m6, c6, xs6, qz5, e6, rfl, hO6.weak.sl, (by omega), (by omega), (by omega), (HU.Zb hU6)⟩))))))
end Go.Proofs.YtbjjhfoeckkacaaGreatDoor
