/-
  Several texts of this project, put together.
-/
import Derived.Test.YtbjjhfoeckkacaaGreatDoorFZ
import Derived.Test.YtbjjhfoeckkacaaGreatDoorDY
import Derived.Test.YtbjjhfoeckkacaaGreatDoorDA
import Derived.Test.YtbjjhfoeckkacaaGreatDoorSQ
set_option linter.unusedVariables false
set_option linter.unusedSimpArgs false
set_option maxRecDepth 100000
set_option maxHeartbeats 16000000
namespace Go.Proofs.YtbjjhfoeckkacaaGreatDoor
open Go.Fw _root_.Go.Proofs.Tryz
theorem showholds {a : Option Addr} {n c : Nat} {bs : List Int} {g0 : Nat} (w : World) (ht : Tab w g0) (hs : Sl w (fun g => g < w.heap.size) 1 (.slice a n c) n (ints .u8 bs)) (hb : Byt bs) (hm9 : n ≤ 140737488351232) :
  Calls Tryz.prog 3 #[.slice a n c] w (Ret fun v w' => v = .bool true ∧ Upd No w w') := by
 have HU := Upd.Yo w
 have hl_hs := ZC hs
 have hc_hs := hs.cap.1
 have htl := ht.1
 refine Zq func3 rfl ntmps3 (by simp) (Sn (Qs 1 rfl (Za (Sm (Qs 1 rfl (Zf (ZM underlying22 rfl) (Qs 1 rfl (Za (W_if rfl (fun q1 => ?_) fun q1 => ?_)))))))))
 ·refine Sn (Zj (r_call0 rfl call4 ) (works44 _ ht) ?_)
  rintro v w1 ⟨rfl, hU1⟩
  have:=hU1.size
  exact Qs 1 rfl (Za (Zn (Zg rfl (Z9 results3 rfl) ⟨_, rfl, rfl, (HU.Zb hU1)⟩)))
 refine Zi (Sn (Qs 1 rfl ?_))
 by_cases q2 : (ga bs 0).2 = 0
 ·refine Zj (Zv rfl call5 rfl) (read_ok _ hs.any hb (by omega) q2) ?_
  rintro v w2 ⟨a2, m2, c2, rfl, hT2, hU2⟩
  have:=hU2.size
  obtain ⟨vs3, hv3, hS3, hP3⟩ := hT2
  have hl_hS3 := Ya encP_len (by decide) hS3
  have hc_hS3 := hS3.cap.1
  have hlm3 : (ga bs 0).1.length = m2 := by rw [← hv3, List.length_map]; exact hl_hS3
  refine Qs 5 rfl (Za (Sm (Qs 1 rfl (Zj (Zv rfl call6 rfl) (num44 _ ) ?_))))
  rintro v w4 ⟨rfl, hU4⟩
  have:=hU4.size
  refine Zf (v := .bool false) (Yh (a := 0) (b := 0) rfl rfl) (Za (Cf (Zi (Sn (Qs 1 rfl (Za (Sm (Qs 1 rfl (Za (Zs ?_))))))))))
  have hcv := ga_cov hb 0 q2 (Nat.zero_le _)
  have hgn := ga_len hb (by omega)
  refine ZS (fun mu ρ ds w' => ∃ (k : Nat), m2 - k = mu ∧ ds = [] ∧ Liv ρ [(0, .slice a n c), (3, .slice a2 m2 c2), (6, .int .i64 (pe (ga bs 0).1 k)), (7, .int .i64 k)] ∧ k ≤ m2 ∧ Upd No w4 w') _ ⟨0, rfl, rfl, ⟨rfl, rfl, rfl, (by first | rfl | exact Zt (by omega) | exact Zt (by simp)), trivial⟩, (by omega), Upd.refl _ _⟩ ?_
  rintro m5 ρ5 ds5 w5 ⟨k, rfl, rfl, hl5, hk, hU5⟩
  obtain ⟨ρ5x, rfl⟩ : ∃ ρx, ρ5 = upds ρx [(0, .slice a n c), (3, .slice a2 m2 c2), (6, .int .i64 (pe (ga bs 0).1 k)), (7, .int .i64 k)] := ⟨_, ZD hl5⟩
  replace ht := (ht.Zc hU2).Zc hU4
  replace HU := (HU.Zb hU2).Zb hU4
  replace hS3 := hS3.Zc hU4
  replace hP3 := hP3.Zc hU4
  clear hl5
  have:=hU5.size
  have HL5 := hU5
  refine Sm (Qs 2 rfl (Zf (ZM underlying24 rfl) (Qs 1 rfl (Za ?_))))
  by_cases q3 : (k : Int) < (m2 : Int)
  ·have hcg := hcv.1 k (by omega)
   have hc1 := hcg.at_
   have hc2 := hcg.sz
   have hc3 := hcg.lo
   have hc4 := hcg.up
   have hpe : pe (ga bs 0).1 (k + 1) = pe (ga bs 0).1 k + ((ga bs 0).1.getD k pt0).sz := rfl
   have hok := hcg.ok
   have hbn := (ga_okd hb (by omega) k).1.bn
   rw [decide_eq_true q3]
   refine Ct (Zi (Zz (Zs (Sn (Qs 2 rfl (Yg pv0 encP_len (by decide) underlying24 sizeOf37 rfl rfl (hS3.Zc hU5) (by omega) (by omega) ?_))))))
   intro ib6 io6 hc6
   try rw [Int.toNat_natCast] at hc6
   obtain ⟨ba7, bm7, bc7, hbe7⟩ := gd_part (i := k) hv3
   rw [hbe7] at hc6
   have hB8 := hPget (hP3.Zc hU5) hbe7 (by omega)
   have hl_hB8 := Ya Y2 (by decide) hB8
   have hc_hB8 := hB8.cap.1
   refine Zf (YE (cs := [.int .i64 (((ga bs 0).1.getD k pt0).at_), .int .i64 (((ga bs 0).1.getD k pt0).sz), .bool (decide (((ga bs 0).1.getD k pt0).sk = true)), .int .i64 (((ga bs 0).1.getD k pt0).pl), .int .i64 (((ga bs 0).1.getD k pt0).hd.1), .int .i64 (((ga bs 0).1.getD k pt0).hd.2.1), .int .u32 (((ga bs 0).1.getD k pt0).hd.2.2.1), .bool (decide (((ga bs 0).1.getD k pt0).hd.2.2.2 = true)), .slice ba7 bm7 bc7, .int .u32 (((ga bs 0).1.getD k pt0).ck)]) isAgg37 sizeOf37 rfl rfl hc6) (ZB zeroValue37 rfl ?_)
   intro B9 w9 hB9 hU9 hzz9 hb9
   refine Xa sizeOf37 rfl rfl rfl rfl hb9 rfl ?_
   intro w10 hU10 hzz10 hb9
   refine Za (Sm (Zf (Zo underlying37 rfl sizeOf3 rfl rfl) (Zk isAgg3 rfl hb9 rfl (Qs 3 rfl ?_))))
   have q4 : ¬ ((((ga bs 0).1.getD k pt0).at_) ≠ (pe (ga bs 0).1 k)) := (by omega)
   rw [decide_eq_false q4]
   refine Gt (Zf (Zo underlying37 rfl sizeOf3 rfl rfl) (Gt (Zk isAgg3 rfl hb9 rfl (Gt (Qs 1 rfl (Zf (Zw (v := .bool (decide ((((ga bs 0).1.getD k pt0).sz) < 1))) rfl rfl) (Qs 1 rfl ?_)))))))
   have q5 : ¬ ((((ga bs 0).1.getD k pt0).sz) < 1) := (by omega)
   rw [decide_eq_false q5]
   refine Gt (Zf (Zo underlying37 rfl sizeOf4 rfl rfl) (Gt (Zk isAgg4 rfl hb9 rfl (Gt (Qs 1 rfl ?_)))))
   replace HL5 := (HL5.Zb hU9).Zr hU10
   by_cases q6 : ((ga bs 0).1.getD k pt0).sk = true
   ·have hks := hok.1 q6
    have hks1 := hks.1
    have hks2 := hks.2
    rw [decide_eq_true q6]
    refine Gt (Zf (Zo underlying37 rfl sizeOf3 rfl rfl) (Gt (Zk isAgg3 rfl hb9 rfl (Gt (Zf (Zo underlying37 rfl sizeOf3 rfl rfl) (Gt (Zk isAgg3 rfl hb9 rfl (Gt (Xd rfl rfl (Gt (Qs 1 rfl (Gt (Qs 1 rfl ?_)))))))))))))
    have q7 : ¬ ((((ga bs 0).1.getD k pt0).sz) ≠ ((((ga bs 0).1.getD k pt0).pl) + 8)) := (by omega)
    rw [decide_eq_false q7]
    refine Gt (Zf (Zo underlying37 rfl sizeOf35 rfl rfl) (Gt (Zk isAgg35 rfl hb9 rfl (Gt (Zf (ZM underlying35 rfl) (Gt (Qs 1 rfl (Gt (Zf (Zw (v := .bool (decide (0 < (bm7 : Int)))) rfl rfl) (Gt (Zf (Zx (v := .bool (decide (0 < (bm7 : Int)))) rfl rfl) (Zf (Zw (v := .bool (decide (0 < (bm7 : Int)))) rfl rfl) (Qs 1 rfl ?_)))))))))))))
    have q8 : ¬ (0 < (bm7 : Int)) := (by omega)
    rw [decide_eq_false q8]
    refine Gt (Zf (Zo underlying37 rfl sizeOf4 rfl rfl) (Gt (Zk isAgg4 rfl hb9 rfl (Gt (Zf (YX rfl) (Gt (Qs 1 rfl ?_)))))))
    have q9 : ((ga bs 0).1.getD k pt0).sk = true := q6
    rw [decide_eq_true q9]
    simp only [Bool.not_true, Bool.not_false]
    refine Gf (Gf (Gf (Gf (Gt (Zf (Zw (v := .bool false) rfl rfl) (Zf (Zw (v := .bool false) rfl rfl) (Za (Cf (Zi (Sn (Qs 1 rfl (Zf (Zo underlying37 rfl sizeOf3 rfl rfl) (Zk isAgg3 rfl hb9 rfl (Xd rfl rfl (Qs 1 rfl (Za (Sn (Qs 1 rfl (Za (Zs ?_))))))))))))))))))))
    refine ZS (fun mu ρ ds w' => ∃ (j : Nat), bm7 - j = mu ∧ ds = [] ∧ Liv ρ [(0, .slice a n c), (3, .slice a2 m2 c2), (6, .int .i64 ((pe (ga bs 0).1 k) + (((ga bs 0).1.getD k pt0).sz))), (7, .int .i64 k), (8, .pointer (some ⟨B9, 0, none⟩)), (9, .int .i64 j), (48, .pointer (some ⟨B9, 1, none⟩)), (49, .int .i64 (((ga bs 0).1.getD k pt0).sz)), (50, .bool false), (53, .pointer (some ⟨B9, 2, none⟩)), (54, .bool true), (55, .bool true), (56, .pointer (some ⟨B9, 1, none⟩)), (57, .int .i64 (((ga bs 0).1.getD k pt0).sz)), (58, .pointer (some ⟨B9, 3, none⟩)), (59, .int .i64 (((ga bs 0).1.getD k pt0).pl)), (60, .int .i64 ((((ga bs 0).1.getD k pt0).pl) + 8)), (61, .bool false), (62, .bool false), (63, .pointer (some ⟨B9, 8, none⟩)), (64, .slice ba7 bm7 bc7), (65, .int .i64 bm7), (66, .bool false), (67, .bool false), (68, .bool false), (71, .pointer (some ⟨B9, 2, none⟩)), (72, .bool true), (73, .bool false), (74, .bool false), (79, .bool false)] ∧ j ≤ bm7 ∧ Upd No w10 w') _ ⟨0, rfl, rfl, ⟨rfl, rfl, rfl, rfl, rfl, (by first | rfl | exact Zt (by omega) | exact Zt (by simp)), rfl, rfl, rfl, rfl, rfl, rfl, rfl, rfl, rfl, rfl, rfl, rfl, rfl, rfl, rfl, rfl, rfl, rfl, rfl, rfl, rfl, rfl, rfl, rfl, trivial⟩, (by omega), Upd.refl _ _⟩ ?_
    rintro m11 ρ11 ds11 w11 ⟨j, rfl, rfl, hl11, hj, hU11⟩
    obtain ⟨ρ11x, rfl⟩ : ∃ ρx, ρ11 = upds ρx [(0, .slice a n c), (3, .slice a2 m2 c2), (6, .int .i64 ((pe (ga bs 0).1 k) + (((ga bs 0).1.getD k pt0).sz))), (7, .int .i64 k), (8, .pointer (some ⟨B9, 0, none⟩)), (9, .int .i64 j), (48, .pointer (some ⟨B9, 1, none⟩)), (49, .int .i64 (((ga bs 0).1.getD k pt0).sz)), (50, .bool false), (53, .pointer (some ⟨B9, 2, none⟩)), (54, .bool true), (55, .bool true), (56, .pointer (some ⟨B9, 1, none⟩)), (57, .int .i64 (((ga bs 0).1.getD k pt0).sz)), (58, .pointer (some ⟨B9, 3, none⟩)), (59, .int .i64 (((ga bs 0).1.getD k pt0).pl)), (60, .int .i64 ((((ga bs 0).1.getD k pt0).pl) + 8)), (61, .bool false), (62, .bool false), (63, .pointer (some ⟨B9, 8, none⟩)), (64, .slice ba7 bm7 bc7), (65, .int .i64 bm7), (66, .bool false), (67, .bool false), (68, .bool false), (71, .pointer (some ⟨B9, 2, none⟩)), (72, .bool true), (73, .bool false), (74, .bool false), (79, .bool false)] := ⟨_, ZD hl11⟩
    replace ht := ht.Zc hU5
    replace HU := HU.Zb hU5
    replace hB8 := (hB8.Zc hU9).Zh hU10
    clear hl11
    have:=hU11.size
    have HL11 := hU11
    refine Sm (Qs 1 rfl (Zf (Zo underlying37 rfl sizeOf35 rfl rfl) (Zk isAgg35 rfl (hb9.Zc hU11) rfl (Zf (ZM underlying35 rfl) (Qs 1 rfl (Za ?_))))))
    by_cases q10 : (j : Int) < (bm7 : Int)
    ·omega
    rw [decide_eq_false q10]
    refine Cf (ZI (Zl (Qs 1 rfl (Xd rfl rfl (Qs 1 rfl (Za ?_))))))
    refine ⟨_, ?_, (k + 1), rfl, rfl, ⟨rfl, rfl, rfl, Zt, trivial⟩, (by omega), (HL5.Zb hU11)⟩
    omega
   have hkb := hok.2 q6
   have hkb1 := hkb.1
   rw [decide_eq_false q6]
   refine Gf (Gf (Gf (Gf (Gf (Gf (Gf (Z6 rfl (Z6 rfl (Z6 rfl (Z6 rfl (Gf (Gt (Zf (Zw (v := .bool false) rfl rfl) (Zf (Zw (v := .bool false) rfl rfl) (Qs 1 rfl (Gt (Zf (Zo underlying37 rfl sizeOf4 rfl rfl) (Gt (Zk isAgg4 rfl hb9 rfl (Gt (Zf (YX rfl) (Gt (Qs 1 rfl ?_)))))))))))))))))))))))
   have q11 : ¬ (((ga bs 0).1.getD k pt0).sk = true) := q6
   rw [decide_eq_false q11]
   simp only [Bool.not_true, Bool.not_false]
   refine Gt (Zf (Zo underlying37 rfl sizeOf35 rfl rfl) (Gt (Zk isAgg35 rfl hb9 rfl (Gt (Zf (ZM underlying35 rfl) (Gt (Qs 1 rfl (Gt (Zf (Zx (v := .bool (decide ((bm7 : Int) = 0))) rfl rfl) (Zf (Zw (v := .bool (decide ((bm7 : Int) = 0))) rfl rfl) (Za ?_)))))))))))
   have q12 : ¬ ((bm7 : Int) = 0) := (by omega)
   rw [decide_eq_false q12]
   refine Cf (Zi (Sn (Qs 1 rfl (Zf (Zo underlying37 rfl sizeOf3 rfl rfl) (Zk isAgg3 rfl hb9 rfl (Xd rfl rfl (Qs 1 rfl (Za (Sn (Qs 1 rfl (Za (Zs (ZS (fun mu ρ ds w' => ∃ (j : Nat), bm7 - j = mu ∧ ds = [] ∧ Liv ρ [(0, .slice a n c), (3, .slice a2 m2 c2), (6, .int .i64 ((pe (ga bs 0).1 k) + (((ga bs 0).1.getD k pt0).sz))), (7, .int .i64 k), (8, .pointer (some ⟨B9, 0, none⟩)), (9, .int .i64 j), (48, .pointer (some ⟨B9, 1, none⟩)), (49, .int .i64 (((ga bs 0).1.getD k pt0).sz)), (50, .bool false), (53, .pointer (some ⟨B9, 2, none⟩)), (54, .bool false), (55, .bool false), (68, .bool false), (71, .pointer (some ⟨B9, 2, none⟩)), (72, .bool false), (73, .bool true), (74, .bool true), (75, .pointer (some ⟨B9, 8, none⟩)), (76, .slice ba7 bm7 bc7), (77, .int .i64 bm7), (78, .bool false), (79, .bool false)] ∧ j ≤ bm7 ∧ Upd No w10 w') _ ⟨0, rfl, rfl, ⟨rfl, rfl, rfl, rfl, rfl, (by first | rfl | exact Zt (by omega) | exact Zt (by simp)), rfl, rfl, rfl, rfl, rfl, rfl, rfl, rfl, rfl, rfl, rfl, rfl, rfl, rfl, rfl, rfl, trivial⟩, (by omega), Upd.refl _ _⟩ ?_)))))))))))))
   rintro m12 ρ12 ds12 w12 ⟨j, rfl, rfl, hl12, hj, hU12⟩
   obtain ⟨ρ12x, rfl⟩ : ∃ ρx, ρ12 = upds ρx [(0, .slice a n c), (3, .slice a2 m2 c2), (6, .int .i64 ((pe (ga bs 0).1 k) + (((ga bs 0).1.getD k pt0).sz))), (7, .int .i64 k), (8, .pointer (some ⟨B9, 0, none⟩)), (9, .int .i64 j), (48, .pointer (some ⟨B9, 1, none⟩)), (49, .int .i64 (((ga bs 0).1.getD k pt0).sz)), (50, .bool false), (53, .pointer (some ⟨B9, 2, none⟩)), (54, .bool false), (55, .bool false), (68, .bool false), (71, .pointer (some ⟨B9, 2, none⟩)), (72, .bool false), (73, .bool true), (74, .bool true), (75, .pointer (some ⟨B9, 8, none⟩)), (76, .slice ba7 bm7 bc7), (77, .int .i64 bm7), (78, .bool false), (79, .bool false)] := ⟨_, ZD hl12⟩
   replace ht := ht.Zc hU5
   replace HU := HU.Zb hU5
   replace hB8 := (hB8.Zc hU9).Zh hU10
   clear hl12
   have:=hU12.size
   have HL12 := hU12
   refine Sm (Qs 1 rfl (Zf (Zo underlying37 rfl sizeOf35 rfl rfl) ?_))
   replace hb9 := hb9.Zc hU12
   refine Zk isAgg35 rfl hb9 rfl (Zf (ZM underlying35 rfl) (Qs 1 rfl (Za ?_)))
   by_cases q13 : (j : Int) < (bm7 : Int)
   ·have hbo := hkb.2 j (by omega)
    have hb1_ := hbo.g_lo
    have hb2_ := hbo.g_up
    have hb3_ := hbo.g_kd
    have hb4_ := hbo.g_st
    have hb6_ := hbo.g_nx
    have hb7_ := hbo.g_en
    have hb5_ := hbo.g_la
    rw [decide_eq_true q13]
    refine Ct (Zi (Zz (Zs (Sn (Zf (Zo underlying37 rfl sizeOf35 rfl rfl) (Zk isAgg35 rfl hb9 rfl (Qs 1 rfl ?_)))))))
    replace hB8 := hB8.Zc hU12
    refine Yg (0, 0, 0, 0, false) Y2 (by decide) underlying35 sizeOf40 rfl rfl hB8 (by omega) (by omega) ?_
    intro ib13 io13 hc13
    try rw [Int.toNat_natCast] at hc13
    refine Zf (YE (cs := [.int .i64 (((((ga bs 0).1.getD k pt0).bl).getD j (0, 0, 0, 0, false)).1), .int .i64 (((((ga bs 0).1.getD k pt0).bl).getD j (0, 0, 0, 0, false)).2.1), .int .i64 (((((ga bs 0).1.getD k pt0).bl).getD j (0, 0, 0, 0, false)).2.2.1), .int .i64 (((((ga bs 0).1.getD k pt0).bl).getD j (0, 0, 0, 0, false)).2.2.2.1), .bool (decide (((((ga bs 0).1.getD k pt0).bl).getD j (0, 0, 0, 0, false)).2.2.2.2 = true))]) isAgg40 sizeOf40 rfl rfl hc13) (ZB zeroValue40 rfl ?_)
    intro B14 w14 hB14 hU14 hzz14 hb14
    refine Xa sizeOf40 rfl rfl rfl rfl hb14 rfl ?_
    intro w15 hU15 hzz15 hb14
    refine Za (Sn (Zf (Zo underlying40 rfl sizeOf3 rfl rfl) (Zk isAgg3 rfl hb14 rfl (Xd rfl rfl (Zf (Zo underlying40 rfl sizeOf3 rfl rfl) (Zk isAgg3 rfl hb14 rfl (Xd rfl rfl (Qs 1 rfl (Za (Sm (Zf (Zo underlying40 rfl sizeOf4 rfl rfl) (Zk isAgg4 rfl hb14 rfl (Qs 1 rfl (Zf (Zo underlying37 rfl sizeOf35 rfl rfl) ?_))))))))))))))
    replace hb9 := (hb9.Zc hU14).Zh hU15
    refine Zk isAgg35 rfl hb9 rfl (Zf (ZM underlying35 rfl) (Xs rfl rfl (Qs 1 rfl ?_)))
    replace HL12 := (HL12.Zb hU14).Zr hU15
    by_cases q14 : ((((ga bs 0).1.getD k pt0).bl).getD j (0, 0, 0, 0, false)).2.2.2.2 = true
    ·have hlj := hb5_.1 q14
     have hen := hb7_ hlj
     rw [decide_eq_true q14]
     have q15 : (j : Int) = ((bm7 : Int) - 1) := (by omega)
     rw [decide_eq_true q15]
     refine Zf (v := .bool false) (r_neb (a := true) (b := true) underlying4 rfl rfl) (Qs 1 rfl (Gt (Zf (Zo underlying40 rfl sizeOf3 rfl rfl) (Gt (Zk isAgg3 rfl hb14 rfl (Gt (Qs 1 rfl (Zf (Zw (v := .bool (decide ((((((ga bs 0).1.getD k pt0).bl).getD j (0, 0, 0, 0, false)).2.2.2.1) < 0))) rfl rfl) (Qs 1 rfl ?_)))))))))
     have q16 : ¬ ((((((ga bs 0).1.getD k pt0).bl).getD j (0, 0, 0, 0, false)).2.2.2.1) < 0) := (by omega)
     rw [decide_eq_false q16]
     refine Gt (Zf (Zo underlying40 rfl sizeOf38 rfl rfl) (Gt (Zk isAgg38 rfl hb14 rfl (Gt (Qs 1 rfl (Zf (Zw (v := .bool (decide ((((((ga bs 0).1.getD k pt0).bl).getD j (0, 0, 0, 0, false)).2.1) = 3))) rfl rfl) (Qs 1 rfl ?_)))))))
     have q17 : ¬ ((((((ga bs 0).1.getD k pt0).bl).getD j (0, 0, 0, 0, false)).2.1) = 3) := (by omega)
     rw [decide_eq_false q17]
     refine Gt (Zf (Zo underlying40 rfl sizeOf3 rfl rfl) (Gt (Zk isAgg3 rfl hb14 rfl (Gt (Zf (Zo underlying37 rfl sizeOf3 rfl rfl) (Gt (Zk isAgg3 rfl hb9 rfl (Gt (Qs 1 rfl (Zf (Zw (v := .bool (decide ((((((ga bs 0).1.getD k pt0).bl).getD j (0, 0, 0, 0, false)).1) ≤ (((ga bs 0).1.getD k pt0).at_)))) rfl rfl) (Za ?_)))))))))))
     have q18 : ¬ ((((((ga bs 0).1.getD k pt0).bl).getD j (0, 0, 0, 0, false)).1) ≤ (((ga bs 0).1.getD k pt0).at_)) := (by omega)
     rw [decide_eq_false q18]
     refine Cf (Zi (Sm (Zf (Zo underlying40 rfl sizeOf4 rfl rfl) (Zk isAgg4 rfl hb14 rfl (Zf (YX rfl) (Qs 1 rfl ?_))))))
     have q19 : ((((ga bs 0).1.getD k pt0).bl).getD j (0, 0, 0, 0, false)).2.2.2.2 = true := q14
     have hlj := hb5_.1 q19
     have hen := hb7_ hlj
     rw [decide_eq_true q19]
     simp only [Bool.not_true, Bool.not_false]
     refine Gf (Gf (Gf (Gf (Gf (Gf (Gf (Gf (Gf (Zf (Zw (v := .bool false) rfl rfl) (Za (Cf (Zi (Sn (Qs 1 rfl (Za (Sm (Zf (Zo underlying37 rfl sizeOf34 rfl rfl) (Zf (Zo underlying34 rfl sizeOf4 rfl rfl) (Zk isAgg4 rfl hb9 rfl (Za ?_))))))))))))))))))))
     by_cases q20 : ((ga bs 0).1.getD k pt0).hd.2.2.2 = true
     ·have htl4 : (if ((ga bs 0).1.getD k pt0).hd.2.2.2 = true then (4 : Int) else 0) = 4 := if_pos q20
      rw [decide_eq_true q20]
      refine Ct (Zl (Qs 1 rfl (Za (Sn (Zf (Zo underlying40 rfl sizeOf4 rfl rfl) (Zk isAgg4 rfl hb14 rfl (Qs 1 rfl ?_)))))))
      have q21 : ((((ga bs 0).1.getD k pt0).bl).getD j (0, 0, 0, 0, false)).2.2.2.2 = true := q19
      have hlj := hb5_.1 q21
      have hen := hb7_ hlj
      rw [decide_eq_true q21]
      refine Gt (Qs 1 rfl (Gt (Qs 1 rfl (Gt (Xd rfl rfl (Gt (Qs 1 rfl (Gt (Qs 1 rfl (Zf (Zx (v := .bool (decide (((((((((ga bs 0).1.getD k pt0).bl).getD j (0, 0, 0, 0, false)).1) + 3) + (((((ga bs 0).1.getD k pt0).bl).getD j (0, 0, 0, 0, false)).2.2.2.1)) + 4) ≠ ((pe (ga bs 0).1 k) + (((ga bs 0).1.getD k pt0).sz))))) rfl rfl) (Za ?_)))))))))))
      have q22 : ¬ (((((((((ga bs 0).1.getD k pt0).bl).getD j (0, 0, 0, 0, false)).1) + 3) + (((((ga bs 0).1.getD k pt0).bl).getD j (0, 0, 0, 0, false)).2.2.2.1)) + 4) ≠ ((pe (ga bs 0).1 k) + (((ga bs 0).1.getD k pt0).sz))) := (by omega)
      rw [decide_eq_false q22]
      refine Cf (Zi (Zl (Qs 1 rfl (Xd rfl rfl (Qs 1 rfl (Za ?_))))))
      refine ⟨_, ?_, (j + 1), rfl, rfl, ⟨rfl, rfl, rfl, rfl, rfl, Zt, rfl, rfl, rfl, rfl, rfl, rfl, rfl, rfl, rfl, rfl, rfl, rfl, rfl, rfl, rfl, rfl, trivial⟩, (by omega), HL12⟩
      omega
     have htl4 : (if ((ga bs 0).1.getD k pt0).hd.2.2.2 = true then (4 : Int) else 0) = 0 := if_neg q20
     rw [decide_eq_false q20]
     refine Cf (Zi (Sn (Zf (Zo underlying40 rfl sizeOf4 rfl rfl) (Zk isAgg4 rfl hb14 rfl (Qs 1 rfl ?_)))))
     have q23 : ((((ga bs 0).1.getD k pt0).bl).getD j (0, 0, 0, 0, false)).2.2.2.2 = true := q19
     have hlj := hb5_.1 q23
     have hen := hb7_ hlj
     rw [decide_eq_true q23]
     refine Gt (Qs 1 rfl (Gt (Qs 1 rfl (Gt (Xd rfl rfl (Gt (Qs 1 rfl (Gt (Qs 1 rfl (Zf (Zx (v := .bool (decide (((((((((ga bs 0).1.getD k pt0).bl).getD j (0, 0, 0, 0, false)).1) + 3) + (((((ga bs 0).1.getD k pt0).bl).getD j (0, 0, 0, 0, false)).2.2.2.1)) + 0) ≠ ((pe (ga bs 0).1 k) + (((ga bs 0).1.getD k pt0).sz))))) rfl rfl) (Za ?_)))))))))))
     have q24 : ¬ (((((((((ga bs 0).1.getD k pt0).bl).getD j (0, 0, 0, 0, false)).1) + 3) + (((((ga bs 0).1.getD k pt0).bl).getD j (0, 0, 0, 0, false)).2.2.2.1)) + 0) ≠ ((pe (ga bs 0).1 k) + (((ga bs 0).1.getD k pt0).sz))) := (by omega)
     rw [decide_eq_false q24]
     refine Cf (Zi (Zl (Qs 1 rfl (Xd rfl rfl (Qs 1 rfl (Za ?_))))))
     refine ⟨_, ?_, (j + 1), rfl, rfl, ⟨rfl, rfl, rfl, rfl, rfl, Zt, rfl, rfl, rfl, rfl, rfl, rfl, rfl, rfl, rfl, rfl, rfl, rfl, rfl, rfl, rfl, rfl, trivial⟩, (by omega), HL12⟩
     omega
    have hlj : j + 1 < ((ga bs 0).1.getD k pt0).bl.length := by
     rcases Nat.lt_or_ge (j + 1) ((ga bs 0).1.getD k pt0).bl.length with h9 | h9
     ·exact h9
     exact absurd (hb5_.2 (by omega)) q14
    have hnj := hb6_ hlj
    rw [decide_eq_false q14]
    have q25 : ¬ ((j : Int) = ((bm7 : Int) - 1)) := (by omega)
    rw [decide_eq_false q25]
    refine Zf (v := .bool false) (r_neb (a := false) (b := false) underlying4 rfl rfl) (Qs 1 rfl (Gt (Zf (Zo underlying40 rfl sizeOf3 rfl rfl) (Gt (Zk isAgg3 rfl hb14 rfl (Gt (Qs 1 rfl (Zf (Zw (v := .bool (decide ((((((ga bs 0).1.getD k pt0).bl).getD j (0, 0, 0, 0, false)).2.2.2.1) < 0))) rfl rfl) (Qs 1 rfl ?_)))))))))
    have q26 : ¬ ((((((ga bs 0).1.getD k pt0).bl).getD j (0, 0, 0, 0, false)).2.2.2.1) < 0) := (by omega)
    rw [decide_eq_false q26]
    refine Gt (Zf (Zo underlying40 rfl sizeOf38 rfl rfl) (Gt (Zk isAgg38 rfl hb14 rfl (Gt (Qs 1 rfl (Zf (Zw (v := .bool (decide ((((((ga bs 0).1.getD k pt0).bl).getD j (0, 0, 0, 0, false)).2.1) = 3))) rfl rfl) (Qs 1 rfl ?_)))))))
    have q27 : ¬ ((((((ga bs 0).1.getD k pt0).bl).getD j (0, 0, 0, 0, false)).2.1) = 3) := (by omega)
    rw [decide_eq_false q27]
    refine Gt (Zf (Zo underlying40 rfl sizeOf3 rfl rfl) (Gt (Zk isAgg3 rfl hb14 rfl (Gt (Zf (Zo underlying37 rfl sizeOf3 rfl rfl) (Gt (Zk isAgg3 rfl hb9 rfl (Gt (Qs 1 rfl (Zf (Zw (v := .bool (decide ((((((ga bs 0).1.getD k pt0).bl).getD j (0, 0, 0, 0, false)).1) ≤ (((ga bs 0).1.getD k pt0).at_)))) rfl rfl) (Za ?_)))))))))))
    have q28 : ¬ ((((((ga bs 0).1.getD k pt0).bl).getD j (0, 0, 0, 0, false)).1) ≤ (((ga bs 0).1.getD k pt0).at_)) := (by omega)
    rw [decide_eq_false q28]
    refine Cf (Zi (Sm (Zf (Zo underlying40 rfl sizeOf4 rfl rfl) (Zk isAgg4 rfl hb14 rfl (Zf (YX rfl) (Qs 1 rfl ?_))))))
    have q29 : ¬ (((((ga bs 0).1.getD k pt0).bl).getD j (0, 0, 0, 0, false)).2.2.2.2 = true) := q14
    have hlj : j + 1 < ((ga bs 0).1.getD k pt0).bl.length := by
     rcases Nat.lt_or_ge (j + 1) ((ga bs 0).1.getD k pt0).bl.length with h9 | h9
     ·exact h9
     exact absurd (hb5_.2 (by omega)) q29
    have hnj := hb6_ hlj
    rw [decide_eq_false q29]
    simp only [Bool.not_true, Bool.not_false]
    refine Gt (Zf (Zo underlying37 rfl sizeOf35 rfl rfl) (Gt (Zk isAgg35 rfl hb9 rfl (Gt (Qs 1 rfl (Gt (Xd rfl rfl (Gt (Yg (0, 0, 0, 0, false) Y2 (by decide) underlying35 sizeOf40 rfl rfl ((hB8.Zc hU14).Zh hU15) (by omega) (by omega) ?_)))))))))
    intro ib16 io16 hc16
    refine Gt (Zf (Zo underlying40 rfl sizeOf3 rfl rfl) (Gt (ZH (v := .int .i64 (((((ga bs 0).1.getD k pt0).bl).getD ((j : Int) + 1).toNat (0, 0, 0, 0, false)).1)) isAgg3 rfl (hc16 0 (by decide)) (Gt (Qs 1 rfl (Gt (Qs 1 rfl (Zf (Zx (v := .bool (decide ((((((ga bs 0).1.getD k pt0).bl).getD ((j : Int) + 1).toNat (0, 0, 0, 0, false)).1) ≠ (((((((ga bs 0).1.getD k pt0).bl).getD j (0, 0, 0, 0, false)).1) + 3) + (((((ga bs 0).1.getD k pt0).bl).getD j (0, 0, 0, 0, false)).2.2.2.1))))) rfl rfl) (Za ?_)))))))))
    have q30 : ¬ ((((((ga bs 0).1.getD k pt0).bl).getD ((j : Int) + 1).toNat (0, 0, 0, 0, false)).1) ≠ (((((((ga bs 0).1.getD k pt0).bl).getD j (0, 0, 0, 0, false)).1) + 3) + (((((ga bs 0).1.getD k pt0).bl).getD j (0, 0, 0, 0, false)).2.2.2.1))) := (by rw [show ((j : Int) + 1).toNat = j + 1 from by omega]; omega)
    rw [decide_eq_false q30]
    refine Cf (Zi (Sn (Qs 1 rfl (Za (Sm (Zf (Zo underlying37 rfl sizeOf34 rfl rfl) (Zf (Zo underlying34 rfl sizeOf4 rfl rfl) (Zk isAgg4 rfl hb9 rfl (Za ?_)))))))))
    by_cases q31 : ((ga bs 0).1.getD k pt0).hd.2.2.2 = true
    ·have htl4 : (if ((ga bs 0).1.getD k pt0).hd.2.2.2 = true then (4 : Int) else 0) = 4 := if_pos q31
     rw [decide_eq_true q31]
     refine Ct (Zl (Qs 1 rfl (Za (Sn (Zf (Zo underlying40 rfl sizeOf4 rfl rfl) (Zk isAgg4 rfl hb14 rfl (Qs 1 rfl ?_)))))))
     have q32 : ¬ (((((ga bs 0).1.getD k pt0).bl).getD j (0, 0, 0, 0, false)).2.2.2.2 = true) := q29
     have hlj : j + 1 < ((ga bs 0).1.getD k pt0).bl.length := by
      rcases Nat.lt_or_ge (j + 1) ((ga bs 0).1.getD k pt0).bl.length with h9 | h9
      ·exact h9
      exact absurd (hb5_.2 (by omega)) q32
     have hnj := hb6_ hlj
     rw [decide_eq_false q32]
     refine Gf (Gf (Gf (Gf (Gf (Zf (Zw (v := .bool false) rfl rfl) (Za (Cf (Zi (Zl (Qs 1 rfl (Xd rfl rfl (Qs 1 rfl (Za ?_)))))))))))))
     refine ⟨_, ?_, (j + 1), rfl, rfl, ⟨rfl, rfl, rfl, rfl, rfl, Zt, rfl, rfl, rfl, rfl, rfl, rfl, rfl, rfl, rfl, rfl, rfl, rfl, rfl, rfl, rfl, rfl, trivial⟩, (by omega), HL12⟩
     omega
    have htl4 : (if ((ga bs 0).1.getD k pt0).hd.2.2.2 = true then (4 : Int) else 0) = 0 := if_neg q31
    rw [decide_eq_false q31]
    refine Cf (Zi (Sn (Zf (Zo underlying40 rfl sizeOf4 rfl rfl) (Zk isAgg4 rfl hb14 rfl (Qs 1 rfl ?_)))))
    have q33 : ¬ (((((ga bs 0).1.getD k pt0).bl).getD j (0, 0, 0, 0, false)).2.2.2.2 = true) := q29
    have hlj : j + 1 < ((ga bs 0).1.getD k pt0).bl.length := by
     rcases Nat.lt_or_ge (j + 1) ((ga bs 0).1.getD k pt0).bl.length with h9 | h9
     ·exact h9
     exact absurd (hb5_.2 (by omega)) q33
    have hnj := hb6_ hlj
    rw [decide_eq_false q33]
    refine Gf (Gf (Gf (Gf (Gf (Zf (Zw (v := .bool false) rfl rfl) (Za (Cf (Zi (Zl (Qs 1 rfl (Xd rfl rfl (Qs 1 rfl (Za ?_)))))))))))))
    refine ⟨_, ?_, (j + 1), rfl, rfl, ⟨rfl, rfl, rfl, rfl, rfl, Zt, rfl, rfl, rfl, rfl, rfl, rfl, rfl, rfl, rfl, rfl, rfl, rfl, rfl, rfl, rfl, rfl, trivial⟩, (by omega), HL12⟩
    omega
   rw [decide_eq_false q13]
   refine Cf (ZI (Zl (Qs 1 rfl (Xd rfl rfl (Qs 1 rfl (Za ?_))))))
   refine ⟨_, ?_, (k + 1), rfl, rfl, ⟨rfl, rfl, rfl, Zt, trivial⟩, (by omega), (HL5.Zb hU12)⟩
   omega
  rw [decide_eq_false q3]
  refine Cf (ZI (Sn (Qs 2 rfl (Zf (ZM underlying22 rfl) (Qs 2 rfl ?_)))))
  have q34 : (pe (ga bs 0).1 k) = (n : Int) := (by have := hcv.2; rw [show k = (ga bs 0).1.length from by omega]; omega)
  rw [decide_eq_true q34]
  refine Gt (Zj (r_call0 rfl call4 ) (works44 _ (ht.Zc hU5)) ?_)
  rintro v w17 ⟨rfl, hU17⟩
  have:=hU17.size
  exact Zf (Zx (v := .bool true) rfl rfl) (Qs 1 rfl (Za (Zn (Zg rfl (Z9 results3 rfl) ⟨_, rfl, rfl, ((HU.Zb hU5).Zb hU17)⟩))))
 refine Zj (Zv rfl call5 rfl) (read_no _ hs.any hb (by omega) q2) ?_
 rintro v w18 ⟨rfl, hU18⟩
 have:=hU18.size
 refine Qs 5 rfl (Za (Sm (Qs 1 rfl (Zj (Zv rfl call6 rfl) (num44 _ ) ?_))))
 rintro v w19 ⟨rfl, hU19⟩
 have:=hU19.size
 refine Qs 1 rfl (Za ?_)
 have q35 : ((ga bs 0).2) ≠ 0 := q2
 rw [decide_eq_true q35]
 refine Ct (Sn (Qs 1 rfl (Zj (r_call4 rfl call7 rfl rfl rfl rfl) (wdec39 _ ((hs.Zc hU18).Zc hU19).any hb (by omega) ⟨by decide, by decide⟩ ⟨by decide, by decide⟩) ?_)))
 rintro v w20 ⟨a20, n20, c20, fr20, e20, rfl, he_20, hU20⟩
 have:=hU20.size
 have hne : e20 ≠ 0 := fun h => q2 (he_20 h)
 refine ZB zeroValue30 rfl ?_
 intro B21 w21 hB21 hU21 hzz21 hb21
 refine Xa sizeOf30 rfl rfl rfl rfl hb21 rfl ?_
 intro w22 hU22 hzz22 hb21
 refine Za (Sn (Zf (Zo underlying30 rfl sizeOf3 rfl rfl) (Zk isAgg3 rfl hb21 rfl (Qs 2 rfl ?_))))
 have q36 : e20 ≠ 0 := hne
 rw [decide_eq_true q36]
 refine Gt (Zj (r_call0 rfl call4 ) (works44 _ (((((ht.Zc hU18).Zc hU19).Zc hU20).Zc hU21).Zh hU22)) ?_)
 rintro v w23 ⟨rfl, hU23⟩
 have:=hU23.size
 exact Zf (Zx (v := .bool true) rfl rfl) (Qs 1 rfl (Za (Zn (Zg rfl (Z9 results3 rfl) ⟨_, rfl, rfl, ((((((HU.Zb hU18).Zb hU19).Zb hU20).Zb hU21).t1 hU22).Zb hU23)⟩))))
end Go.Proofs.YtbjjhfoeckkacaaGreatDoor
