/-
  Several texts of this project, put together.
-/
import Derived.Test.YtbjjhfoeckkacaaGreatDoorFZ
import Derived.Test.YtbjjhfoeckkacaaGreatDoorSO
import Derived.Test.YtbjjhfoeckkacaaGreatDoorSA
set_option linter.unusedVariables false
set_option linter.unusedSimpArgs false
set_option linter.deprecated false
set_option maxRecDepth 100000
set_option maxHeartbeats 16000000
namespace Go.Proofs.YtbjjhfoeckkacaaGreatDoor
open Go.Fw _root_.Go.Proofs.Tryz
def giv : List Int := [80, 77, 84, 30, 0, 0, 24, 0, 0, 97, 98, 99, 11, 0, 0, 120]
def skx : List Int := [80, 77, 84, 83, 1, 0, 0, 0, 255]
theorem giv_byt : Byt giv := YU (by decide)
theorem giv_ga : ga giv 0 = ([⟨0, 16, false, 0, (1024, -1, 0, false), [(6, 0, 3, 3, false), (12, 1, 1, 1, true)], 0⟩], 0) := by kernel_rfl
theorem skx_ga : ga skx 0 = ([⟨0, 9, true, 1, hz, [], 0⟩], 0) := by kernel_rfl
theorem dg1 {u : Nat} (h : u < 10) : dig (u : Int) = [((48 + u : Nat) : Int)] := by rw [dig_pos (by omega), show (u : Int).toNat = u from by omega, digN_small h]
theorem dgN {u : Nat} : dig (u : Int) = digN u := by rw [dig_pos (by omega), show (u : Int).toNat = u from by omega]
theorem giv_txt : txt (ga giv 0).1 = [102, 114, 97, 109, 101, 32, 48, 32, 49, 54, 32, 119, 105, 110, 100, 111, 119, 32, 49, 48, 50, 52, 32, 114, 97, 119, 32, 51, 32, 114, 117, 110, 32, 49, 10] := by
 have d0 : dig 0 = [48] := dg1 (u := 0) (by decide)
 have d1 : dig 1 = [49] := dg1 (u := 1) (by decide)
 have d3 : dig 3 = [51] := dg1 (u := 3) (by decide)
 have d16 : dig 16 = [49, 54] := (dgN (u := 16)).trans (by rw [digN_big (by decide), digN_small (by decide)]; rfl)
 have d1024 : dig 1024 = [49, 48, 50, 52] := (dgN (u := 1024)).trans (by rw [digN_big (by decide), digN_big (by decide), digN_big (by decide), digN_small (by decide)]; rfl)
 rw [giv_ga]
 simp [txt, lin, wv5, wsz, wdi, wck, jnw, btx, wrd, d0, d1, d3, d16, d1024]
theorem skx_txt : txt (ga skx 0).1 = [115, 107, 105, 112, 32, 48, 32, 57, 32, 49, 10] := by
 have d0 : dig 0 = [48] := dg1 (u := 0) (by decide)
 have d1 : dig 1 = [49] := dg1 (u := 1) (by decide)
 have d9 : dig 9 = [57] := dg1 (u := 9) (by decide)
 rw [skx_ga]
 simp [txt, lin, jnw, d0, d1, d9]
theorem num44 {e : Int} (w : World)  :
  Calls Tryz.prog 6 #[.int .i64 e] w (Ret fun v w' => v = .int .i64 e ∧ Upd No w w') := by
 have HU := Upd.Yo w
 exact Zq func6 rfl ntmps6 (by simp) (Sn (Qs 1 rfl (Za (Sn (Qs 2 rfl (Za (Zn (Zg rfl (Z9 results6 rfl) ⟨_, rfl, rfl, HU⟩))))))))
theorem given44  (w : World)  :
  Calls Tryz.prog 9 #[] w (Ret fun v w' => ∃ (a' : Option Addr) (c' : Nat), v = .slice a' 16 c' ∧ Sl w' (fun g => w.heap.size ≤ g) 1 (.slice a' 16 c') 16 (ints .u8 giv) ∧ Upd No w w') := by
 have HU := Upd.Yo w
 refine Zq func9 rfl ntmps9 (by simp) (Sn (Qs 1 rfl (Za (Sn (Xz [.int .u8 80, .int .u8 77, .int .u8 84, .int .u8 30, .int .u8 0, .int .u8 0, .int .u8 24, .int .u8 0, .int .u8 0, .int .u8 97, .int .u8 98, .int .u8 99, .int .u8 11, .int .u8 0, .int .u8 0, .int .u8 120] underlying22 sizeOf5 zeroValue5 ?_)))))
 intro B1 w1 hB1 hU1 hzz1 hs1
 replace hs1 : Own w1 (Is B1) 5 1 (.slice (some ⟨B1, 0, none⟩) 16 16) 16 (ints .u8 [80, 77, 84, 30, 0, 0, 24, 0, 0, 97, 98, 99, 11, 0, 0, 120]) := hs1
 refine Wl_cvtsl underlying22 underlying5 rfl hs1 ?_
 intro w2 hU2 hzz2 hT2
 replace HU := HU.Zb hU1
 clear hs1
 have:=hU2.size
 exact Qs 1 rfl (Za (Zn (Zg rfl (Z9 results9 rfl) ⟨_, rfl, (some ⟨B1, 0, none⟩), 16, rfl, hT2.weak, (HU.t1 hU2)⟩)))
theorem works44 {g0 : Nat} (w : World) (ht : Tab w g0) :
  Calls Tryz.prog 4 #[] w (Ret fun v w' => v = .bool true ∧ Upd No w w') := by
 have HU := Upd.Yo w
 have htl := ht.1
 refine Zq func4 rfl ntmps4 (by simp) (Sn (Qs 1 rfl (Za (Sn (Zj (r_call0 rfl call9 ) (given44 _ ) ?_)))))
 rintro v w1 ⟨a1, c1, rfl, hO1, hU1⟩
 have:=hU1.size
 have hl_hO1 := ZC hO1
 have hc_hO1 := hO1.cap.1
 replace ht := ht.Zc hU1
 refine Zj (Zv rfl call8 rfl) (ttext_ok _ ht hO1.any giv_byt (by omega) (show (ga giv 0).2 = 0 from by rw [giv_ga])) ?_
 rintro v w2 ⟨rfl, hU2⟩
 have:=hU2.size
 refine Qs 5 rfl (Za (Sn (Zj (r_call0 rfl call9 ) (given44 _ ) ?_)))
 rintro v w3 ⟨a3, c3, rfl, hO3, hU3⟩
 have:=hU3.size
 have hl_hO3 := ZC hO3
 have hc_hO3 := hO3.cap.1
 refine Zj (Zv rfl call10 rfl) (count_ok _ hO3.any giv_byt (by omega) (show (ga giv 0).2 = 0 from by rw [giv_ga])) ?_
 rintro v w4 ⟨rfl, hU4⟩
 have:=hU4.size
 refine Qs 3 rfl (ZB zeroValue46 rfl ?_)
 intro B5 w5 hB5 hU5 hzz5 hb5
 refine Xa sizeOf46 rfl rfl rfl rfl hb5 rfl ?_
 intro w6 hU6 hzz6 hb5
 refine Qs 1 rfl (Za (Sn (Xz [.int .u8 80, .int .u8 77, .int .u8 84, .int .u8 83, .int .u8 1, .int .u8 0, .int .u8 0, .int .u8 0, .int .u8 255] underlying22 sizeOf5 zeroValue5 ?_)))
 intro B7 w7 hB7 hU7 hzz7 hs7
 replace hs7 : Own w7 (Is B7) 5 1 (.slice (some ⟨B7, 0, none⟩) 9 9) 9 (ints .u8 [80, 77, 84, 83, 1, 0, 0, 0, 255]) := hs7
 replace hs7 : Own w7 (Is B7) 5 1 (.slice (some ⟨B7, 0, none⟩) 9 9) 9 (ints .u8 [80, 77, 84, 83, 1, 0, 0, 0, 255]) := hs7
 refine Wl_cvtsl underlying22 underlying5 rfl hs7 ?_
 intro w8 hU8 hzz8 hT8
 replace HU := ((((((HU.Zb hU1).Zb hU2).Zb hU3).Zb hU4).Zb hU5).t1 hU6).Zb hU7
 replace ht := (((((ht.Zc hU2).Zc hU3).Zc hU4).Zc hU5).Zh hU6).Zc hU7
 replace hb5 := hb5.Zc hU7
 clear hs7
 have:=hU8.size
 replace ht := ht.Zh hU8
 refine Zj (Zv rfl call8 rfl) (ttext_ok _ ht hT8.any (by intro x hx; simp at hx; omega) (by omega) (show (ga skx 0).2 = 0 from by rw [skx_ga])) ?_
 rintro v w9 ⟨rfl, hU9⟩
 have:=hU9.size
 refine Qs 5 rfl (Za (Sn (Zj (Zv rfl call5 rfl) (read_ok (bs := []) _ (Sl.nil _ _ _) ZO (by omega) rfl) ?_)))
 rintro v w10 ⟨a10, m10, c10, rfl, hT10, hU10⟩
 have:=hU10.size
 refine Qs 5 rfl (Za (Sn (Zj (r_call0 rfl call9 ) (given44 _ ) ?_)))
 rintro v w11 ⟨a11, c11, rfl, hO11, hU11⟩
 have:=hU11.size
 have hl_hO11 := ZC hO11
 have hc_hO11 := hO11.cap.1
 refine Zf (Y5 (h' := 15) underlying22 sizeOf5 rfl rfl (by omega) (by omega)) ?_
 have hT12 := Sl.cuth (n := 15) hO11 (by omega)
 have hl_hT12 := ZC hT12
 have hc_hT12 := hT12.cap.1
 refine Zj (Zv rfl call5 rfl) (read_no _ hT12.any (ZU giv_byt _) (by omega) (by decide +kernel)) ?_
 rintro v w13 ⟨rfl, hU13⟩
 have:=hU13.size
 refine Qs 5 rfl (Za (Sn (Xz [.int .u8 80, .int .u8 77, .int .u8 84, .int .u8 30, .int .u8 0, .int .u8 0, .int .u8 7, .int .u8 0, .int .u8 0] underlying22 sizeOf5 zeroValue5 ?_)))
 intro B14 w14 hB14 hU14 hzz14 hs14
 replace hs14 : Own w14 (Is B14) 5 1 (.slice (some ⟨B14, 0, none⟩) 9 9) 9 (ints .u8 [80, 77, 84, 30, 0, 0, 7, 0, 0]) := hs14
 replace hs14 : Own w14 (Is B14) 5 1 (.slice (some ⟨B14, 0, none⟩) 9 9) 9 (ints .u8 [80, 77, 84, 30, 0, 0, 7, 0, 0]) := hs14
 refine Wl_cvtsl underlying22 underlying5 rfl hs14 ?_
 intro w15 hU15 hzz15 hT15
 replace HU := (((((HU.t1 hU8).Zb hU9).Zb hU10).Zb hU11).Zb hU13).Zb hU14
 replace hb5 := (((((hb5.Zh hU8).Zc hU9).Zc hU10).Zc hU11).Zc hU13).Zc hU14
 replace hT10 := ((hT10.Zc hU11).Zc hU13).Zc hU14
 clear hs14
 have:=hU15.size
 refine Zj (Zv rfl call5 rfl) (read_no _ hT15.any (by intro x hx; simp at hx; omega) (by omega) (by decide +kernel)) ?_
 rintro v w16 ⟨rfl, hU16⟩
 have:=hU16.size
 refine Qs 5 rfl (Za (Sn (Qs 1 rfl (Zj (Zv rfl call6 rfl) (num44 _ ) ?_))))
 rintro v w17 ⟨rfl, hU17⟩
 have:=hU17.size
 refine Qs 1 rfl (Zj (Zv rfl call6 rfl) (num44 _ ) ?_)
 rintro v w18 ⟨rfl, hU18⟩
 have:=hU18.size
 refine Zf (Yf rfl rfl (show _ = (0 : Int) from by decide)) (Qs 1 rfl (Zj (Zv rfl call6 rfl) (num44 _ ) ?_))
 rintro v w19 ⟨rfl, hU19⟩
 have:=hU19.size
 refine Zf (Yf rfl rfl (show _ = (0 : Int) from by decide)) (Qs 1 rfl (Zj (Zv rfl call6 rfl) (num44 _ ) ?_))
 rintro v w20 ⟨rfl, hU20⟩
 have:=hU20.size
 refine Zf (Yf rfl rfl (show _ = (0 : Int) from by decide)) (Zf (v := .bool true) (YK (a := 0) (b := 0) rfl rfl) (Qs 1 rfl (Gt (Qs 1 rfl (Gt (Zf (r_eqstr (show Byt (txt (ga giv 0).1) from (by rw [giv_txt]; exact YU (by decide))) (show Byt [102, 114, 97, 109, 101, 32, 48, 32, 49, 54, 32, 119, 105, 110, 100, 111, 119, 32, 49, 48, 50, 52, 32, 114, 97, 119, 32, 51, 32, 114, 117, 110, 32, 49, 10] from (by intro x hx; simp at hx; omega)) rfl rfl) (Zf (Zx (v := .bool (decide ((txt (ga giv 0).1) = [102, 114, 97, 109, 101, 32, 48, 32, 49, 54, 32, 119, 105, 110, 100, 111, 119, 32, 49, 48, 50, 52, 32, 114, 97, 119, 32, 51, 32, 114, 117, 110, 32, 49, 10]))) rfl rfl) (Qs 1 rfl ?_))))))))
 have q1 : (txt (ga giv 0).1) = [102, 114, 97, 109, 101, 32, 48, 32, 49, 54, 32, 119, 105, 110, 100, 111, 119, 32, 49, 48, 50, 52, 32, 114, 97, 119, 32, 51, 32, 114, 117, 110, 32, 49, 10] := giv_txt
 rw [decide_eq_true q1]
 refine Gt (Xl isAgg46 sizeOf46 rfl ((((((hb5.Zh hU15).Zc hU16).Zc hU17).Zc hU18).Zc hU19).Zc hU20) rfl (Gt (Zf (ZF (pl := #[(0, 1), (1, 1), (2, 1), (3, 1), (4, 1), (5, 1), (6, 1)]) (pv := [(0, .int .i64 1), (2, .int .i64 1), (3, .int .i64 1), (5, .int .i64 4), (6, .int .i64 4)]) (cs := #[.int .i64 1, .int .i64 0, .int .i64 1, .int .i64 1, .int .i64 0, .int .i64 4, .int .i64 4]) zeroValue46 underlying46 (fun w => by kernel_rfl)) (Gt (Zf (r_eqag (pp := ((cnts (ga giv 0).1).1) = 1 ∧ ((cnts (ga giv 0).1).2.1) = 0 ∧ ((cnts (ga giv 0).1).2.2.1) = 1 ∧ ((cnts (ga giv 0).1).2.2.2.1) = 1 ∧ ((cnts (ga giv 0).1).2.2.2.2.1) = 0 ∧ ((cnts (ga giv 0).1).2.2.2.2.2.1) = 4 ∧ ((cnts (ga giv 0).1).2.2.2.2.2.2) = 4) underlying46 (by kernel_rfl) (by kernel_rfl) rfl rfl (fun w => eqf_int (by decide) underlying3 isAgg3 rfl rfl (fun w => eqf_int (by decide) underlying3 isAgg3 rfl rfl (fun w => eqf_int (by decide) underlying3 isAgg3 rfl rfl (fun w => eqf_int (by decide) underlying3 isAgg3 rfl rfl (fun w => eqf_int (by decide) underlying3 isAgg3 rfl rfl (fun w => eqf_int (by decide) underlying3 isAgg3 rfl rfl (fun w => eqf_int (by decide) underlying3 isAgg3 rfl rfl (fun w => eqf_nil)))))))) (by simp [Bool.decide_and])) ?_)))))
 refine Zf (Zx (v := .bool (decide (((cnts (ga giv 0).1).1) = 1 ∧ ((cnts (ga giv 0).1).2.1) = 0 ∧ ((cnts (ga giv 0).1).2.2.1) = 1 ∧ ((cnts (ga giv 0).1).2.2.2.1) = 1 ∧ ((cnts (ga giv 0).1).2.2.2.2.1) = 0 ∧ ((cnts (ga giv 0).1).2.2.2.2.2.1) = 4 ∧ ((cnts (ga giv 0).1).2.2.2.2.2.2) = 4))) rfl rfl) (Qs 1 rfl ?_)
 have q2 : ((cnts (ga giv 0).1).1) = 1 ∧ ((cnts (ga giv 0).1).2.1) = 0 ∧ ((cnts (ga giv 0).1).2.2.1) = 1 ∧ ((cnts (ga giv 0).1).2.2.2.1) = 1 ∧ ((cnts (ga giv 0).1).2.2.2.2.1) = 0 ∧ ((cnts (ga giv 0).1).2.2.2.2.2.1) = 4 ∧ ((cnts (ga giv 0).1).2.2.2.2.2.2) = 4 := (by decide +kernel)
 rw [decide_eq_true q2]
 refine Gt (Qs 1 rfl (Gt (Zf (r_eqstr (show Byt (txt (ga [80, 77, 84, 83, 1, 0, 0, 0, 255] 0).1) from (by rw [show txt (ga [80, 77, 84, 83, 1, 0, 0, 0, 255] 0).1 = _ from skx_txt]; exact YU (by decide))) (show Byt [115, 107, 105, 112, 32, 48, 32, 57, 32, 49, 10] from (by intro x hx; simp at hx; omega)) rfl rfl) (Zf (Zx (v := .bool (decide ((txt (ga [80, 77, 84, 83, 1, 0, 0, 0, 255] 0).1) = [115, 107, 105, 112, 32, 48, 32, 57, 32, 49, 10]))) rfl rfl) (Qs 1 rfl ?_)))))
 have q3 : (txt (ga [80, 77, 84, 83, 1, 0, 0, 0, 255] 0).1) = [115, 107, 105, 112, 32, 48, 32, 57, 32, 49, 10] := skx_txt
 rw [decide_eq_true q3]
 refine Gt (Qs 1 rfl (Gt (Zf (ZM underlying24 rfl) (Gt (Qs 1 rfl (Zf (Zx (v := .bool (decide ((m10 : Int) = 0))) rfl rfl) (Qs 1 rfl ?_)))))))
 replace hT10 := (((((hT10.Zh hU15).Zc hU16).Zc hU17).Zc hU18).Zc hU19).Zc hU20
 have q4 : (m10 : Int) = 0 := (by have h9 := hT10.len; rw [show (ga [] 0).1.length = 0 from rfl] at h9; omega)
 rw [decide_eq_true q4]
 refine Gt (Qs 1 rfl (Gt (Qs 1 rfl (Zf (Zx (v := .bool (decide (((ga (giv.take 15) 0).2) = 3))) rfl rfl) (Qs 1 rfl ?_)))))
 have q5 : ((ga (giv.take 15) 0).2) = 3 := (by decide +kernel)
 rw [decide_eq_true q5]
 refine Gt (Qs 1 rfl (Gt (Qs 1 rfl (Zf (Zx (v := .bool (decide (((ga [80, 77, 84, 30, 0, 0, 7, 0, 0] 0).2) = 10))) rfl rfl) (Qs 1 rfl (Za (Zn (Zg (v := .bool (decide (((ga [80, 77, 84, 30, 0, 0, 7, 0, 0] 0).2) = 10))) rfl (Z9 results4 rfl) ?_))))))))
 exact ⟨_, rfl, (by rw [decide_eq_true (show ((ga [80, 77, 84, 30, 0, 0, 7, 0, 0] 0).2) = 10 from (by decide +kernel))]), ((((((HU.t1 hU15).Zb hU16).Zb hU17).Zb hU18).Zb hU19).Zb hU20)⟩
end Go.Proofs.YtbjjhfoeckkacaaGreatDoor
