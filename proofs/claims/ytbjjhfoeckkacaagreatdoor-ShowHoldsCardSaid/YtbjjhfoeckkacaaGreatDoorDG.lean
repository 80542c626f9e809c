/-
  Several texts of this project, put together.
-/
import Derived.Test.YtbjjhfoeckkacaaGreatDoorFZ
import Derived.Test.YtbjjhfoeckkacaaGreatDoorDB
set_option linter.unusedVariables false
set_option linter.unusedSimpArgs false
set_option maxRecDepth 100000
set_option maxHeartbeats 16000000
namespace Go.Proofs.YtbjjhfoeckkacaaGreatDoor
open Go.Fw _root_.Go.Proofs.Tryz
theorem wleast {m : Nat} (w : World) (hm : 1 ≤ m ∧ m ≤ 1000) :
  Calls Tryz.prog 166 #[.int .i64 m] w (Ret fun v w' => ∃ (b : Nat), v = .int .i64 b ∧ 2 ^ b ≤ m ∧ m < 2 * 2 ^ b ∧ b ≤ 10 ∧ Upd No w w') := by
 have HU := Upd.Yo w
 refine Zq func166 rfl ntmps166 (by simp) (Sn (Qs 1 rfl (Za (Sn (Qs 1 rfl (Za (Zz (Zs (ZS (fun mu ρ ds w' => ∃ (b : Nat), 12 - b = mu ∧ ds = [] ∧ Liv ρ [(0, .int .i64 m), (3, .int .i64 b)] ∧ 2 ^ b ≤ m ∧ b ≤ 10 ∧ Upd No w w') _ ⟨0, rfl, rfl, ⟨rfl, (by first | rfl | exact Zt (by omega) | exact Zt (by simp)), trivial⟩, (by rw [Nat.pow_zero]; omega), (by omega), Upd.refl _ _⟩ ?_)))))))))
 rintro m1 ρ1 ds1 w1 ⟨b, rfl, rfl, hl1, hb, hb10, hU1⟩
 obtain ⟨ρ1x, rfl⟩ : ∃ ρx, ρ1 = upds ρx [(0, .int .i64 m), (3, .int .i64 b)] := ⟨_, ZD hl1⟩
 clear hl1
 have:=hU1.size
 have hps := p2s b
 have HL1 := hU1
 refine Sm (Qs 1 rfl (Zj (Zv rfl call53 rfl) (wsize _ (by omega)) ?_))
 rintro v w2 ⟨rfl, hU2⟩
 have:=hU2.size
 refine Zf (YM rfl rfl ZY) (Qs 2 rfl (Za (W_if rfl (fun q1 => ?_) fun q1 => ?_)))
 ·refine Zi (Zs (Zl (Qs 1 rfl (Xd rfl rfl (Qs 1 rfl (Za ?_))))))
  have hb11 : b + 1 ≤ 10 := by
   rcases Nat.lt_or_ge (b + 1) 11 with h | h
   ·omega
   have := p2le h; omega
  refine ⟨_, ?_, (b + 1), rfl, rfl, ⟨rfl, Zt, trivial⟩, (by omega), hb11, (HL1.Zb hU2)⟩
  omega
 exact ZI (Sn (Qs 2 rfl (Za (Zn (Zg rfl (Z9 results166 rfl) ⟨_, rfl, b, rfl, hb, (by omega), hb10, ((HU.Zb hU1).Zb hU2)⟩)))))
theorem wget {rr lo hi n rd m : Nat} (w : World) (hR : Rd w rr lo hi n rd) (hd : rd + n ≤ 100000000) (hm : 3 ≤ m ∧ m ≤ 600) :
  Calls Tryz.prog 160 #[.pointer (some ⟨rr, 0, none⟩), .int .i64 m] w (Ret fun v w' => ∃ (v9 : Int) (e : Int) (n9 : Nat) (rd9 : Nat), v = .tuple #[.int .i64 v9, .int .i64 e] ∧ Rd w' rr lo hi n9 rd9 ∧ n9 + rd9 = n + rd ∧ (e = 0 → 0 ≤ v9 ∧ v9 ≤ (m : Int) - 1) ∧ Upd (Is rr) w w') := by
 have HU : Upd (fun b => b = rr) w w := Upd.refl _ _
 refine Zq func160 rfl ntmps160 (by simp) (Sn (Qs 2 rfl (Za (Sn (Qs 1 rfl (Zj (Zv rfl call166 rfl) (wleast _ (by omega)) ?_))))))
 rintro v w1 ⟨b1, rfl, hb_1, hb2_1, hb3_1, hU1⟩
 have:=hU1.size
 refine Qs 1 rfl (Za (Sn (Qs 1 rfl (Zj (Zv rfl call53 rfl) (wsize _ (by omega)) ?_))))
 rintro v w2 ⟨rfl, hU2⟩
 have:=hU2.size
 refine Zf (YM rfl rfl ZY) (Qs 1 rfl (Xs rfl rfl (Qs 1 rfl (Za (Sn (Qs 2 rfl ?_))))))
 replace hR := (hR.Zc hU1).Zc hU2
 replace HU := (HU.Zb hU1).Zb hU2
 by_cases q1 : b1 ≤ n
 ·refine Zj (Zy rfl call149 rfl rfl) (wfirst_ok _ hR (by omega) (by omega) q1) ?_
  rintro v w3 ⟨z3, rfl, hR3, hv_3, hU3⟩
  have:=hU3.size
  refine Qs 5 rfl (Za (Sm (Qs 1 rfl (Zf (v := .bool false) (Yh (a := 0) (b := 0) rfl rfl) (Qs 1 rfl (Gt (Qs 1 rfl (Gt (Zf (ZZ underlying101 underlying3 rfl ZY) (Gt (Qs 1 rfl (Gt (Qs 1 rfl (Zf (Zw (v := .bool (decide ((z3 : Int) < ((2 * ((2 ^ b1 : Nat) : Int)) - (m : Int))))) rfl rfl) (Za ?_)))))))))))))))
  replace HU := HU.Zr hU3
  refine W_if rfl (fun q2 => ?_) fun q2 => ?_
  ·exact Sn (Qs 1 rfl (Zf (ZZ underlying101 underlying3 rfl ZY) (Qs 3 rfl (Za (Zn (Zg rfl (Z2 results160 rfl rfl) ⟨_, rfl, (z3 : Int), 0, (n - b1), (rd + b1), rfl, hR3, (by omega), (fun _ => by omega), HU⟩))))))
  refine Zi (Sn (Qs 1 rfl ?_))
  by_cases q3 : 1 ≤ (n - b1)
  ·refine Zj (Zy rfl call149 (v1 := .int .i64 ((1 : Nat) : Int)) rfl rfl) (wfirst_ok _ hR3 (by omega) (by omega) q3) ?_
   rintro v w4 ⟨z4, rfl, hR4, hv_4, hU4⟩
   have:=hU4.size
   exact Qs 5 rfl (Za (Sn (Qs 1 rfl (Zf (ZZ underlying101 underlying3 rfl ZY) (Zf (YM rfl rfl ZY) (Qs 1 rfl (Zf (ZZ underlying101 underlying3 rfl ZY) (Xd rfl rfl (Qs 1 rfl (Xs rfl rfl (Qs 3 rfl (Za (Zn (Zg rfl (Z2 results160 rfl rfl) ⟨_, rfl, (((2 * (z3 : Int)) + (z4 : Int)) - ((2 * ((2 ^ b1 : Nat) : Int)) - (m : Int))), 0, ((n - b1) - 1), ((rd + b1) + 1), rfl, hR4, (by omega), (fun _ => by omega), (HU.Zr hU4)⟩))))))))))))))
  refine Zj (Zy rfl call149 (v1 := .int .i64 ((1 : Nat) : Int)) rfl rfl) (wfirst_no _ hR3 (by omega) q3) ?_
  rintro v w5 ⟨rfl, hR5, hU5⟩
  have:=hU5.size
  exact Qs 5 rfl (Za (Sn (Qs 1 rfl (Zf (ZZ underlying101 underlying3 rfl ZY) (Zf (YM rfl rfl ZY) (Qs 1 rfl (Zf (ZZ underlying101 underlying3 rfl ZY) (Xd rfl rfl (Qs 1 rfl (Xs rfl rfl (Qs 3 rfl (Za (Zn (Zg rfl (Z2 results160 rfl rfl) ⟨_, rfl, (((2 * (z3 : Int)) + 0) - ((2 * ((2 ^ b1 : Nat) : Int)) - (m : Int))), 3, (n - b1), (rd + b1), rfl, (hR3.Zc hU5), (by omega), (fun h => absurd h (by decide)), (HU.Zb hU5)⟩))))))))))))))
 refine Zj (Zy rfl call149 rfl rfl) (wfirst_no _ hR (by omega) q1) ?_
 rintro v w6 ⟨rfl, hR6, hU6⟩
 have:=hU6.size
 exact Qs 5 rfl (Za (Sm (Qs 1 rfl (Zf (v := .bool true) (Yh (a := 3) (b := 0) rfl rfl) (Qs 1 rfl (Gf (Gf (Gf (Gf (Zf (Zx (v := .bool true) rfl rfl) (Za (Ct (Sn (Qs 1 rfl (Zf (ZZ underlying101 underlying3 rfl ZY) (Qs 3 rfl (Za (Zn (Zg rfl (Z2 results160 rfl rfl) ⟨_, rfl, 0, 3, n, rd, rfl, (hR.Zc hU6), (by omega), (fun h => absurd h (by decide)), (HU.Zb hU6)⟩)))))))))))))))))))
theorem wnorms {rr lo hi n rd L : Nat} {sy : Int} (w : World) (hR : Rd w rr lo hi n rd) (hd : rd + n ≤ 100000000) (hL : 1 ≤ L ∧ L ≤ 512) (hsy : sy ≤ 256) :
  Calls Tryz.prog 150 #[.pointer (some ⟨rr, 0, none⟩), .int .i64 L, .int .i64 sy] w (Ret fun v w' => ∃ (a' : Option Addr) (m' : Nat) (c' : Nat) (N : List Int) (e : Int) (n9 : Nat) (rd9 : Nat), v = .tuple #[.slice a' m' c', .int .i64 e] ∧ Own w' (fun g => w.heap.size ≤ g) 3 1 (.slice a' m' c') m' (ints .i64 N) ∧ Rd w' rr lo hi n9 rd9 ∧ n9 + rd9 = n + rd ∧ (e = 0 → NoP N L sy) ∧ Upd (Is rr) w w') := by
 have HU : Upd (fun b => b = rr) w w := Upd.refl _ _
 have hrl := hR.lt
 have hrh := hR.le
 refine Zq func150 rfl ntmps150 (by simp) (Sn (Qs 2 rfl (Za (Sn (Qs 1 rfl (Za (Sn (Qs 1 rfl (Za (Zz (Zs (ZS (fun mu ρ ds w' => ∃ (l : Nat) (acc : List Int) (k9 : Nat) (a9 : Option Addr) (c9 : Nat) (n1 : Nat) (rd1 : Nat) (rb : Bool), 300 - k9 = mu ∧ ds = [] ∧ Liv ρ [(0, .pointer (some ⟨rr, 0, none⟩)), (1, .int .i64 l), (2, .int .i64 sy), (8, .slice a9 k9 c9), (9, .bool (decide (rb = true)))] ∧ l ≤ L ∧ sml acc + (l : Int) = (L : Int) ∧ (∀ x ∈ acc, -1 ≤ x ∧ x ≤ 512) ∧ k9 ≤ 260 ∧ n1 + rd1 = n + rd ∧ (l = 0 → 1 ≤ acc.length ∧ (acc.length : Int) ≤ sy ∧ acc.getD (acc.length - 1) 0 ≠ 0) ∧ Own w' (fun g => w.heap.size ≤ g) 3 1 (.slice a9 k9 c9) k9 (ints .i64 acc) ∧ Rd w' rr lo hi n1 rd1 ∧ Upd (fun g => g = rr ∨ w.heap.size ≤ g) w w') _ ⟨L, [], 0, none, 0, n, rd, false, rfl, rfl, ⟨rfl, (by first | rfl | exact Zt (by omega) | exact Zt (by simp)), rfl, (by first | rfl | exact Zt (by omega) | exact Zt (by simp)), rfl, trivial⟩, (by omega), (by show (0 : Int) + _ = _; omega), (fun x hx => by cases hx), (by omega), (by omega), (fun h => absurd h (by omega)), (by exact Own.nil _ _ _ _), (by exact hR), Upd.refl _ _⟩ ?_))))))))))))
 rintro m1 ρ1 ds1 w1 ⟨l, acc, k9, a9, c9, n1, rd1, rb, rfl, rfl, hl1, hlL, hsl, hrg, hk9, hnr, hlp, hO, hR, hU1⟩
 obtain ⟨ρ1x, rfl⟩ : ∃ ρx, ρ1 = upds ρx [(0, .pointer (some ⟨rr, 0, none⟩)), (1, .int .i64 l), (2, .int .i64 sy), (8, .slice a9 k9 c9), (9, .bool (decide (rb = true)))] := ⟨_, ZD hl1⟩
 clear hl1
 have:=hU1.size
 replace hO := hO.tight
 have hl_hO := ZC hO.sl
 have hc_hO := hO.sl.cap.1
 have hrl1 := hR.lt
 have hrh1 := hR.le
 have HL1 := hU1
 refine Sm (Qs 2 rfl (Za ?_))
 replace HU := HU.trans hU1
 refine W_if rfl (fun q1 => ?_) fun q1 => ?_
 ·refine Zi (Zs (Sm (Qs 1 rfl (Zf (ZM underlying51 rfl) (Qs 2 rfl (Za (W_if rfl (fun q2 => ?_) fun q2 => ?_)))))))
  ·exact Sn (Qs 2 rfl (Za (Zn (Zg rfl (Z2 results150 rfl rfl) ⟨_, rfl, none, 0, 0, [], 13, n1, rd1, rfl, Own.nil _ _ _ _, hR, (by omega), (fun h => absurd h (by decide)), HU⟩))))
  refine Zi (Sn (Qs 2 rfl (Xd rfl rfl (Zj (Zy rfl call160 (v1 := .int .i64 ((l + 2 : Nat) : Int)) rfl Zt) (wget _ hR (by omega) (by omega)) ?_))))
  rintro v w2 ⟨v2, e2, n2, rd2, rfl, hR2, hn9_2, hv9_2, hU2⟩
  have:=hU2.size
  refine Qs 5 rfl (Za (Sm (Qs 2 rfl (Za ?_))))
  replace HU := HU.Zr hU2
  by_cases q3 : e2 ≠ 0
  ·rw [decide_eq_true q3]
   exact Ct (Sn (Qs 3 rfl (Za (Zn (Zg rfl (Z2 results150 rfl rfl) ⟨_, rfl, none, 0, 0, [], e2, n2, rd2, rfl, Own.nil _ _ _ _, hR2, (by omega), (fun h => absurd h q3), HU⟩)))))
  have hv9 := hv9_2 (Classical.not_not.1 q3)
  rw [decide_eq_false q3]
  refine Cf (Zi (Sm (Qs 3 rfl ?_)))
  replace hO := hO.Zh hU2
  replace HL1 := HL1.Zr hU2
  by_cases q4 : v2 = 1
  ·rw [decide_eq_true q4]
   refine Gt (Qs 1 rfl (Zf (Zx (v := .bool (decide (rb = true))) rfl rfl) (Za ?_)))
   by_cases q5 : rb = true
   ·rw [decide_eq_true q5]
    exact Ct (Sn (Qs 2 rfl (Za (Zn (Zg rfl (Z2 results150 rfl rfl) ⟨_, rfl, none, 0, 0, [], 13, n2, rd2, rfl, Own.nil _ _ _ _, hR2, (by omega), (fun h => absurd h (by decide)), HU⟩)))))
   rw [decide_eq_false q5]
   refine Cf (Zi (Sn (Qs 2 rfl (Xs rfl rfl (Xz [.int .i64 (v2 - 1)] underlying51 sizeOf3 zeroValue3 ?_)))))
   intro B3 w3 hB3 hU3 hzz3 hs3
   replace hs3 : Own w3 (Is B3) 3 1 (.slice (some ⟨B3, 0, none⟩) 1 1) 1 (ints .i64 [v2 - 1]) := hs3
   replace hs3 : Own w3 (Is B3) 3 1 (.slice (some ⟨B3, 0, none⟩) 1 1) 1 (ints .i64 [v2 - 1]) := hs3
   replace hO := hO.Zc hU3
   refine Z1 (xs := acc) (ys := [v2 - 1]) (zs := acc ++ [v2 - 1]) (k' := .i64) (tot := k9 + 1) (by first | rfl | exact (ZR _ _).symm | simp) underlying51 (ti := Tryz.t3) (z := .int .i64 0) (sz := 1) (by' := 8) rfl rfl rfl rfl rfl (by decide) rfl hO rfl hs3.sl  (by omega) (by simp only [maxLen]; omega) (by omega) ?_
   intro a4 c4 w4 hU4 hzz4 hO4
   replace HU := HU.Zb hU3
   replace HL1 := HL1.Zb hU3
   replace hR2 := hR2.Zc hU3
   clear hO
   have:=hU4.size
   replace hO4 := hO4.tight
   have hl_hO4 := ZC hO4.sl
   have hc_hO4 := hO4.sl.cap.1
   refine Qs 1 rfl (Za (Sn (Qs 2 rfl (Xs rfl rfl ?_))))
   have hst2 : 0 ≤ stt (v2 - 1) ∧ stt (v2 - 1) ≤ (l : Int) := by unfold stt; split <;> omega
   refine Zj (Zv rfl call52 rfl) (wstates _ ) ?_
   rintro v w5 ⟨rfl, hU5⟩
   have:=hU5.size
   refine Xs rfl rfl ?_
   rw [show ((l : Int) - (stt (v2 - 1)) : Int) = (((l - (stt (v2 - 1)).toNat) : Nat) : Int) from by omega]
   refine Qs 1 rfl (Za (Sn (Qs 3 rfl (Za (Sn (Qs 2 rfl (Za (Zs ?_))))))))
   replace hR2 := (hR2.upd hU4).Zc hU5
   replace hO4 := hO4.Zc hU5
   refine ZS (fun mu ρ ds w' => ∃ (f : Nat) (ac : List Int) (k8 : Nat) (a8 : Option Addr) (c8 : Nat) (n2 : Nat) (rd2 : Nat), 2 * (300 - k8) + f = mu ∧ ds = [] ∧ Liv ρ [(0, .pointer (some ⟨rr, 0, none⟩)), (1, .int .i64 (((l - (stt (v2 - 1)).toNat) : Nat) : Int)), (2, .int .i64 sy), (8, .slice a8 k8 c8), (9, .bool (decide (v2 = 1))), (12, .bool (decide (f = 1))), (35, .bool false)] ∧ f ≤ 1 ∧ sml ac = sml acc + stt (v2 - 1) ∧ (∀ x ∈ ac, -1 ≤ x ∧ x ≤ 512) ∧ (k9 + 1 ≤ k8 ∧ k8 ≤ 260) ∧ n2 + rd2 = n + rd ∧ (¬ v2 = 1 → ac = acc ++ [v2 - 1]) ∧ (f = 1 → v2 = 1) ∧ (f = 0 ∨ f = 1) ∧ Own w' (fun g => w.heap.size ≤ g) 3 1 (.slice a8 k8 c8) k8 (ints .i64 ac) ∧ Rd w' rr lo hi n2 rd2 ∧ Upd (fun g => g = rr ∨ w.heap.size ≤ g) w5 w') _ ⟨(if v2 = 1 then 1 else 0), (acc ++ [v2 - 1]), (k9 + 1), a4, c4, n2, rd2, rfl, rfl, ⟨rfl, rfl, rfl, rfl, rfl, (vbool (by split <;> omega)), rfl, trivial⟩, (by split <;> omega), (by rw [sml_app]; show _ + (_ + 0) = _; omega), (rg_app hrg (rg_one ⟨by omega, by omega⟩)), ⟨by omega, by omega⟩, (by omega), (fun _ => rfl), (fun h => by split at h <;> omega), (by split <;> omega), hO4.weak, hR2, Upd.refl _ _⟩ ?_
   rintro m6 ρ6 ds6 w6 ⟨f, ac, k8, a8, c8, n2, rd2, rfl, rfl, hl6, hf, hsa, hrg2, hk8, hnr2, hac, hf1, hf01, hO, hR, hU6⟩
   obtain ⟨ρ6x, rfl⟩ : ∃ ρx, ρ6 = upds ρx [(0, .pointer (some ⟨rr, 0, none⟩)), (1, .int .i64 (((l - (stt (v2 - 1)).toNat) : Nat) : Int)), (2, .int .i64 sy), (8, .slice a8 k8 c8), (9, .bool (decide (v2 = 1))), (12, .bool (decide (f = 1))), (35, .bool false)] := ⟨_, ZD hl6⟩
   replace HU := (HU.trans hU4).Zb hU5
   replace HL1 := (HL1.trans hU4).Zb hU5
   clear hl6
   have:=hU6.size
   replace hO := hO.tight
   have hl_hO := ZC hO.sl
   have hc_hO := hO.sl.cap.1
   have hrl2 := hR.lt
   have hrh2 := hR.le
   have HL6 := hU6
   refine Sm (Qs 1 rfl (Za (W_if rfl (fun q6 => ?_) fun q6 => ?_)))
   ·refine Zi (Zs (Sm (Qs 1 rfl (Zf (ZM underlying51 rfl) (Qs 2 rfl (Za ?_))))))
    replace HU := HU.trans hU6
    refine W_if rfl (fun q7 => ?_) fun q7 => ?_
    ·exact Sn (Qs 2 rfl (Za (Zn (Zg rfl (Z2 results150 rfl rfl) ⟨_, rfl, none, 0, 0, [], 13, n2, rd2, rfl, Own.nil _ _ _ _, hR, (by omega), (fun h => absurd h (by decide)), HU⟩))))
    refine Zi (Sn (Qs 1 rfl ?_))
    by_cases q8 : 2 ≤ n2
    ·refine Zj (Zy rfl call149 (v1 := .int .i64 ((2 : Nat) : Int)) rfl rfl) (wfirst_ok _ hR (by omega) (by omega) q8) ?_
     rintro v w7 ⟨z7, rfl, hR7, hv_7, hU7⟩
     have:=hU7.size
     have hz4 : z7 < 4 := hv_7
     refine Qs 5 rfl (Za (Sm (Qs 1 rfl (Zf (v := .bool false) (Yh (a := 0) (b := 0) rfl rfl) (Za (Cf (Zi (Sm (Qs 1 rfl (Za (Zs ?_)))))))))))
     replace hO := hO.Zh hU7
     refine ZS (fun mu ρ ds w' => ∃ (j : Nat) (ad : List Int) (k7 : Nat) (a7 : Option Addr) (c7 : Nat), z7 - j = mu ∧ ds = [] ∧ Liv ρ [(0, .pointer (some ⟨rr, 0, none⟩)), (1, .int .i64 (((l - (stt (v2 - 1)).toNat) : Nat) : Int)), (2, .int .i64 sy), (8, .slice a7 k7 c7), (9, .bool (decide (v2 = 1))), (13, .int .u64 z7), (15, .int .i64 j), (35, .bool false)] ∧ j ≤ z7 ∧ sml ad = sml ac ∧ (∀ x ∈ ad, -1 ≤ x ∧ x ≤ 512) ∧ k7 = k8 + j ∧ Own w' (fun g => w.heap.size ≤ g) 3 1 (.slice a7 k7 c7) k7 (ints .i64 ad) ∧ Upd (fun g => w.heap.size ≤ g) w7 w') _ ⟨0, ac, k8, a8, c8, rfl, rfl, ⟨rfl, rfl, rfl, rfl, rfl, rfl, (by first | rfl | exact Zt (by omega) | exact Zt (by simp)), rfl, trivial⟩, (by omega), rfl, hrg2, (by omega), hO.weak, Upd.refl _ _⟩ ?_
     rintro m8 ρ8 ds8 w8 ⟨j, ad, k7, a7, c7, rfl, rfl, hl8, hj, hsd, hrg3, hk7, hO, hU8⟩
     obtain ⟨ρ8x, rfl⟩ : ∃ ρx, ρ8 = upds ρx [(0, .pointer (some ⟨rr, 0, none⟩)), (1, .int .i64 (((l - (stt (v2 - 1)).toNat) : Nat) : Int)), (2, .int .i64 sy), (8, .slice a7 k7 c7), (9, .bool (decide (v2 = 1))), (13, .int .u64 z7), (15, .int .i64 j), (35, .bool false)] := ⟨_, ZD hl8⟩
     replace HL1 := HL1.trans hU6
     replace HL6 := HL6.Zr hU7
     clear hl8
     have:=hU8.size
     replace hO := hO.tight
     have hl_hO := ZC hO.sl
     have hc_hO := hO.sl.cap.1
     have HL8 := hU8
     refine Sm (Qs 2 rfl (Zf (ZZ underlying101 underlying3 rfl ZY) (Qs 1 rfl (Za (W_if rfl (fun q9 => ?_) fun q9 => ?_)))))
     ·refine Zi (Zz (Zs (Zl (Qs 1 rfl (Xz [.int .i64 0] underlying51 sizeOf3 zeroValue3 ?_)))))
      intro B9 w9 hB9 hU9 hzz9 hs9
      replace hs9 : Own w9 (Is B9) 3 1 (.slice (some ⟨B9, 0, none⟩) 1 1) 1 (ints .i64 [0]) := hs9
      replace hs9 : Own w9 (Is B9) 3 1 (.slice (some ⟨B9, 0, none⟩) 1 1) 1 (ints .i64 [0]) := hs9
      replace hO := hO.Zc hU9
      refine Z1 (xs := ad) (ys := [0]) (zs := ad ++ [0]) (k' := .i64) (tot := k7 + 1) (by first | rfl | exact (ZR _ _).symm | simp) underlying51 (ti := Tryz.t3) (z := .int .i64 0) (sz := 1) (by' := 8) rfl rfl rfl rfl rfl (by decide) rfl hO rfl hs9.sl  (by omega) (by simp only [maxLen]; omega) (by omega) ?_
      intro a10 c10 w10 hU10 hzz10 hO10
      replace HL6 := HL6.trans hU8
      replace hR7 := hR7.upd hU8
      replace HL8 := HL8.Zb hU9
      clear hO
      have:=hU10.size
      replace hO10 := hO10.tight
      have hl_hO10 := ZC hO10.sl
      have hc_hO10 := hO10.sl.cap.1
      refine Qs 1 rfl (Za (Zl (Qs 1 rfl (Xd rfl rfl (Qs 1 rfl (Za ?_))))))
      refine ⟨_, ?_, (j + 1), (ad ++ [0]), (k7 + 1), a10, c10, rfl, rfl, ⟨rfl, rfl, rfl, rfl, rfl, rfl, Zt, rfl, trivial⟩, (by omega), (by rw [sml_app, hsd]; show _ + (stt 0 + 0) = _; rw [show stt 0 = 0 from rfl]; omega), (rg_app hrg3 (rg_one ⟨by decide, by decide⟩)), (by omega), hO10.weak, (HL8.trans hU10)⟩
      omega
     refine ZI (Zl (Qs 1 rfl ?_))
     replace HL6 := HL6.trans hU8
     replace hR7 := hR7.upd hU8
     by_cases q10 : z7 = 3
     ·refine Qs 2 rfl (Za ?_)
      refine ⟨_, ?_, 1, ad, k7, a7, c7, (n2 - 2), (rd2 + 2), rfl, rfl, ⟨rfl, rfl, rfl, rfl, rfl, (vbool (by omega)), rfl, trivial⟩, (by omega), (by omega), hrg3, ⟨by omega, by omega⟩, (by omega), (fun h => absurd (hf1 (by omega)) h), (fun _ => hf1 (by omega)), (by omega), hO.weak, hR7, HL6⟩
      omega
     refine Qs 2 rfl (Za ?_)
     refine ⟨_, ?_, 0, ad, k7, a7, c7, (n2 - 2), (rd2 + 2), rfl, rfl, ⟨rfl, rfl, rfl, rfl, rfl, (vbool (by omega)), rfl, trivial⟩, (by omega), (by omega), hrg3, ⟨by omega, by omega⟩, (by omega), (fun h => absurd (hf1 (by omega)) h), (fun _ => hf1 (by omega)), (by omega), hO.weak, hR7, HL6⟩
     omega
    refine Zj (Zy rfl call149 (v1 := .int .i64 ((2 : Nat) : Int)) rfl rfl) (wfirst_no _ hR (by omega) q8) ?_
    rintro v w11 ⟨rfl, hR11, hU11⟩
    have:=hU11.size
    exact Qs 5 rfl (Za (Sm (Qs 1 rfl (Zf (v := .bool true) (Yh (a := 3) (b := 0) rfl rfl) (Za (Ct (Sn (Qs 3 rfl (Za (Zn (Zg rfl (Z2 results150 rfl rfl) ⟨_, rfl, none, 0, 0, [], 3, n2, rd2, rfl, Own.nil _ _ _ _, (hR.Zc hU11), (by omega), (fun h => absurd h (by decide)), (HU.Zb hU11)⟩)))))))))))
   refine ZI ?_
   replace HL1 := HL1.trans hU6
   refine ⟨_, ?_, (l - (stt (v2 - 1)).toNat), ac, k8, a8, c8, n2, rd2, (decide (v2 = 1)), rfl, rfl, ⟨rfl, rfl, rfl, rfl, (vbool (by rw [decide_eq_true_eq])), trivial⟩, (by omega), (by omega), hrg2, (by omega), (by omega), (fun h0 => by
     have hv1 : ¬ v2 = 1 := by
      intro hv
      have h00 : stt (v2 - 1) = 0 := by rw [hv]; rfl
      omega
     rw [hac hv1, last_app, List.length_append, List.length_singleton]
     exact ⟨by omega, by omega, by omega⟩), hO.weak, hR, HL1⟩
   omega
  rw [decide_eq_false q4]
  refine Gf (Zf (Zw (v := .bool false) rfl rfl) (Za (Cf (Zi (Sn (Qs 2 rfl (Xs rfl rfl (Xz [.int .i64 (v2 - 1)] underlying51 sizeOf3 zeroValue3 ?_))))))))
  intro B12 w12 hB12 hU12 hzz12 hs12
  replace hs12 : Own w12 (Is B12) 3 1 (.slice (some ⟨B12, 0, none⟩) 1 1) 1 (ints .i64 [v2 - 1]) := hs12
  replace hs12 : Own w12 (Is B12) 3 1 (.slice (some ⟨B12, 0, none⟩) 1 1) 1 (ints .i64 [v2 - 1]) := hs12
  replace hO := hO.Zc hU12
  refine Z1 (xs := acc) (ys := [v2 - 1]) (zs := acc ++ [v2 - 1]) (k' := .i64) (tot := k9 + 1) (by first | rfl | exact (ZR _ _).symm | simp) underlying51 (ti := Tryz.t3) (z := .int .i64 0) (sz := 1) (by' := 8) rfl rfl rfl rfl rfl (by decide) rfl hO rfl hs12.sl  (by omega) (by simp only [maxLen]; omega) (by omega) ?_
  intro a13 c13 w13 hU13 hzz13 hO13
  replace HU := HU.Zb hU12
  replace HL1 := HL1.Zb hU12
  replace hR2 := hR2.Zc hU12
  clear hO
  have:=hU13.size
  replace hO13 := hO13.tight
  have hl_hO13 := ZC hO13.sl
  have hc_hO13 := hO13.sl.cap.1
  refine Qs 1 rfl (Za (Sn (Qs 2 rfl (Xs rfl rfl ?_))))
  have hst2 : 0 ≤ stt (v2 - 1) ∧ stt (v2 - 1) ≤ (l : Int) := by unfold stt; split <;> omega
  refine Zj (Zv rfl call52 rfl) (wstates _ ) ?_
  rintro v w14 ⟨rfl, hU14⟩
  have:=hU14.size
  refine Xs rfl rfl ?_
  rw [show ((l : Int) - (stt (v2 - 1)) : Int) = (((l - (stt (v2 - 1)).toNat) : Nat) : Int) from by omega]
  refine Qs 1 rfl (Za (Sn (Qs 3 rfl (Za (Sn (Qs 2 rfl (Za (Zs ?_))))))))
  replace hR2 := (hR2.upd hU13).Zc hU14
  replace hO13 := hO13.Zc hU14
  refine ZS (fun mu ρ ds w' => ∃ (f : Nat) (ac : List Int) (k8 : Nat) (a8 : Option Addr) (c8 : Nat) (n2 : Nat) (rd2 : Nat), 2 * (300 - k8) + f = mu ∧ ds = [] ∧ Liv ρ [(0, .pointer (some ⟨rr, 0, none⟩)), (1, .int .i64 (((l - (stt (v2 - 1)).toNat) : Nat) : Int)), (2, .int .i64 sy), (8, .slice a8 k8 c8), (9, .bool (decide (v2 = 1))), (12, .bool (decide (f = 1)))] ∧ f ≤ 1 ∧ sml ac = sml acc + stt (v2 - 1) ∧ (∀ x ∈ ac, -1 ≤ x ∧ x ≤ 512) ∧ (k9 + 1 ≤ k8 ∧ k8 ≤ 260) ∧ n2 + rd2 = n + rd ∧ (¬ v2 = 1 → ac = acc ++ [v2 - 1]) ∧ (f = 1 → v2 = 1) ∧ (f = 0 ∨ f = 1) ∧ Own w' (fun g => w.heap.size ≤ g) 3 1 (.slice a8 k8 c8) k8 (ints .i64 ac) ∧ Rd w' rr lo hi n2 rd2 ∧ Upd (fun g => g = rr ∨ w.heap.size ≤ g) w14 w') _ ⟨(if v2 = 1 then 1 else 0), (acc ++ [v2 - 1]), (k9 + 1), a13, c13, n2, rd2, rfl, rfl, ⟨rfl, rfl, rfl, rfl, rfl, (vbool (by split <;> omega)), trivial⟩, (by split <;> omega), (by rw [sml_app]; show _ + (_ + 0) = _; omega), (rg_app hrg (rg_one ⟨by omega, by omega⟩)), ⟨by omega, by omega⟩, (by omega), (fun _ => rfl), (fun h => by split at h <;> omega), (by split <;> omega), hO13.weak, hR2, Upd.refl _ _⟩ ?_
  rintro m15 ρ15 ds15 w15 ⟨f, ac, k8, a8, c8, n2, rd2, rfl, rfl, hl15, hf, hsa, hrg2, hk8, hnr2, hac, hf1, hf01, hO, hR, hU15⟩
  obtain ⟨ρ15x, rfl⟩ : ∃ ρx, ρ15 = upds ρx [(0, .pointer (some ⟨rr, 0, none⟩)), (1, .int .i64 (((l - (stt (v2 - 1)).toNat) : Nat) : Int)), (2, .int .i64 sy), (8, .slice a8 k8 c8), (9, .bool (decide (v2 = 1))), (12, .bool (decide (f = 1)))] := ⟨_, ZD hl15⟩
  replace HU := (HU.trans hU13).Zb hU14
  replace HL1 := (HL1.trans hU13).Zb hU14
  clear hl15
  have:=hU15.size
  replace hO := hO.tight
  have hl_hO := ZC hO.sl
  have hc_hO := hO.sl.cap.1
  have hrl2 := hR.lt
  have hrh2 := hR.le
  have HL15 := hU15
  refine Sm (Qs 1 rfl (Za (W_if rfl (fun q11 => ?_) fun q11 => ?_)))
  ·refine Zi (Zs (Sm (Qs 1 rfl (Zf (ZM underlying51 rfl) (Qs 2 rfl (Za ?_))))))
   replace HU := HU.trans hU15
   refine W_if rfl (fun q12 => ?_) fun q12 => ?_
   ·exact Sn (Qs 2 rfl (Za (Zn (Zg rfl (Z2 results150 rfl rfl) ⟨_, rfl, none, 0, 0, [], 13, n2, rd2, rfl, Own.nil _ _ _ _, hR, (by omega), (fun h => absurd h (by decide)), HU⟩))))
   refine Zi (Sn (Qs 1 rfl ?_))
   by_cases q13 : 2 ≤ n2
   ·refine Zj (Zy rfl call149 (v1 := .int .i64 ((2 : Nat) : Int)) rfl rfl) (wfirst_ok _ hR (by omega) (by omega) q13) ?_
    rintro v w16 ⟨z16, rfl, hR16, hv_16, hU16⟩
    have:=hU16.size
    have hz4 : z16 < 4 := hv_16
    refine Qs 5 rfl (Za (Sm (Qs 1 rfl (Zf (v := .bool false) (Yh (a := 0) (b := 0) rfl rfl) (Za (Cf (Zi (Sm (Qs 1 rfl (Za (Zs ?_)))))))))))
    replace hO := hO.Zh hU16
    refine ZS (fun mu ρ ds w' => ∃ (j : Nat) (ad : List Int) (k7 : Nat) (a7 : Option Addr) (c7 : Nat), z16 - j = mu ∧ ds = [] ∧ Liv ρ [(0, .pointer (some ⟨rr, 0, none⟩)), (1, .int .i64 (((l - (stt (v2 - 1)).toNat) : Nat) : Int)), (2, .int .i64 sy), (8, .slice a7 k7 c7), (9, .bool (decide (v2 = 1))), (13, .int .u64 z16), (15, .int .i64 j)] ∧ j ≤ z16 ∧ sml ad = sml ac ∧ (∀ x ∈ ad, -1 ≤ x ∧ x ≤ 512) ∧ k7 = k8 + j ∧ Own w' (fun g => w.heap.size ≤ g) 3 1 (.slice a7 k7 c7) k7 (ints .i64 ad) ∧ Upd (fun g => w.heap.size ≤ g) w16 w') _ ⟨0, ac, k8, a8, c8, rfl, rfl, ⟨rfl, rfl, rfl, rfl, rfl, rfl, (by first | rfl | exact Zt (by omega) | exact Zt (by simp)), trivial⟩, (by omega), rfl, hrg2, (by omega), hO.weak, Upd.refl _ _⟩ ?_
    rintro m17 ρ17 ds17 w17 ⟨j, ad, k7, a7, c7, rfl, rfl, hl17, hj, hsd, hrg3, hk7, hO, hU17⟩
    obtain ⟨ρ17x, rfl⟩ : ∃ ρx, ρ17 = upds ρx [(0, .pointer (some ⟨rr, 0, none⟩)), (1, .int .i64 (((l - (stt (v2 - 1)).toNat) : Nat) : Int)), (2, .int .i64 sy), (8, .slice a7 k7 c7), (9, .bool (decide (v2 = 1))), (13, .int .u64 z16), (15, .int .i64 j)] := ⟨_, ZD hl17⟩
    replace HL1 := HL1.trans hU15
    replace HL15 := HL15.Zr hU16
    clear hl17
    have:=hU17.size
    replace hO := hO.tight
    have hl_hO := ZC hO.sl
    have hc_hO := hO.sl.cap.1
    have HL17 := hU17
    refine Sm (Qs 2 rfl (Zf (ZZ underlying101 underlying3 rfl ZY) (Qs 1 rfl (Za (W_if rfl (fun q14 => ?_) fun q14 => ?_)))))
    ·refine Zi (Zz (Zs (Zl (Qs 1 rfl (Xz [.int .i64 0] underlying51 sizeOf3 zeroValue3 ?_)))))
     intro B18 w18 hB18 hU18 hzz18 hs18
     replace hs18 : Own w18 (Is B18) 3 1 (.slice (some ⟨B18, 0, none⟩) 1 1) 1 (ints .i64 [0]) := hs18
     replace hs18 : Own w18 (Is B18) 3 1 (.slice (some ⟨B18, 0, none⟩) 1 1) 1 (ints .i64 [0]) := hs18
     replace hO := hO.Zc hU18
     refine Z1 (xs := ad) (ys := [0]) (zs := ad ++ [0]) (k' := .i64) (tot := k7 + 1) (by first | rfl | exact (ZR _ _).symm | simp) underlying51 (ti := Tryz.t3) (z := .int .i64 0) (sz := 1) (by' := 8) rfl rfl rfl rfl rfl (by decide) rfl hO rfl hs18.sl  (by omega) (by simp only [maxLen]; omega) (by omega) ?_
     intro a19 c19 w19 hU19 hzz19 hO19
     replace HL15 := HL15.trans hU17
     replace hR16 := hR16.upd hU17
     replace HL17 := HL17.Zb hU18
     clear hO
     have:=hU19.size
     replace hO19 := hO19.tight
     have hl_hO19 := ZC hO19.sl
     have hc_hO19 := hO19.sl.cap.1
     refine Qs 1 rfl (Za (Zl (Qs 1 rfl (Xd rfl rfl (Qs 1 rfl (Za ?_))))))
     refine ⟨_, ?_, (j + 1), (ad ++ [0]), (k7 + 1), a19, c19, rfl, rfl, ⟨rfl, rfl, rfl, rfl, rfl, rfl, Zt, trivial⟩, (by omega), (by rw [sml_app, hsd]; show _ + (stt 0 + 0) = _; rw [show stt 0 = 0 from rfl]; omega), (rg_app hrg3 (rg_one ⟨by decide, by decide⟩)), (by omega), hO19.weak, (HL17.trans hU19)⟩
     omega
    refine ZI (Zl (Qs 1 rfl ?_))
    replace HL15 := HL15.trans hU17
    replace hR16 := hR16.upd hU17
    by_cases q15 : z16 = 3
    ·refine Qs 2 rfl (Za ?_)
     refine ⟨_, ?_, 1, ad, k7, a7, c7, (n2 - 2), (rd2 + 2), rfl, rfl, ⟨rfl, rfl, rfl, rfl, rfl, (vbool (by omega)), trivial⟩, (by omega), (by omega), hrg3, ⟨by omega, by omega⟩, (by omega), (fun h => absurd (hf1 (by omega)) h), (fun _ => hf1 (by omega)), (by omega), hO.weak, hR16, HL15⟩
     omega
    refine Qs 2 rfl (Za ?_)
    refine ⟨_, ?_, 0, ad, k7, a7, c7, (n2 - 2), (rd2 + 2), rfl, rfl, ⟨rfl, rfl, rfl, rfl, rfl, (vbool (by omega)), trivial⟩, (by omega), (by omega), hrg3, ⟨by omega, by omega⟩, (by omega), (fun h => absurd (hf1 (by omega)) h), (fun _ => hf1 (by omega)), (by omega), hO.weak, hR16, HL15⟩
    omega
   refine Zj (Zy rfl call149 (v1 := .int .i64 ((2 : Nat) : Int)) rfl rfl) (wfirst_no _ hR (by omega) q13) ?_
   rintro v w20 ⟨rfl, hR20, hU20⟩
   have:=hU20.size
   exact Qs 5 rfl (Za (Sm (Qs 1 rfl (Zf (v := .bool true) (Yh (a := 3) (b := 0) rfl rfl) (Za (Ct (Sn (Qs 3 rfl (Za (Zn (Zg rfl (Z2 results150 rfl rfl) ⟨_, rfl, none, 0, 0, [], 3, n2, rd2, rfl, Own.nil _ _ _ _, (hR.Zc hU20), (by omega), (fun h => absurd h (by decide)), (HU.Zb hU20)⟩)))))))))))
  refine ZI ?_
  replace HL1 := HL1.trans hU15
  refine ⟨_, ?_, (l - (stt (v2 - 1)).toNat), ac, k8, a8, c8, n2, rd2, (decide (v2 = 1)), rfl, rfl, ⟨rfl, rfl, rfl, rfl, (vbool (by rw [decide_eq_true_eq])), trivial⟩, (by omega), (by omega), hrg2, (by omega), (by omega), (fun h0 => by
    have hv1 : ¬ v2 = 1 := by
     intro hv
     have h00 : stt (v2 - 1) = 0 := by rw [hv]; rfl
     omega
    rw [hac hv1, last_app, List.length_append, List.length_singleton]
    exact ⟨by omega, by omega, by omega⟩), hO.weak, hR, HL1⟩
  omega
 refine ZI (Sn (Qs 3 rfl (Za (Zn (Zg rfl (Z2 results150 rfl rfl) ?_)))))
 have hl0 : l = 0 := by omega
 have hlq := hlp hl0
 exact ⟨_, rfl, a9, k9, c9, acc, 0, n1, rd1, rfl, hO.weak, hR, (by omega), (fun _ => ⟨hlq.1, hlq.2.1, hlq.2.2, hrg, by omega⟩), HU⟩
theorem wtget {a : Option Addr} {m c p : Nat} {b : List Int} {sy lm : Int} (w : World) (hs : Sl w (fun g => g < w.heap.size) 1 (.slice a m c) m (ints .u8 b)) (hb : Byt b) (hm : m ≤ 1000000) (hp : p ≤ m) :
  Calls Tryz.prog 130 #[.slice a m c, .int .i64 p, .int .i64 sy, .int .i64 lm] w (Ret fun v w' => ∃ (lg : Int) (a' : Option Addr) (m' : Nat) (c' : Nat) (N : List Int) (q : Int) (e : Int), v = .tuple #[.agg #[.int .i64 lg, .slice a' m' c'], .int .i64 q, .int .i64 e] ∧ Own w' (fun g => w.heap.size ≤ g) 3 1 (.slice a' m' c') m' (ints .i64 N) ∧ (e = 0 → MayP lg N sy lm) ∧ (p : Int) ≤ q ∧ q ≤ (m : Int) ∧ Upd No w w') := by
 have HU := Upd.Yo w
 have hl_hs := ZC hs
 have hc_hs := hs.cap.1
 refine Zq func130 rfl ntmps130 (by simp) (Sn (ZB zeroValue53 rfl ?_))
 intro B1 w1 hB1 hU1 hzz1 hb1
 refine Qs 2 rfl (Za (Sn (Qs 2 rfl (Zf (Ym (l' := p) (n' := m - p) underlying22 sizeOf5 rfl rfl (by omega) (by omega) (by omega)) ?_))))
 have hT2 := Sl.cutl (l := p) (n := m - p) (hs.Zc hU1) (by omega) (by omega)
 have hl_hT2 := ZC hT2
 have hc_hT2 := hT2.cap.1
 refine Zj (Zv rfl call148 rfl) (wforward _ hT2.any (ZL hb _) (by omega)) ?_
 rintro v w3 ⟨rr3, hi3, rfl, hR3, hU3⟩
 have:=hU3.size
 have hrl := hR3.lt
 have hrh := hR3.le
 refine Qs 1 rfl (Za (Sn (Qs 1 rfl ?_)))
 replace HU := (HU.Zb hU1).Zb hU3
 replace hb1 := hb1.Zc hU3
 by_cases q1 : 4 ≤ (8 * (m - p))
 ·refine Zj (Zy rfl call149 (v1 := .int .i64 ((4 : Nat) : Int)) rfl rfl) (wfirst_ok _ hR3 (by omega) (by omega) q1) ?_
  rintro v w4 ⟨z4, rfl, hR4, hv_4, hU4⟩
  have:=hU4.size
  have hz4 : z4 < 16 := hv_4
  refine Qs 5 rfl (Za (Sm (Qs 1 rfl (Zf (v := .bool false) (Yh (a := 0) (b := 0) rfl rfl) (Za (Cf (Zi (Sm (Qs 1 rfl (Zf (ZZ underlying101 underlying3 rfl ZY) (Xd rfl rfl (Qs 3 rfl ?_))))))))))))
  replace HU := HU.t1 hU4
  replace hb1 := hb1.Zh hU4
  by_cases q2 : lm < ((z4 : Int) + 1)
  ·rw [decide_eq_true q2]
   refine Gf (Gf (Zf (Zx (v := .bool true) rfl rfl) (Za (Ct (Sn (Zf (ZF (pl := #[(0, 1), (1, 1)]) (pv := []) (cs := #[.int .i64 0, .slice none 0 0]) zeroValue53 underlying53 (fun w => by kernel_rfl)) (Qs 1 rfl (Xa sizeOf53 rfl rfl rfl rfl hb1 rfl ?_))))))))
   intro w5 hU5 hzz5 hb1
   exact Qs 2 rfl (Za (Zn (Zg rfl (Yb results130 rfl rfl rfl (Zu isAgg53 sizeOf53 rfl hb1)) ⟨_, rfl, 0, none, 0, 0, [], _, _, rfl, Own.nil _ _ _ _, (fun h => absurd h (by decide)), (by omega), (by omega), (HU.t1 hU5)⟩)))
  rw [decide_eq_false q2]
  refine Gt (Qs 1 rfl (Gt (Qs 1 rfl (Zf (Zw (v := .bool (decide (8 < (z4 : Int)))) rfl rfl) (Za (W_if rfl (fun q3 => ?_) fun q3 => ?_))))))
  ·refine Sn (Zf (ZF (pl := #[(0, 1), (1, 1)]) (pv := []) (cs := #[.int .i64 0, .slice none 0 0]) zeroValue53 underlying53 (fun w => by kernel_rfl)) (Qs 1 rfl (Xa sizeOf53 rfl rfl rfl rfl hb1 rfl ?_)))
   intro w6 hU6 hzz6 hb1
   exact Qs 2 rfl (Za (Zn (Zg rfl (Yb results130 rfl rfl rfl (Zu isAgg53 sizeOf53 rfl hb1)) ⟨_, rfl, 0, none, 0, 0, [], _, _, rfl, Own.nil _ _ _ _, (fun h => absurd h (by decide)), (by omega), (by omega), (HU.t1 hU6)⟩)))
  refine Zi (Sn (Qs 2 rfl (Zf (ZZ underlying101 underlying3 rfl ZY) (Xd rfl rfl (Zj (Zv rfl call53 (v0 := .int .i64 ((z4 + 1 : Nat) : Int)) Zt) (wsize _ (by omega)) ?_)))))
  rintro v w7 ⟨rfl, hU7⟩
  have:=hU7.size
  have hp1 := p2le (j := z4 + 1) (k := 9) (by omega)
  have hp2 := Nat.one_le_two_pow (n := z4 + 1)
  refine Qs 1 rfl (Zf (r_min rfl rfl) (Zj (Z5 rfl call150 (v1 := .int .i64 ((2 ^ (z4 + 1) : Nat) : Int)) rfl rfl rfl) (wnorms _ (hR4.Zc hU7) (by omega) (by omega) (by omega)) ?_))
  rintro v w8 ⟨a8, m8, c8, N8, e8, n8, rd8, rfl, hO8, hR8, hn9_8, hN_8, hU8⟩
  have:=hU8.size
  replace hO8 := hO8.tight
  have hl_hO8 := ZC hO8.sl
  have hc_hO8 := hO8.sl.cap.1
  have hNo := hN_8
  refine Qs 5 rfl (Za (Sm (Qs 2 rfl (Za ?_))))
  replace HU := (HU.Zb hU7).t1 hU8
  replace hb1 := (hb1.Zc hU7).Zh hU8
  refine W_if rfl (fun q4 => ?_) fun q4 => ?_
  ·refine Sn (Zf (ZF (pl := #[(0, 1), (1, 1)]) (pv := []) (cs := #[.int .i64 0, .slice none 0 0]) zeroValue53 underlying53 (fun w => by kernel_rfl)) (Qs 2 rfl (Xa sizeOf53 rfl rfl rfl rfl hb1 rfl ?_)))
   intro w9 hU9 hzz9 hb1
   exact Qs 2 rfl (Za (Zn (Zg rfl (Yb results130 rfl rfl rfl (Zu isAgg53 sizeOf53 rfl hb1)) ⟨_, rfl, 0, none, 0, 0, [], _, _, rfl, Own.nil _ _ _ _, (fun h => absurd h q4), (by omega), (by omega), (HU.t1 hU9)⟩)))
  refine Zi (Sn (Qs 1 rfl (Zj (Zv rfl call151 rfl) (wwhole _ hR8 (by omega) (by omega)) ?_)))
  rintro v w10 ⟨k10, e10, rfl, hk_10, hk2_10, hU10⟩
  have:=hU10.size
  refine Qs 5 rfl (Za (Sm (Qs 2 rfl (Za ?_))))
  replace HU := HU.t1 hU10
  replace hb1 := hb1.Zh hU10
  refine W_if rfl (fun q5 => ?_) fun q5 => ?_
  ·refine Sn (Zf (ZF (pl := #[(0, 1), (1, 1)]) (pv := []) (cs := #[.int .i64 0, .slice none 0 0]) zeroValue53 underlying53 (fun w => by kernel_rfl)) (Qs 2 rfl (Xa sizeOf53 rfl rfl rfl rfl hb1 rfl ?_)))
   intro w11 hU11 hzz11 hb1
   exact Qs 2 rfl (Za (Zn (Zg rfl (Yb results130 rfl rfl rfl (Zu isAgg53 sizeOf53 rfl hb1)) ⟨_, rfl, 0, none, 0, 0, [], _, _, rfl, Own.nil _ _ _ _, (fun h => absurd h q5), (by omega), (by omega), (HU.t1 hU11)⟩)))
  refine Zi (Sn (Qs 1 rfl (Zf (ZZ underlying101 underlying3 rfl ZY) (Xd rfl rfl (Qs 1 rfl (Zf (ZF (pl := #[(0, 1), (1, 1)]) (pv := [(0, .int .i64 ((z4 : Int) + 1)), (1, .slice a8 m8 c8)]) (cs := #[.int .i64 ((z4 : Int) + 1), .slice a8 m8 c8]) zeroValue53 underlying53 (fun w => by kernel_rfl)) (Qs 2 rfl (Xd rfl rfl (Xa sizeOf53 rfl rfl rfl rfl hb1 rfl ?_)))))))))
  intro w12 hU12 hzz12 hb1
  refine Qs 2 rfl (Za (Zn (Zg (v := .tuple #[.agg #[.int .i64 ((z4 : Int) + 1), .slice a8 m8 c8], .int .i64 ((p : Int) + k10), .int .i64 0]) rfl (Yb results130 rfl rfl rfl (Zu isAgg53 sizeOf53 rfl hb1)) ?_)))
  exact ⟨_, rfl, (z4 : Int) + 1, a8, m8, c8, N8, ((p : Int) + k10), 0, rfl, (((hO8.Zh hU10).Zh hU12).weak), (fun _ => NoP.may (by rw [show ((z4 : Int) + 1 : Int).toNat = z4 + 1 from by omega]; exact hNo (Classical.not_not.1 q4)) (by omega) (by omega) (by omega)), (by omega), (by omega), (HU.t1 hU12)⟩
 refine Zj (Zy rfl call149 (v1 := .int .i64 ((4 : Nat) : Int)) rfl rfl) (wfirst_no _ hR3 (by omega) q1) ?_
 rintro v w13 ⟨rfl, hR13, hU13⟩
 have:=hU13.size
 refine Qs 5 rfl (Za (Sm (Qs 1 rfl (Zf (v := .bool true) (Yh (a := 3) (b := 0) rfl rfl) (Za (Ct (Sn (Zf (ZF (pl := #[(0, 1), (1, 1)]) (pv := []) (cs := #[.int .i64 0, .slice none 0 0]) zeroValue53 underlying53 (fun w => by kernel_rfl)) (Qs 2 rfl ?_)))))))))
 replace hb1 := hb1.Zc hU13
 refine Xa sizeOf53 rfl rfl rfl rfl hb1 rfl ?_
 intro w14 hU14 hzz14 hb1
 exact Qs 2 rfl (Za (Zn (Zg rfl (Yb results130 rfl rfl rfl (Zu isAgg53 sizeOf53 rfl hb1)) ⟨_, rfl, 0, none, 0, 0, [], _, _, rfl, Own.nil _ _ _ _, (fun h => absurd h (by decide)), (by omega), (by omega), ((HU.Zb hU13).t1 hU14)⟩)))
theorem wtwo {k : Nat} (w : World) (hk : k ≤ 30) :
  Calls Tryz.prog 167 #[.int .i64 k] w (Ret fun v w' => v = .int .i64 ((2 ^ k : Nat) : Int) ∧ Upd No w w') := by
 have HU := Upd.Yo w
 refine Zq func167 rfl ntmps167 (by simp) (Sn (Qs 1 rfl (Za (Sn (Qs 1 rfl (Za (Sm (Qs 1 rfl (Za (Zs (ZS (fun mu ρ ds w' => ∃ (i : Nat), k - i = mu ∧ ds = [] ∧ Liv ρ [(0, .int .i64 k), (3, .int .i64 ((2 ^ i : Nat) : Int)), (4, .int .i64 i)] ∧ i ≤ k ∧ Upd No w w') _ ⟨0, rfl, rfl, ⟨rfl, rfl, (by first | rfl | exact Zt (by omega) | exact Zt (by simp)), trivial⟩, (by omega), Upd.refl _ _⟩ ?_)))))))))))
 rintro m1 ρ1 ds1 w1 ⟨i, rfl, rfl, hl1, hi, hU1⟩
 obtain ⟨ρ1x, rfl⟩ : ∃ ρx, ρ1 = upds ρx [(0, .int .i64 k), (3, .int .i64 ((2 ^ i : Nat) : Int)), (4, .int .i64 i)] := ⟨_, ZD hl1⟩
 clear hl1
 have:=hU1.size
 have hp9 := p2s i
 have hpk : 2 ^ i ≤ 2 ^ 30 := p2le (by omega)
 have HL1 := hU1
 refine Sm (Qs 3 rfl (Za (W_if rfl (fun q1 => ?_) fun q1 => ?_)))
 ·refine Zi (Zz (Zs (Zl (Qs 1 rfl (Zf (YM rfl rfl ZY) (Qs 1 rfl (Za (Zl (Qs 1 rfl (Xd rfl rfl (Qs 1 rfl (Za ?_))))))))))))
  refine ⟨_, ?_, (i + 1), rfl, rfl, ⟨rfl, Zt, Zt, trivial⟩, (by omega), HL1⟩
  omega
 refine ZI (Sn (Qs 2 rfl (Za (Zn (Zg (v := .int .i64 ((2 ^ i : Nat) : Int)) rfl (Z9 results167 rfl) ?_)))))
 exact ⟨_, rfl, (Zt (by rw [show i = k from by omega])), (HU.Zb hU1)⟩
theorem wkb {x : Nat} {o : Bool} (w : World) (hc : x < 44) (ho : o = true → x ≤ 27) :
  Calls Tryz.prog 163 #[.int .i64 x, .bool (decide (o = true))] w (Ret fun v w' => v = .int .i64 ((kb o x : Nat) : Int) ∧ Upd No w w') := by
 have HU := Upd.Yo w
 refine Zq func163 rfl ntmps163 (by simp) (Sn (Qs 1 rfl (Za (Sm (Qs 3 rfl ?_)))))
 have q1 : ¬ ((x : Int) < 0) := (by omega)
 rw [decide_eq_false q1]
 refine Gt (Qs 1 rfl (Gt (Qs 1 rfl (Zf (Zw (v := .bool (decide (43 < (x : Int)))) rfl rfl) (Qs 1 rfl ?_)))))
 have q2 : ¬ (43 < (x : Int)) := (by omega)
 rw [decide_eq_false q2]
 refine Gt (Qs 1 rfl (Gt (Qs 1 rfl ?_)))
 by_cases q3 : o = true
 ·rw [decide_eq_true q3]
  refine Gt (Qs 1 rfl (Gt (Qs 1 rfl (Gt (Zf (Zx (v := .bool (decide (27 < (x : Int)))) rfl rfl) (Zf (Zw (v := .bool (decide (27 < (x : Int)))) rfl rfl) (Za ?_)))))))
  have q4 : ¬ (27 < (x : Int)) := (by have h9 := ho q3; omega)
  rw [decide_eq_false q4]
  exact Cf (Zi (Sm (Qs 1 rfl (Za (Ct (Sn (Qs 2 rfl (Za (Zn (Zg rfl (Z9 results163 rfl) ⟨_, rfl, (Zt (by unfold kb; rw [if_pos q3])), HU⟩))))))))))
 rw [decide_eq_false q3]
 refine Gf (Gf (Gt (Zf (Zw (v := .bool false) rfl rfl) (Zf (Zw (v := .bool false) rfl rfl) (Za (Cf (Zi (Sm (Qs 1 rfl (Za (Cf (Zi (Sn (Qs 1 rfl (Za (Sm (Qs 1 rfl (Za (Zs (ZS (fun mu ρ ds w' => ∃ (j : Nat) (z : Nat), 40 - j = mu ∧ ds = [] ∧ Liv ρ [(0, .int .i64 x), (5, .int .i64 z), (6, .int .i64 ((16 + 2 * j : Nat) : Int))] ∧ (z = if j = 0 then 0 else 2 + j) ∧ (j = 0 ∨ 14 + 2 * j ≤ x) ∧ Upd No w w') _ ⟨0, 0, rfl, rfl, ⟨rfl, rfl, rfl, trivial⟩, rfl, (.inl rfl), Upd.refl _ _⟩ ?_))))))))))))))))))))
 rintro m1 ρ1 ds1 w1 ⟨j, z, rfl, rfl, hl1, hz, hj, hU1⟩
 obtain ⟨ρ1x, rfl⟩ : ∃ ρx, ρ1 = upds ρx [(0, .int .i64 x), (5, .int .i64 z), (6, .int .i64 ((16 + 2 * j : Nat) : Int))] := ⟨_, ZD hl1⟩
 clear hl1
 have:=hU1.size
 have HL1 := hU1
 refine Sm (Qs 3 rfl (Za (W_if rfl (fun q5 => ?_) fun q5 => ?_)))
 ·refine Zi (Zz (Zs (Zl (Qs 1 rfl (Xs rfl rfl (Zf (YT rfl rfl (by omega) (tq (by omega) ZY)) (Xd rfl rfl (Qs 1 rfl (Za (Zl (Qs 1 rfl (Xd rfl rfl (Qs 1 rfl (Za ?_))))))))))))))
  refine ⟨_, ?_, (j + 1), (3 + j), rfl, rfl, ⟨rfl, Zt, Zt, trivial⟩, (by rw [if_neg (by omega)]; omega), (by omega), HL1⟩
  omega
 refine ZI (Sn (Qs 2 rfl (Za (Zn (Zg rfl (Z9 results163 rfl) ?_)))))
 replace HU := HU.Zb hU1
 exact ⟨_, rfl, (Zt (by unfold kb; rw [if_neg q3]; split at hz <;> split <;> omega)), HU⟩
theorem wkval_t {x z : Nat} (w : World) (hc : x < 44) (ho : true = true → x ≤ 27) (hz : z < 2 ^ kb true x) :
  Calls Tryz.prog 164 #[.int .i64 x, .int .u64 z, .bool true] w (Ret fun v w' => ∃ (y : Nat), v = .tuple #[.int .i64 y, .int .i64 0] ∧ y ≤ 10000000000 ∧ 1 ≤ y ∧ Upd No w w') := by
 have HU := Upd.Yo w
 refine Zq func164 rfl ntmps164 (by simp) (Sn (Qs 2 rfl (Za (Sn (Qs 2 rfl (Zj (Zy rfl call163 rfl rfl) (wkb (o := true) _ (by omega) (fun h => by have := ho rfl; omega)) ?_))))))
 rintro v w1 ⟨rfl, hU1⟩
 have:=hU1.size
 have hkb_x := kb_le (o := true) (c := x) (by omega) (fun h => by have := ho rfl; omega)
 have hpb_x := p2le hkb_x
 have hpc_x := Nat.one_le_two_pow (n := kb true x)
 refine Qs 1 rfl (Za (Sm (Qs 3 rfl ?_)))
 have q1 : ¬ (((kb true x : Nat) : Int) < 0) := (by omega)
 rw [decide_eq_false q1]
 refine Gt (Qs 1 rfl (Gt (Qs 1 rfl (Gt (Zj (Zv rfl call167 rfl) (wtwo _ (by omega)) ?_)))))
 rintro v w2 ⟨rfl, hU2⟩
 have:=hU2.size
 refine Gt (Zf (ZZ underlying3 underlying101 rfl (wu64 (by omega) (by omega))) (Gt (Qs 1 rfl (Zf (Zw (v := .bool (decide (((2 ^ (kb true x) : Nat) : Int) ≤ (z : Int)))) rfl rfl) (Za ?_)))))
 have q2 : ¬ (((2 ^ (kb true x) : Nat) : Int) ≤ (z : Int)) := (by omega)
 rw [decide_eq_false q2]
 refine Cf (Zi (Sn (Qs 1 rfl (Za (Sm (Qs 1 rfl (Za (Ct (Zl (Qs 1 rfl (Za (Sm (Qs 1 rfl (Za (Zs (ZS (fun mu ρ ds w' => ∃ (j : Nat) (y : Nat), x - j = mu ∧ ds = [] ∧ Liv ρ [(0, .int .i64 x), (1, .int .u64 z), (2, .bool true), (9, .int .i64 y), (10, .int .i64 j)] ∧ j ≤ x ∧ y ≤ 1 + j * 134217728 ∧ 1 ≤ y ∧ Upd No w2 w') _ ⟨0, 1, rfl, rfl, ⟨rfl, rfl, rfl, (by first | rfl | exact Zt (by omega) | exact Zt (by simp)), (by first | rfl | exact Zt (by omega) | exact Zt (by simp)), trivial⟩, (by omega), (by omega), (by omega), Upd.refl _ _⟩ ?_))))))))))))))))
 rintro m3 ρ3 ds3 w3 ⟨j, y, rfl, rfl, hl3, hj, hy, hyo, hU3⟩
 obtain ⟨ρ3x, rfl⟩ : ∃ ρx, ρ3 = upds ρx [(0, .int .i64 x), (1, .int .u64 z), (2, .bool true), (9, .int .i64 y), (10, .int .i64 j)] := ⟨_, ZD hl3⟩
 replace HU := (HU.Zb hU1).Zb hU2
 clear hl3
 have:=hU3.size
 have HL3 := hU3
 refine Sm (Qs 3 rfl (Za (W_if rfl (fun q3 => ?_) fun q3 => ?_)))
 ·refine Zi (Zz (Zs (Zl (Qs 3 rfl (Zj (Zy rfl call163 rfl rfl) (wkb (o := true) _ (by omega) (fun h => by have := ho rfl; omega)) ?_)))))
  rintro v w4 ⟨rfl, hU4⟩
  have:=hU4.size
  have hkb_j := kb_le (o := true) (c := j) (by omega) (fun h => by have := ho rfl; omega)
  have hpb_j := p2le hkb_j
  have hpc_j := Nat.one_le_two_pow (n := kb true j)
  refine Zj (Zv rfl call167 rfl) (wtwo _ (by omega)) ?_
  rintro v w5 ⟨rfl, hU5⟩
  have:=hU5.size
  refine Xd rfl rfl (Qs 1 rfl (Za (Zl (Qs 1 rfl (Xd rfl rfl (Qs 1 rfl (Za ?_)))))))
  refine ⟨_, ?_, (j + 1), (y + 2 ^ kb true j), rfl, rfl, ⟨rfl, rfl, rfl, Zt, Zt, trivial⟩, (by omega), (by omega), (by omega), ((HL3.Zb hU4).Zb hU5)⟩
  omega
 exact ZI (Sn (Qs 2 rfl (Zf (ZZ underlying101 underlying3 rfl ZY) (Xd rfl rfl (Qs 2 rfl (Za (Zn (Zg rfl (Z2 results164 rfl rfl) ⟨_, rfl, y + z, Yx Zt rfl, (by omega), (by omega), (HU.Zb hU3)⟩))))))))
theorem wkval_f {x z : Nat} (w : World) (hc : x < 44) (hz : z < 2 ^ kb false x) :
  Calls Tryz.prog 164 #[.int .i64 x, .int .u64 z, .bool false] w (Ret fun v w' => ∃ (y : Nat), v = .tuple #[.int .i64 y, .int .i64 0] ∧ y ≤ 10000000000 ∧ 0 ≤ y ∧ Upd No w w') := by
 have HU := Upd.Yo w
 refine Zq func164 rfl ntmps164 (by simp) (Sn (Qs 2 rfl (Za (Sn (Qs 2 rfl (Zj (Zy rfl call163 rfl rfl) (wkb (o := false) _ (by omega) (fun h => by cases h)) ?_))))))
 rintro v w1 ⟨rfl, hU1⟩
 have:=hU1.size
 have hkb_x := kb_le (o := false) (c := x) (by omega) (fun h => by cases h)
 have hpb_x := p2le hkb_x
 have hpc_x := Nat.one_le_two_pow (n := kb false x)
 refine Qs 1 rfl (Za (Sm (Qs 3 rfl ?_)))
 have q1 : ¬ (((kb false x : Nat) : Int) < 0) := (by omega)
 rw [decide_eq_false q1]
 refine Gt (Qs 1 rfl (Gt (Qs 1 rfl (Gt (Zj (Zv rfl call167 rfl) (wtwo _ (by omega)) ?_)))))
 rintro v w2 ⟨rfl, hU2⟩
 have:=hU2.size
 refine Gt (Zf (ZZ underlying3 underlying101 rfl (wu64 (by omega) (by omega))) (Gt (Qs 1 rfl (Zf (Zw (v := .bool (decide (((2 ^ (kb false x) : Nat) : Int) ≤ (z : Int)))) rfl rfl) (Za ?_)))))
 have q2 : ¬ (((2 ^ (kb false x) : Nat) : Int) ≤ (z : Int)) := (by omega)
 rw [decide_eq_false q2]
 refine Cf (Zi (Sn (Qs 1 rfl (Za (Sm (Qs 1 rfl (Za (Cf (Zi (Sm (Qs 1 rfl (Za (Zs (ZS (fun mu ρ ds w' => ∃ (j : Nat) (y : Nat), x - j = mu ∧ ds = [] ∧ Liv ρ [(0, .int .i64 x), (1, .int .u64 z), (2, .bool false), (9, .int .i64 y), (10, .int .i64 j)] ∧ j ≤ x ∧ y ≤ 1 + j * 134217728 ∧ 0 ≤ y ∧ Upd No w2 w') _ ⟨0, 0, rfl, rfl, ⟨rfl, rfl, rfl, (by first | rfl | exact Zt (by omega) | exact Zt (by simp)), (by first | rfl | exact Zt (by omega) | exact Zt (by simp)), trivial⟩, (by omega), (by omega), (by omega), Upd.refl _ _⟩ ?_))))))))))))))
 rintro m3 ρ3 ds3 w3 ⟨j, y, rfl, rfl, hl3, hj, hy, hyo, hU3⟩
 obtain ⟨ρ3x, rfl⟩ : ∃ ρx, ρ3 = upds ρx [(0, .int .i64 x), (1, .int .u64 z), (2, .bool false), (9, .int .i64 y), (10, .int .i64 j)] := ⟨_, ZD hl3⟩
 replace HU := (HU.Zb hU1).Zb hU2
 clear hl3
 have:=hU3.size
 have HL3 := hU3
 refine Sm (Qs 3 rfl (Za (W_if rfl (fun q3 => ?_) fun q3 => ?_)))
 ·refine Zi (Zz (Zs (Zl (Qs 3 rfl (Zj (Zy rfl call163 rfl rfl) (wkb (o := false) _ (by omega) (fun h => by cases h)) ?_)))))
  rintro v w4 ⟨rfl, hU4⟩
  have:=hU4.size
  have hkb_j := kb_le (o := false) (c := j) (by omega) (fun h => by cases h)
  have hpb_j := p2le hkb_j
  have hpc_j := Nat.one_le_two_pow (n := kb false j)
  refine Zj (Zv rfl call167 rfl) (wtwo _ (by omega)) ?_
  rintro v w5 ⟨rfl, hU5⟩
  have:=hU5.size
  refine Xd rfl rfl (Qs 1 rfl (Za (Zl (Qs 1 rfl (Xd rfl rfl (Qs 1 rfl (Za ?_)))))))
  refine ⟨_, ?_, (j + 1), (y + 2 ^ kb false j), rfl, rfl, ⟨rfl, rfl, rfl, Zt, Zt, trivial⟩, (by omega), (by omega), (by omega), ((HL3.Zb hU4).Zb hU5)⟩
  omega
 exact ZI (Sn (Qs 2 rfl (Zf (ZZ underlying101 underlying3 rfl ZY) (Xd rfl rfl (Qs 2 rfl (Za (Zn (Zg rfl (Z2 results164 rfl rfl) ⟨_, rfl, y + z, Yx Zt rfl, (by omega), (by omega), (HU.Zb hU3)⟩))))))))
theorem wsy3 {p : Nat} (w : World) (hp : p < 3) :
  Calls Tryz.prog 127 #[.int .i64 p] w (Ret fun v w' => v = .int .i64 (sy3 p) ∧ Upd No w w') := by
 have HU := Upd.Yo w
 refine Zq func127 rfl ntmps127 (by simp) (Sn (Qs 1 rfl (Za (Sm (Qs 1 rfl (Za (Zs (Sm (Qs 2 rfl (Za ?_))))))))))
 by_cases q1 : (p : Int) = 0
 ·rw [decide_eq_true q1]
  exact Ct (Zi (Ct (Sn (Qs 1 rfl (Za (Zn (Zg rfl (Z9 results127 rfl) ⟨_, rfl, (Zt (by unfold sy3; split <;> omega)), HU⟩)))))))
 rw [decide_eq_false q1]
 refine Cf (Zl (Qs 2 rfl (Za (W_if rfl (fun q2 => ?_) fun q2 => ?_))))
 ·exact Sn (Qs 1 rfl (Za (Zn (Zg rfl (Z9 results127 rfl) ⟨_, rfl, (Zt (by unfold sy3; split <;> omega)), HU⟩))))
 refine Sn (Qs 2 rfl (Za (W_if rfl (fun q3 => ?_) fun q3 => ?_)))
 ·exact Sn (Qs 1 rfl (Za (Zn (Zg rfl (Z9 results127 rfl) ⟨_, rfl, (Zt (by unfold sy3; split <;> omega)), HU⟩))))
 exact Zi (Sn (Qs 1 rfl (Za (Zn (Zg rfl (Z9 results127 rfl) ⟨_, rfl, (Zt (by unfold sy3; split <;> omega)), HU⟩)))))
theorem wlm3 {p : Nat} (w : World) (hp : p < 3) :
  Calls Tryz.prog 131 #[.int .i64 p] w (Ret fun v w' => v = .int .i64 (lm3 p) ∧ Upd No w w') := by
 have HU := Upd.Yo w
 refine Zq func131 rfl ntmps131 (by simp) (Sn (Qs 1 rfl (Za (Sm (Qs 1 rfl (Za (Zs (Sm (Qs 2 rfl (Za ?_))))))))))
 by_cases q1 : (p : Int) = 0
 ·rw [decide_eq_true q1]
  exact Ct (Zi (Ct (Sn (Qs 1 rfl (Za (Zn (Zg rfl (Z9 results131 rfl) ⟨_, rfl, (Zt (by unfold lm3; split <;> omega)), HU⟩)))))))
 rw [decide_eq_false q1]
 refine Cf (Zl (Qs 2 rfl (Za (W_if rfl (fun q2 => ?_) fun q2 => ?_))))
 ·exact Sn (Qs 1 rfl (Za (Zn (Zg rfl (Z9 results131 rfl) ⟨_, rfl, (Zt (by unfold lm3; split <;> omega)), HU⟩))))
 refine Sn (Qs 2 rfl (Za (W_if rfl (fun q3 => ?_) fun q3 => ?_)))
 ·exact Sn (Qs 1 rfl (Za (Zn (Zg rfl (Z9 results131 rfl) ⟨_, rfl, (Zt (by unfold lm3; split <;> omega)), HU⟩))))
 exact Zi (Sn (Qs 1 rfl (Za (Zn (Zg rfl (Z9 results131 rfl) ⟨_, rfl, (Zt (by unfold lm3; split <;> omega)), HU⟩)))))
theorem w23of {p : Nat} (w : World) (hp : p < 3) :
  Calls Tryz.prog 128 #[.int .i64 p] w (Ret fun v w' => ∃ (lg : Int) (a' : Option Addr) (m' : Nat) (c' : Nat) (N : List Int), v = .agg #[.int .i64 lg, .slice a' m' c'] ∧ Own w' (fun g => w.heap.size ≤ g) 3 1 (.slice a' m' c') m' (ints .i64 N) ∧ MayP lg N (sy3 p) (lm3 p) ∧ Upd No w w') := by
 have HU := Upd.Yo w
 refine Zq func128 rfl ntmps128 (by simp) (Sn (ZB zeroValue53 rfl ?_))
 intro B1 w1 hB1 hU1 hzz1 hb1
 refine Za (Sm (Qs 1 rfl (Za (Zs (Sn (Qs 2 rfl (Za ?_)))))))
 replace HU := HU.Zb hU1
 refine W_if rfl (fun q1 => ?_) fun q1 => ?_
 ·refine Sn ?_
  refine Xz [.int .i64 5, .int .i64 3, .int .i64 3, .int .i64 3, .int .i64 2, .int .i64 2, .int .i64 2, .int .i64 2, .int .i64 2, .int .i64 2, .int .i64 1, .int .i64 1, .int .i64 1, .int .i64 1, .int .i64 1, .int .i64 1, .int .i64 2, .int .i64 2, .int .i64 2, .int .i64 2, .int .i64 1, .int .i64 1, .int .i64 1, .int .i64 1, .int .i64 1, .int .i64 1, .int .i64 1, .int .i64 1, .int .i64 1, .int .i64 1, .int .i64 1, .int .i64 1, .int .i64 1, .int .i64 1, .int .i64 1, .int .i64 1, .int .i64 1, .int .i64 1, .int .i64 (-1), .int .i64 (-1), .int .i64 (-1), .int .i64 (-1), .int .i64 (-1), .int .i64 (-1)] underlying51 sizeOf3 zeroValue3 ?_
  intro B2 w2 hB2 hU2 hzz2 hs2
  replace hs2 : Own w2 (Is B2) 3 1 (.slice (some ⟨B2, 0, none⟩) 44 44) 44 (ints .i64 [5, 3, 3, 3, 2, 2, 2, 2, 2, 2, 1, 1, 1, 1, 1, 1, 2, 2, 2, 2, 1, 1, 1, 1, 1, 1, 1, 1, 1, 1, 1, 1, 1, 1, 1, 1, 1, 1, -1, -1, -1, -1, -1, -1]) := hs2
  replace hs2 : Own w2 (Is B2) 3 1 (.slice (some ⟨B2, 0, none⟩) 44 44) 44 (ints .i64 [5, 3, 3, 3, 2, 2, 2, 2, 2, 2, 1, 1, 1, 1, 1, 1, 2, 2, 2, 2, 1, 1, 1, 1, 1, 1, 1, 1, 1, 1, 1, 1, 1, 1, 1, 1, 1, 1, -1, -1, -1, -1, -1, -1]) := hs2
  refine Zf (ZF (pl := #[(0, 1), (1, 1)]) (pv := [(0, .int .i64 6), (1, .slice (some ⟨B2, 0, none⟩) 44 44)]) (cs := #[.int .i64 6, .slice (some ⟨B2, 0, none⟩) 44 44]) zeroValue53 underlying53 (fun w => by kernel_rfl)) ?_
  replace hb1 := hb1.Zc hU2
  refine Xa sizeOf53 rfl rfl rfl rfl hb1 rfl ?_
  intro w3 hU3 hzz3 hb1
  refine Za (Zn (Zg rfl (rc1 results128 rfl (Zu isAgg53 sizeOf53 rfl hb1)) ?_))
  replace HU := (HU.Zb hU2).t1 hU3
  replace hs2 := hs2.Zh hU3
  obtain rfl : p = 0 := by omega
  exact ⟨_, rfl, 6, (some ⟨B2, 0, none⟩), 44, 44, _, rfl, hs2.weak, ⟨by decide, by decide, by decide, by decide, by decide, by decide, by decide +kernel, by decide +kernel⟩, HU⟩
 refine Sn (Qs 2 rfl (Za (W_if rfl (fun q2 => ?_) fun q2 => ?_)))
 ·refine Sn (Xz [.int .i64 1, .int .i64 1, .int .i64 1, .int .i64 1, .int .i64 1, .int .i64 2, .int .i64 2, .int .i64 2, .int .i64 2, .int .i64 1, .int .i64 1, .int .i64 1, .int .i64 1, .int .i64 1, .int .i64 1, .int .i64 1, .int .i64 1, .int .i64 1, .int .i64 1, .int .i64 1, .int .i64 1, .int .i64 1, .int .i64 (-1), .int .i64 (-1), .int .i64 (-1), .int .i64 (-1), .int .i64 (-1), .int .i64 (-1)] underlying51 sizeOf3 zeroValue3 ?_)
  intro B4 w4 hB4 hU4 hzz4 hs4
  replace hs4 : Own w4 (Is B4) 3 1 (.slice (some ⟨B4, 0, none⟩) 28 28) 28 (ints .i64 [1, 1, 1, 1, 1, 2, 2, 2, 2, 1, 1, 1, 1, 1, 1, 1, 1, 1, 1, 1, 1, 1, -1, -1, -1, -1, -1, -1]) := hs4
  replace hs4 : Own w4 (Is B4) 3 1 (.slice (some ⟨B4, 0, none⟩) 28 28) 28 (ints .i64 [1, 1, 1, 1, 1, 2, 2, 2, 2, 1, 1, 1, 1, 1, 1, 1, 1, 1, 1, 1, 1, 1, -1, -1, -1, -1, -1, -1]) := hs4
  refine Zf (ZF (pl := #[(0, 1), (1, 1)]) (pv := [(0, .int .i64 5), (1, .slice (some ⟨B4, 0, none⟩) 28 28)]) (cs := #[.int .i64 5, .slice (some ⟨B4, 0, none⟩) 28 28]) zeroValue53 underlying53 (fun w => by kernel_rfl)) ?_
  replace hb1 := hb1.Zc hU4
  refine Xa sizeOf53 rfl rfl rfl rfl hb1 rfl ?_
  intro w5 hU5 hzz5 hb1
  refine Za (Zn (Zg rfl (rc1 results128 rfl (Zu isAgg53 sizeOf53 rfl hb1)) ?_))
  replace HU := (HU.Zb hU4).t1 hU5
  replace hs4 := hs4.Zh hU5
  obtain rfl : p = 1 := by omega
  exact ⟨_, rfl, 5, (some ⟨B4, 0, none⟩), 28, 28, _, rfl, hs4.weak, ⟨by decide, by decide, by decide, by decide, by decide, by decide, by decide +kernel, by decide +kernel⟩, HU⟩
 refine Sn (Qs 2 rfl (Za ?_))
 have q3 : (p : Int) = 2 := (by omega)
 rw [decide_eq_true q3]
 refine Ct (Sn ?_)
 refine Xz [.int .i64 5, .int .i64 5, .int .i64 4, .int .i64 3, .int .i64 3, .int .i64 2, .int .i64 2, .int .i64 2, .int .i64 1, .int .i64 1, .int .i64 1, .int .i64 1, .int .i64 1, .int .i64 1, .int .i64 1, .int .i64 1, .int .i64 2, .int .i64 2, .int .i64 1, .int .i64 1, .int .i64 1, .int .i64 1, .int .i64 1, .int .i64 1, .int .i64 1, .int .i64 1, .int .i64 1, .int .i64 1, .int .i64 1, .int .i64 1, .int .i64 1, .int .i64 1, .int .i64 1, .int .i64 1, .int .i64 1, .int .i64 1, .int .i64 1, .int .i64 1, .int .i64 (-1), .int .i64 (-1), .int .i64 (-1), .int .i64 (-1), .int .i64 (-1), .int .i64 (-1)] underlying51 sizeOf3 zeroValue3 ?_
 intro B6 w6 hB6 hU6 hzz6 hs6
 replace hs6 : Own w6 (Is B6) 3 1 (.slice (some ⟨B6, 0, none⟩) 44 44) 44 (ints .i64 [5, 5, 4, 3, 3, 2, 2, 2, 1, 1, 1, 1, 1, 1, 1, 1, 2, 2, 1, 1, 1, 1, 1, 1, 1, 1, 1, 1, 1, 1, 1, 1, 1, 1, 1, 1, 1, 1, -1, -1, -1, -1, -1, -1]) := hs6
 replace hs6 : Own w6 (Is B6) 3 1 (.slice (some ⟨B6, 0, none⟩) 44 44) 44 (ints .i64 [5, 5, 4, 3, 3, 2, 2, 2, 1, 1, 1, 1, 1, 1, 1, 1, 2, 2, 1, 1, 1, 1, 1, 1, 1, 1, 1, 1, 1, 1, 1, 1, 1, 1, 1, 1, 1, 1, -1, -1, -1, -1, -1, -1]) := hs6
 refine Zf (ZF (pl := #[(0, 1), (1, 1)]) (pv := [(0, .int .i64 6), (1, .slice (some ⟨B6, 0, none⟩) 44 44)]) (cs := #[.int .i64 6, .slice (some ⟨B6, 0, none⟩) 44 44]) zeroValue53 underlying53 (fun w => by kernel_rfl)) ?_
 replace hb1 := hb1.Zc hU6
 refine Xa sizeOf53 rfl rfl rfl rfl hb1 rfl ?_
 intro w7 hU7 hzz7 hb1
 refine Za (Zn (Zg rfl (rc1 results128 rfl (Zu isAgg53 sizeOf53 rfl hb1)) ?_))
 replace HU := (HU.Zb hU6).t1 hU7
 replace hs6 := hs6.Zh hU7
 obtain rfl : p = 2 := by omega
 exact ⟨_, rfl, 6, (some ⟨B6, 0, none⟩), 44, 44, _, rfl, hs6.weak, ⟨by decide, by decide, by decide, by decide, by decide, by decide, by decide +kernel, by decide +kernel⟩, HU⟩
theorem wone {s : Nat} (w : World) (hs : s ≤ 300) :
  Calls Tryz.prog 129 #[.int .i64 s] w (Ret fun v w' => ∃ (a' : Option Addr) (c' : Nat), v = .agg #[.int .i64 0, .slice a' (s + 1) c'] ∧ Own w' (fun g => w.heap.size ≤ g) 3 1 (.slice a' (s + 1) c') (s + 1) (ints .i64 (List.replicate s 0 ++ [1])) ∧ Upd No w w') := by
 have HU := Upd.Yo w
 refine Zq func129 rfl ntmps129 (by simp) (Sn (ZB zeroValue53 rfl ?_))
 intro B1 w1 hB1 hU1 hzz1 hb1
 refine Za (Sn (Zf (ZF (pl := #[(0, 1), (1, 1)]) (pv := []) (cs := #[.int .i64 0, .slice none 0 0]) zeroValue53 underlying53 (fun w => by kernel_rfl)) (ZB zeroValue53 rfl ?_)))
 intro B2 w2 hB2 hU2 hzz2 hb2
 refine Xa sizeOf53 rfl rfl rfl rfl hb2 rfl ?_
 intro w3 hU3 hzz3 hb2
 refine Za (Sm (Qs 1 rfl (Za (Zs (ZS (fun mu ρ ds w' => ∃ (i : Nat) (acc : List Int) (a9 : Option Addr) (c9 : Nat), s + 1 - i = mu ∧ ds = [] ∧ Liv ρ [(0, .int .i64 s), (2, .pointer (some ⟨B1, 0, none⟩)), (3, .pointer (some ⟨B2, 0, none⟩)), (4, .int .i64 i)] ∧ i ≤ s + 1 ∧ (i ≤ s → acc = List.replicate i 0) ∧ (i = s + 1 → acc = List.replicate s 0 ++ [1]) ∧ Blk w' B2 [.int .i64 0, .slice a9 i c9] ∧ Own w' (fun g => w3.heap.size ≤ g) 3 1 (.slice a9 i c9) i (ints .i64 acc) ∧ Upd (fun g => g = B2 ∨ w3.heap.size ≤ g) w3 w') _ ⟨0, [], none, 0, rfl, rfl, ⟨rfl, rfl, rfl, (by first | rfl | exact Zt (by omega) | exact Zt (by simp)), trivial⟩, (by omega), (fun _ => rfl), (fun h => absurd h (by omega)), hb2, (by exact Own.nil _ _ _ _), Upd.refl _ _⟩ ?_)))))
 rintro m4 ρ4 ds4 w4 ⟨i, acc, a9, c9, rfl, rfl, hl4, hi, hac, hae, hb2, hO, hU4⟩
 obtain ⟨ρ4x, rfl⟩ : ∃ ρx, ρ4 = upds ρx [(0, .int .i64 s), (2, .pointer (some ⟨B1, 0, none⟩)), (3, .pointer (some ⟨B2, 0, none⟩)), (4, .int .i64 i)] := ⟨_, ZD hl4⟩
 replace HU := ((HU.Zb hU1).Zb hU2).t1 hU3
 replace hb1 := (hb1.Zc hU2).Zh hU3
 clear hl4
 have:=hU4.size
 replace hO := hO.tight
 have hl_hO := ZC hO.sl
 have hc_hO := hO.sl.cap.1
 have HL4 := hU4
 refine Sm (Qs 3 rfl (Za (W_if rfl (fun q1 => ?_) fun q1 => ?_)))
 ·refine Zi (Zz (Zs (Sn (Qs 1 rfl (Za (Sm (Qs 3 rfl (Za (W_if rfl (fun q2 => ?_) fun q2 => ?_)))))))))
  ·refine Zl (Qs 1 rfl (Za (Zl (Zf (Zo underlying53 rfl sizeOf51 rfl rfl) (Zk isAgg51 rfl hb2 rfl (Qs 1 rfl (Xz [.int .i64 1] underlying51 sizeOf3 zeroValue3 ?_)))))))
   intro B5 w5 hB5 hU5 hzz5 hs5
   replace hs5 : Own w5 (Is B5) 3 1 (.slice (some ⟨B5, 0, none⟩) 1 1) 1 (ints .i64 [1]) := hs5
   replace hs5 : Own w5 (Is B5) 3 1 (.slice (some ⟨B5, 0, none⟩) 1 1) 1 (ints .i64 [1]) := hs5
   replace hO := hO.Zc hU5
   refine Z1 (xs := acc) (ys := [1]) (zs := acc ++ [1]) (k' := .i64) (tot := i + 1) (by first | rfl | exact (ZR _ _).symm | simp) underlying51 (ti := Tryz.t3) (z := .int .i64 0) (sz := 1) (by' := 8) rfl rfl rfl rfl rfl (by decide) rfl hO rfl hs5.sl  (by omega) (by simp only [maxLen]; omega) (by omega) ?_
   intro a6 c6 w6 hU6 hzz6 hO6
   replace HU := HU.trans hU4
   replace hb1 := hb1.upd hU4
   replace hb2 := hb2.Zc hU5
   replace HL4 := HL4.Zb hU5
   clear hO
   have:=hU6.size
   replace hO6 := hO6.tight
   have hl_hO6 := ZC hO6.sl
   have hc_hO6 := hO6.sl.cap.1
   refine Zf (Zo underlying53 rfl sizeOf51 rfl rfl) ?_
   replace hb2 := hb2.upd hU6
   refine Xc [.int .i64 0, .slice a6 (i + 1) c6] sizeOf51 rfl hb2 rfl rfl rfl rfl rfl ?_
   intro w7 hU7 hzz7 hb2
   refine Za (Zl (Qs 1 rfl (Xd rfl rfl (Qs 1 rfl (Za ?_)))))
   refine ⟨_, ?_, (i + 1), (acc ++ [1]), a6, c6, rfl, rfl, ⟨rfl, rfl, rfl, Zt, trivial⟩, (by omega), (fun h => absurd h (by omega)), (fun h => by rw [hac (by omega), show i = s from by omega]), hb2, ((hO6.Zh hU7).weak), ((HL4.trans hU6).Zr hU7)⟩
   omega
  refine Zi (Zl (Zf (Zo underlying53 rfl sizeOf51 rfl rfl) (Zk isAgg51 rfl hb2 rfl (Qs 1 rfl (Xz [.int .i64 0] underlying51 sizeOf3 zeroValue3 ?_)))))
  intro B8 w8 hB8 hU8 hzz8 hs8
  replace hs8 : Own w8 (Is B8) 3 1 (.slice (some ⟨B8, 0, none⟩) 1 1) 1 (ints .i64 [0]) := hs8
  replace hs8 : Own w8 (Is B8) 3 1 (.slice (some ⟨B8, 0, none⟩) 1 1) 1 (ints .i64 [0]) := hs8
  replace hO := hO.Zc hU8
  refine Z1 (xs := acc) (ys := [0]) (zs := acc ++ [0]) (k' := .i64) (tot := i + 1) (by first | rfl | exact (ZR _ _).symm | simp) underlying51 (ti := Tryz.t3) (z := .int .i64 0) (sz := 1) (by' := 8) rfl rfl rfl rfl rfl (by decide) rfl hO rfl hs8.sl  (by omega) (by simp only [maxLen]; omega) (by omega) ?_
  intro a9 c9 w9 hU9 hzz9 hO9
  replace HU := HU.trans hU4
  replace hb1 := hb1.upd hU4
  replace hb2 := hb2.Zc hU8
  replace HL4 := HL4.Zb hU8
  clear hO
  have:=hU9.size
  replace hO9 := hO9.tight
  have hl_hO9 := ZC hO9.sl
  have hc_hO9 := hO9.sl.cap.1
  refine Zf (Zo underlying53 rfl sizeOf51 rfl rfl) ?_
  replace hb2 := hb2.upd hU9
  refine Xc [.int .i64 0, .slice a9 (i + 1) c9] sizeOf51 rfl hb2 rfl rfl rfl rfl rfl ?_
  intro w10 hU10 hzz10 hb2
  refine Za (Zl (Qs 1 rfl (Xd rfl rfl (Qs 1 rfl (Za ?_)))))
  refine ⟨_, ?_, (i + 1), (acc ++ [0]), a9, c9, rfl, rfl, ⟨rfl, rfl, rfl, Zt, trivial⟩, (by omega), (fun h => by rw [hac (by omega)]; exact (List.replicate_succ' ..).symm), (fun h => absurd h (by omega)), hb2, ((hO9.Zh hU10).weak), ((HL4.trans hU9).Zr hU10)⟩
  omega
 refine ZI (Sn (Xl isAgg53 sizeOf53 rfl hb2 rfl ?_))
 replace hb1 := hb1.upd hU4
 refine Xa sizeOf53 rfl rfl rfl rfl hb1 rfl ?_
 intro w11 hU11 hzz11 hb1
 refine Za (Zn (Zg rfl (rc1 results129 rfl (Zu isAgg53 sizeOf53 rfl hb1)) ?_))
 replace HU := (HU.trans hU4).t1 hU11
 replace hO := hO.Zh hU11
 obtain rfl : i = s + 1 := by omega
 exact ⟨_, rfl, a9, c9, rfl, by rw [← hae rfl]; exact hO.weak, HU⟩
theorem w24may {lg : Int} {a : Option Addr} {n c : Nat} {N : List Int} {p : Nat} (w : World) (hs : Sl w (fun g => g < w.heap.size) 1 (.slice a n c) n (ints .i64 N)) (hn4 : n ≤ 100000000) (hp : p < 3) :
  Calls Tryz.prog 132 #[.agg #[.int .i64 lg, .slice a n c], .int .i64 p] w (Ret fun v w' => ∃ (e : Int), v = .bool (decide (e = 0)) ∧ (e = 0 ↔ MayP lg N (sy3 p) (lm3 p)) ∧ Upd No w w') := by
 have HU := Upd.Yo w
 have hl_hs := ZC hs
 have hc_hs := hs.cap.1
 refine Zq func132 rfl ntmps132 (by simp) (Sn (Xb rfl ?_))
 intro B1 w1 hB1 hU1 hzz1 hb1
 refine Qs 1 rfl (Za (Zz (ZJ rfl (l0 := tf 0 8) (by kernel_rfl) (Tv rfl (fun w' hw' => Xt (cs := [.int .i64 lg, .slice a n c]) isAgg53 sizeOf53 rfl (hb1.Zc hw') rfl rfl) (Tq rfl (Tk 2 (tf 3 8) rfl (YI_c (v := .int .i64 (sy3 p)) rfl (fun w' => Zv rfl call127 rfl) (fun w' hw' => wsy3 w' (by omega))) (Tq rfl (Tk 4 (tf 5 8) rfl (YI_c (v := .int .i64 (lm3 p)) rfl (fun w' => Zv rfl call131 rfl) (fun w' hw' => wlm3 w' (by omega))) ?_))))))))
 intro w2 hU2
 have:=hU2.size
 refine Wo 5 (tf 6 8) rfl ?_
 have hW : Upd No w1 w2 := hU2
 refine Zj (Z5 rfl call27 rfl rfl rfl) (wmay _ ((hs.Zc hU1).Zc hU2).any (by omega)) ?_
 rintro v w3 ⟨e3, rfl, he_3, hU3⟩
 have:=hU3.size
 try replace hW := hW.Zb hU3
 refine Za ?_
 intro w4 hS4
 refine bT (Upd No w4) ?_
 have hU4 := hS4.upd
 have:=hU4.size
 try replace hW := hW.Zb hU4
 refine ZQ (Upd.refl _ _) (Tq rfl (Tq rfl ?_))
 intro w5 hU5
 have:=hU5.size
 try replace hW := hW.Zb hU5
 exact Wd (Zn (Zg rfl (Z9 results132 rfl) ⟨_, rfl, _, rfl, he_3, (((((HU.Zb hU1).Zb hU2).Zb hU3).Zb hU4).Zb hU5)⟩))
theorem w24get {a a2 : Option Addr} {m c p9 x p n2 c2 : Nat} {b : List Int} {lg2 : Int} {N2 : List Int} {R : Nat → Prop} (w : World) (hs : Sl w (fun g => g < w.heap.size) 1 (.slice a m c) m (ints .u8 b)) (hb : Byt b) (hm : m ≤ 1000000) (hs2 : Sl w R 1 (.slice a2 n2 c2) n2 (ints .i64 N2)) (hR : ∀ g, R g → g < w.heap.size) (hn2 : n2 ≤ 100000000) (hp : p9 ≤ m) (hx : x ≤ 3) (hp3 : p < 3) :
  Calls Tryz.prog 108 #[.slice a m c, .int .i64 p9, .int .i64 x, .int .i64 p, .agg #[.int .i64 lg2, .slice a2 n2 c2]] w (Ret fun v w' => ∃ (lg : Int) (a' : Option Addr) (m' : Nat) (c' : Nat) (N : List Int) (q : Int) (e : Int), v = .tuple #[.agg #[.int .i64 lg, .slice a' m' c'], .int .i64 q, .int .i64 e] ∧ Sl w' (fun g => R g ∨ w.heap.size ≤ g) 1 (.slice a' m' c') m' (ints .i64 N) ∧ (e = 0 → MayP lg N (sy3 p) (lm3 p)) ∧ (p9 : Int) ≤ q ∧ q ≤ (m : Int) ∧ Upd No w w') := by
 have HU := Upd.Yo w
 have hl_hs := ZC hs
 have hc_hs := hs.cap.1
 have hl_hs2 := ZC hs2
 have hc_hs2 := hs2.cap.1
 have hbg9 := Yi hb p9
 refine Zq func108 rfl ntmps108 (by simp) (Sn (Xb rfl ?_))
 intro B1 w1 hB1 hU1 hzz1 hb1
 refine ZB zeroValue53 rfl ?_
 intro B2 w2 hB2 hU2 hzz2 hb2
 refine Qs 2 rfl (Za (Sm (Qs 1 rfl (Zj (Zv rfl call127 rfl) (wsy3 _ (by omega)) ?_))))
 rintro v w3 ⟨rfl, hU3⟩
 have:=hU3.size
 refine Qs 2 rfl ?_
 replace HU := ((HU.Zb hU1).Zb hU2).Zb hU3
 replace hb2 := hb2.Zc hU3
 by_cases q1 : (sy3 p) = 0
 ·rw [decide_eq_true q1]
  refine Gf (Gf (Zf (Zx (v := .bool true) rfl rfl) (Qs 1 rfl (Gf (Gf (Zf (Zx (v := .bool true) rfl rfl) (Za (Ct (Sn (Zf (ZF (pl := #[(0, 1), (1, 1)]) (pv := []) (cs := #[.int .i64 0, .slice none 0 0]) zeroValue53 underlying53 (fun w => by kernel_rfl)) (Qs 1 rfl (Xa sizeOf53 rfl rfl rfl rfl hb2 rfl ?_))))))))))))
  intro w4 hU4 hzz4 hb2
  exact Qs 2 rfl (Za (Zn (Zg rfl (Yb results108 rfl rfl rfl (Zu isAgg53 sizeOf53 rfl hb2)) ⟨_, rfl, 0, none, 0, 0, [], (p9 : Int), 2, rfl, Sl.nil _ _ _, (fun h => absurd h (by decide)), (by omega), (by omega), (HU.t1 hU4)⟩)))
 rw [decide_eq_false q1]
 refine Gt (Qs 1 rfl (Gt (Qs 1 rfl (Zf (Zw (v := .bool (decide ((x : Int) < 0))) rfl rfl) (Qs 1 rfl ?_)))))
 have q2 : ¬ ((x : Int) < 0) := (by omega)
 rw [decide_eq_false q2]
 refine Gt (Qs 1 rfl (Gt (Qs 1 rfl (Zf (Zw (v := .bool (decide (3 < (x : Int)))) rfl rfl) (Za ?_)))))
 have q3 : ¬ (3 < (x : Int)) := (by omega)
 rw [decide_eq_false q3]
 refine Cf (Zi (Sm (Qs 1 rfl (Za (Zs (Sn (Qs 2 rfl (Za (W_if rfl (fun q4 => ?_) fun q4 => ?_)))))))))
 ·refine Sn (Qs 1 rfl (Zj (Zv rfl call128 rfl) (w23of _ (by omega)) ?_))
  rintro v w5 ⟨lg5, a5, m5, c5, N5, rfl, hO5, hM_5, hU5⟩
  have:=hU5.size
  replace hO5 := hO5.tight
  have hl_hO5 := ZC hO5.sl
  have hc_hO5 := hO5.sl.cap.1
  refine Qs 1 rfl ?_
  replace hb2 := hb2.Zc hU5
  refine Xa sizeOf53 rfl rfl rfl rfl hb2 rfl ?_
  intro w6 hU6 hzz6 hb2
  exact Qs 2 rfl (Za (Zn (Zg rfl (Yb results108 rfl rfl rfl (Zu isAgg53 sizeOf53 rfl hb2)) ⟨_, rfl, lg5, a5, m5, c5, N5, (p9 : Int), 0, rfl, ((hO5.Zh hU6).sl.weak), (fun _ => hM_5), (by omega), (by omega), ((HU.Zb hU5).t1 hU6)⟩)))
 refine Sn (Qs 2 rfl (Za ?_))
 replace hs := ((hs.Zc hU1).Zc hU2).Zc hU3
 refine W_if rfl (fun q5 => ?_) fun q5 => ?_
 ·refine Sm (Qs 2 rfl (Zf (ZM underlying22 rfl) (Qs 1 rfl (Za (W_if rfl (fun q6 => ?_) fun q6 => ?_)))))
  ·refine Sn (Zf (ZF (pl := #[(0, 1), (1, 1)]) (pv := []) (cs := #[.int .i64 0, .slice none 0 0]) zeroValue53 underlying53 (fun w => by kernel_rfl)) (Qs 1 rfl (Xa sizeOf53 rfl rfl rfl rfl hb2 rfl ?_)))
   intro w7 hU7 hzz7 hb2
   exact Qs 2 rfl (Za (Zn (Zg rfl (Yb results108 rfl rfl rfl (Zu isAgg53 sizeOf53 rfl hb2)) ⟨_, rfl, 0, none, 0, 0, [], (p9 : Int), 3, rfl, Sl.nil _ _ _, (fun h => absurd h (by decide)), (by omega), (by omega), (HU.t1 hU7)⟩)))
  refine Zi (Zz (Zz (ZJ rfl (l0 := tf 0 8) (by kernel_rfl) (Tq rfl (Tq rfl ?_)))))
  obtain ⟨ib8, io8, ha8, hib8, hc8⟩ := (hs).iat (i := p9) (by omega)
  replace hib8 : ib8 < w.heap.size := hib8
  refine Tv rfl (fun _ _ => Yl (b := ib8) (off := io8) (m := m) (c := c) (o' := io8 + p9) underlying22 sizeOf5 (by rw [← ha8]; rfl) rfl (by omega) (by omega) (by omega)) (Tv rfl (v := .int .u8 (b.getD p9 0)) (fun w' hw' => Yd isAgg5 rfl (hw'.Y8 hc8)) (Tv rfl (fun _ _ => ZZ underlying5 underlying3 rfl ZY) (Tq rfl (Tk 6 (tf 7 8) rfl (YI_c (v := .int .i64 (sy3 p)) rfl (fun w' => Zv rfl call127 rfl) (fun w' hw' => wsy3 w' (by omega))) (Tq rfl ?_)))))
  intro w9 hU9
  have:=hU9.size
  replace hc8 := ZG hU9 hc8
  refine Wd ?_
  replace HU := HU.Zb hU9
  replace hb2 := hb2.Zc hU9
  refine W_if rfl (fun q7 => ?_) fun q7 => ?_
  ·refine Sn (Zf (ZF (pl := #[(0, 1), (1, 1)]) (pv := []) (cs := #[.int .i64 0, .slice none 0 0]) zeroValue53 underlying53 (fun w => by kernel_rfl)) (Qs 1 rfl (Xa sizeOf53 rfl rfl rfl rfl hb2 rfl ?_)))
   intro w10 hU10 hzz10 hb2
   replace hc8 := cell_upd1 hU10 hc8 (by show ib8 ≠ B2; omega)
   exact Qs 2 rfl (Za (Zn (Zg rfl (Yb results108 rfl rfl rfl (Zu isAgg53 sizeOf53 rfl hb2)) ⟨_, rfl, 0, none, 0, 0, [], (p9 : Int), 13, rfl, Sl.nil _ _ _, (fun h => absurd h (by decide)), (by omega), (by omega), (HU.t1 hU10)⟩)))
  refine Zi (Sn (Qs 2 rfl (Z7 underlying22 sizeOf5 rfl rfl (hs.Zc hU9) (by omega) (by omega) ?_)))
  intro ib11 io11 hc11
  rw [Int.toNat_natCast] at hc11
  refine ZH isAgg5 rfl hc11 (Zf (ZZ underlying5 underlying3 rfl ZY) (Zj (Zv rfl call129 (v0 := .int .i64 (((b.getD p9 0).toNat : Nat) : Int)) (Zt (by have := Yi hb p9; omega))) (wone _ (by have := Yi hb p9; omega)) ?_))
  rintro v w12 ⟨a12, c12, rfl, hO12, hU12⟩
  have:=hU12.size
  replace hc8 := ZG hU12 hc8
  replace hO12 := hO12.tight
  have hl_hO12 := ZC hO12.sl
  have hc_hO12 := hO12.sl.cap.1
  refine Qs 1 rfl (Xd rfl rfl ?_)
  replace hb2 := hb2.Zc hU12
  refine Xa sizeOf53 rfl rfl rfl rfl hb2 rfl ?_
  intro w13 hU13 hzz13 hb2
  replace hc8 := cell_upd1 hU13 hc8 (by show ib8 ≠ B2; omega)
  exact Qs 2 rfl (Za (Zn (Zg rfl (Yb results108 rfl rfl rfl (Zu isAgg53 sizeOf53 rfl hb2)) ⟨_, rfl, 0, a12, (((b.getD p9 0).toNat) + 1), c12, List.replicate ((b.getD p9 0).toNat) 0 ++ [1], ((p9 : Int) + 1), 0, rfl, ((hO12.Zh hU13).sl.weak), (fun _ => one_may (by have := Yi hb p9; omega) (by unfold sy3; split <;> decide) (by unfold lm3; split <;> decide)), (by omega), (by omega), ((HU.Zb hU12).t1 hU13)⟩)))
 refine Sn (Qs 2 rfl (Za (W_if rfl (fun q8 => ?_) fun q8 => ?_)))
 ·refine Sn (Qs 3 rfl (Zj (Zv rfl call127 rfl) (wsy3 _ (by omega)) ?_))
  rintro v w14 ⟨rfl, hU14⟩
  have:=hU14.size
  refine Qs 1 rfl (Zj (Zv rfl call131 rfl) (wlm3 _ (by omega)) ?_)
  rintro v w15 ⟨rfl, hU15⟩
  have:=hU15.size
  refine Zj (r_call4 rfl call130 rfl rfl rfl rfl) (wtget _ ((hs.Zc hU14).Zc hU15).any hb (by omega) (by omega)) ?_
  rintro v w16 ⟨lg16, a16, m16, c16, N16, q16, e16, rfl, hO16, hN_16, hq1_16, hq2_16, hU16⟩
  have:=hU16.size
  replace hO16 := hO16.tight
  have hl_hO16 := ZC hO16.sl
  have hc_hO16 := hO16.sl.cap.1
  refine Qs 3 rfl ?_
  replace hb2 := ((hb2.Zc hU14).Zc hU15).Zc hU16
  refine Xa sizeOf53 rfl rfl rfl rfl hb2 rfl ?_
  intro w17 hU17 hzz17 hb2
  exact Qs 2 rfl (Za (Zn (Zg rfl (Yb results108 rfl rfl rfl (Zu isAgg53 sizeOf53 rfl hb2)) ⟨_, rfl, lg16, a16, m16, c16, N16, q16, e16, rfl, ((hO16.Zh hU17).sl.weak), hN_16, (by omega), (by omega), ((((HU.Zb hU14).Zb hU15).Zb hU16).t1 hU17)⟩)))
 refine Zi (Sm ?_)
 replace hb1 := (hb1.Zc hU2).Zc hU3
 refine Xl isAgg53 sizeOf53 rfl hb1 rfl (Qs 1 rfl ?_)
 replace hs2 := (((hs2.tight).Zc hU1).Zc hU2).Zc hU3
 refine Zj (Zy rfl call132 rfl rfl) (w24may _ hs2.any (by omega) (by omega)) ?_
 rintro v w18 ⟨e18, rfl, he_18, hU18⟩
 have:=hU18.size
 refine Zf (YX rfl) (Za ?_)
 replace HU := HU.Zb hU18
 replace hb2 := hb2.Zc hU18
 by_cases q9 : e18 = 0
 ·rw [decide_eq_true q9]
  simp only [Bool.not_true, Bool.not_false]
  refine Cf (Zi (Sn (Xl isAgg53 sizeOf53 rfl (hb1.Zc hU18) rfl (Qs 1 rfl (Xa sizeOf53 rfl rfl rfl rfl hb2 rfl ?_)))))
  intro w19 hU19 hzz19 hb2
  exact Qs 2 rfl (Za (Zn (Zg rfl (Yb results108 rfl rfl rfl (Zu isAgg53 sizeOf53 rfl hb2)) ⟨_, rfl, lg2, a2, n2, c2, N2, (p9 : Int), 0, rfl, (((hs2.Zc hU18).Zh hU19).weak (by intro g hg; have h3 : ((R g) ∧ g < w.heap.size) := hg; show R g ∨ w.heap.size ≤ g; first | exact .inl h3 | exact .inl h3.1)), (fun _ => he_18.1 (by first | assumption | exact Classical.not_not.1 (by assumption))), (by omega), (by omega), (HU.t1 hU19)⟩)))
 rw [decide_eq_false q9]
 simp only [Bool.not_true, Bool.not_false]
 refine Ct (Sn (Zf (ZF (pl := #[(0, 1), (1, 1)]) (pv := []) (cs := #[.int .i64 0, .slice none 0 0]) zeroValue53 underlying53 (fun w => by kernel_rfl)) (Qs 1 rfl (Xa sizeOf53 rfl rfl rfl rfl hb2 rfl ?_))))
 intro w20 hU20 hzz20 hb2
 exact Qs 2 rfl (Za (Zn (Zg rfl (Yb results108 rfl rfl rfl (Zu isAgg53 sizeOf53 rfl hb2)) ⟨_, rfl, 0, none, 0, 0, [], (p9 : Int), 13, rfl, Sl.nil _ _ _, (fun h => absurd h (by decide)), (by omega), (by omega), (HU.t1 hU20)⟩)))
end Go.Proofs.YtbjjhfoeckkacaaGreatDoor
