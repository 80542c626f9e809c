/-
  Several texts of this project, put together.
-/
import Derived.Test.YtbjjhfoeckkacaaGreatDoorFZ
import Derived.Test.YtbjjhfoeckkacaaGreatDoorDS
set_option linter.unusedVariables false
set_option linter.unusedSimpArgs false
set_option maxRecDepth 100000
set_option maxHeartbeats 16000000
namespace Go.Proofs.YtbjjhfoeckkacaaGreatDoor
open Go.Fw _root_.Go.Proofs.Tryz
theorem wget16 {a : Option Addr} {n c p : Nat} {b : List Int} (w : World) (hs : Sl w (fun g => g < w.heap.size) 1 (.slice a n c) n (ints .u8 b)) (hb : Byt b) (hp : p ≤ n) (hn : n ≤ 1000000) :
  Calls Tryz.prog 104 #[.slice a n c, .int .i64 p] w (Ret fun v w' => ∃ (a' : Option Addr) (m' : Nat) (c' : Nat) (xs : List Int) (qq : Nat) (e : Int), v = .tuple #[.slice a' m' c', .int .i64 qq, .int .i64 e] ∧ Sl w' (fun g => w.heap.size ≤ g) 1 (.slice a' m' c') m' (ints .i64 xs) ∧ p ≤ qq ∧ qq ≤ n ∧ m' ≤ 256 ∧ Upd No w w') := by
 have HU := Upd.Yo w
 have hl_hs := ZC hs
 have hc_hs := hs.cap.1
 refine Zq func104 rfl ntmps104 (by simp) (Sn (Qs 3 rfl (Za (Sn (Qs 2 rfl (Zj (Z5 rfl call121 (v2 := .int .i64 ((255 : Nat) : Int)) rfl rfl rfl) (wnum _ hs.any hb (by omega) (by omega) (by omega)) ?_))))))
 rintro v w1 ⟨xz1, qz1, e1, rfl, hx_1, hq_1, hq2_1, hU1⟩
 have:=hU1.size
 refine Qs 7 rfl (Za (Sm (Qs 2 rfl (Za ?_))))
 replace HU := HU.Zb hU1
 refine W_if rfl (fun q1 => ?_) fun q1 => ?_
 ·exact Sn (Qs 5 rfl (Za (Zn (Zg rfl (Yr results104 rfl rfl rfl) ⟨_, rfl, none, 0, 0, [], p, e1, rfl, Sl.nil _ _ _, (by omega), (by omega), (by omega), HU⟩))))
 refine Zi (Sm (Qs 2 rfl (Za (W_if rfl (fun q2 => ?_) fun q2 => ?_))))
 ·exact Sn (Qs 4 rfl (Za (Zn (Zg rfl (Yr results104 rfl rfl rfl) ⟨_, rfl, none, 0, 0, [], p, 12, rfl, Sl.nil _ _ _, (by omega), (by omega), (by omega), HU⟩))))
 refine Zi (Sm (Qs 2 rfl (Zf (ZM underlying22 rfl) (Qs 1 rfl (Za (W_if rfl (fun q3 => ?_) fun q3 => ?_))))))
 ·exact Sn (Qs 4 rfl (Za (Zn (Zg rfl (Yr results104 rfl rfl rfl) ⟨_, rfl, none, 0, 0, [], p, 3, rfl, Sl.nil _ _ _, (by omega), (by omega), (by omega), HU⟩))))
 refine Zi (Sn (Qs 1 rfl (Za (Sm (Qs 2 rfl ?_)))))
 replace hs := hs.Zc hU1
 refine Z7 underlying22 sizeOf5 rfl rfl hs (by omega) (by omega) ?_
 intro ib2 io2 hc2
 rw [Int.toNat_natCast] at hc2
 refine ZH isAgg5 rfl hc2 (Za (Zs (Sn (Qs 2 rfl (Za (W_if rfl (fun q4 => ?_) fun q4 => ?_))))))
 ·refine Zl (Qs 2 rfl (Xd rfl rfl (Qs 1 rfl (Zj (Z5 rfl call122 (v1 := .int .i64 ((qz1 + 1 : Nat) : Int)) rfl Zt rfl) (whalves _ hs.any hb (by omega) (by omega) (by omega)) ?_))))
  rintro v w3 ⟨a3, m3, c3, xs3, qq3, e3, rfl, hO3, hq1_3, hq2_3, hm9_3, hU3⟩
  have:=hU3.size
  have hl_hO3 := ZC hO3
  have hc_hO3 := hO3.cap.1
  refine Qs 7 rfl (Za (Sm (Qs 2 rfl (Za ?_))))
  replace HU := HU.Zb hU3
  refine W_if rfl (fun q5 => ?_) fun q5 => ?_
  ·exact Sn (Qs 5 rfl (Za (Zn (Zg rfl (Yr results104 rfl rfl rfl) ⟨_, rfl, none, 0, 0, [], p, e3, rfl, Sl.nil _ _ _, (by omega), (by omega), (by omega), HU⟩))))
  refine Zi (Sn (Qs 1 rfl (Zj (Zv rfl call124 rfl) (wtree16 _ hO3.any (by omega)) ?_)))
  rintro v w4 ⟨a4, m4, c4, xs4, e4, rfl, hO4, hm9_4, hU4⟩
  have:=hU4.size
  replace hO4 := hO4.tight
  have hl_hO4 := ZC hO4.sl
  have hc_hO4 := hO4.sl.cap.1
  exact Qs 5 rfl (Za (Sn (Qs 6 rfl (Za (Zn (Zg rfl (Yr results104 rfl rfl rfl) ⟨_, rfl, a4, m4, c4, xs4, qq3, e4, rfl, hO4.weak.sl, (by omega), (by omega), (by omega), (HU.Zb hU4)⟩))))))
 refine Sn (Qs 2 rfl (Za (W_if rfl (fun q6 => ?_) fun q6 => ?_)))
 ·refine Zl (Qs 2 rfl (Xd rfl rfl (Qs 1 rfl (Zj (Z5 rfl call123 (v1 := .int .i64 ((qz1 + 1 : Nat) : Int)) rfl Zt rfl) (wcoded16 _ hs.any hb (by omega) (by omega) (by omega)) ?_))))
  rintro v w5 ⟨a5, m5, c5, xs5, qq5, e5, rfl, hO5, hq1_5, hq2_5, hm9_5, hU5⟩
  have:=hU5.size
  have hl_hO5 := ZC hO5
  have hc_hO5 := hO5.cap.1
  refine Qs 7 rfl (Za (Sm (Qs 2 rfl (Za ?_))))
  replace HU := HU.Zb hU5
  refine W_if rfl (fun q7 => ?_) fun q7 => ?_
  ·exact Sn (Qs 5 rfl (Za (Zn (Zg rfl (Yr results104 rfl rfl rfl) ⟨_, rfl, none, 0, 0, [], p, e5, rfl, Sl.nil _ _ _, (by omega), (by omega), (by omega), HU⟩))))
  refine Zi (Sn (Qs 1 rfl (Zj (Zv rfl call124 rfl) (wtree16 _ hO5.any (by omega)) ?_)))
  rintro v w6 ⟨a6, m6, c6, xs6, e6, rfl, hO6, hm9_6, hU6⟩
  have:=hU6.size
  replace hO6 := hO6.tight
  have hl_hO6 := ZC hO6.sl
  have hc_hO6 := hO6.sl.cap.1
  exact Qs 5 rfl (Za (Sn (Qs 6 rfl (Za (Zn (Zg rfl (Yr results104 rfl rfl rfl) ⟨_, rfl, a6, m6, c6, xs6, qq5, e6, rfl, hO6.weak.sl, (by omega), (by omega), (by omega), (HU.Zb hU6)⟩))))))
 exact Zl (Qs 1 rfl (Za (Sm (Qs 1 rfl (Zf (v := .bool true) (Yh (a := 12) (b := 0) rfl rfl) (Za (Ct (Sn (Qs 5 rfl (Za (Zn (Zg rfl (Yr results104 rfl rfl rfl) ⟨_, rfl, none, 0, 0, [], p, 12, rfl, Sl.nil _ _ _, (by omega), (by omega), (by omega), HU⟩))))))))))))
theorem wparts18 {k : Nat} (w : World) (hk : k ≤ 131072) :
  Calls Tryz.prog 146 #[.int .i64 k] w (Ret fun v w' => ∃ (a' : Option Addr) (m' : Nat) (c' : Nat) (xs : List Int) (e : Int), v = .tuple #[.slice a' m' c', .int .i64 e] ∧ Own w' (fun g => w.heap.size ≤ g) 3 1 (.slice a' m' c') m' (ints .i64 xs) ∧ (e = 0 → m' = 4) ∧ Upd No w w') := by
 have HU := Upd.Yo w
 refine Zq func146 rfl ntmps146 (by simp) (Sn (Qs 2 rfl (Za (Sm (Qs 3 rfl ?_)))))
 have q1 : ¬ ((k : Int) < 0) := (by omega)
 rw [decide_eq_false q1]
 refine Gt (Qs 1 rfl (Gt (Qs 1 rfl (Zf (Zw (v := .bool (decide (131072 < (k : Int)))) rfl rfl) (Za ?_)))))
 have q2 : ¬ (131072 < (k : Int)) := (by omega)
 rw [decide_eq_false q2]
 refine Cf (Zi (Sn (Qs 1 rfl (Zf (YT rfl rfl (by omega) (tq (by omega) ZY)) (Qs 1 rfl (Za (Sm (Qs 1 rfl (Zf (YW rfl rfl (by omega) (tr (by omega))) (Qs 1 rfl (Za (W_if rfl (fun q3 => ?_) fun q3 => ?_))))))))))))
 ·refine Zl (Qs 1 rfl (Xd rfl rfl (Qs 1 rfl (Za (Sm (Qs 2 rfl (Zf (YM rfl rfl ZY) (Xs rfl rfl (Qs 1 rfl (Za (W_if rfl (fun q4 => ?_) fun q4 => ?_)))))))))))
  ·exact Sn (Qs 2 rfl (Za (Zn (Zg rfl (Z2 results146 rfl rfl) ⟨_, rfl, none, 0, 0, [], 11, rfl, Own.nil _ _ _ _, (fun h => absurd h (by decide)), HU⟩))))
  refine Zi (Sn (Qs 5 rfl (Zf (YM rfl rfl ZY) (Xs rfl rfl (Xz [.int .i64 (((k : Int) / 4) + 1), .int .i64 (((k : Int) / 4) + 1), .int .i64 (((k : Int) / 4) + 1), .int .i64 ((k : Int) - (3 * (((k : Int) / 4) + 1)))] underlying51 sizeOf3 zeroValue3 ?_)))))
  intro B1 w1 hB1 hU1 hzz1 hs1
  replace hs1 : Own w1 (Is B1) 3 1 (.slice (some ⟨B1, 0, none⟩) 4 4) 4 (ints .i64 [((k : Int) / 4) + 1, ((k : Int) / 4) + 1, ((k : Int) / 4) + 1, (k : Int) - (3 * (((k : Int) / 4) + 1))]) := hs1
  replace hs1 : Own w1 (Is B1) 3 1 (.slice (some ⟨B1, 0, none⟩) 4 4) 4 (ints .i64 [((k : Int) / 4) + 1, ((k : Int) / 4) + 1, ((k : Int) / 4) + 1, (k : Int) - (3 * (((k : Int) / 4) + 1))]) := hs1
  exact Qs 2 rfl (Za (Zn (Zg rfl (Z2 results146 rfl rfl) ⟨_, rfl, (some ⟨B1, 0, none⟩), 4, 4, _, 0, rfl, hs1.weak, (fun _ => rfl), (HU.Zb hU1)⟩)))
 refine Zi (Sm (Qs 2 rfl (Zf (YM rfl rfl ZY) (Xs rfl rfl (Qs 1 rfl (Za (W_if rfl (fun q5 => ?_) fun q5 => ?_)))))))
 ·exact Sn (Qs 2 rfl (Za (Zn (Zg rfl (Z2 results146 rfl rfl) ⟨_, rfl, none, 0, 0, [], 11, rfl, Own.nil _ _ _ _, (fun h => absurd h (by decide)), HU⟩))))
 refine Zi (Sn (Qs 5 rfl (Zf (YM rfl rfl ZY) (Xs rfl rfl (Xz [.int .i64 ((k : Int) / 4), .int .i64 ((k : Int) / 4), .int .i64 ((k : Int) / 4), .int .i64 ((k : Int) - (3 * ((k : Int) / 4)))] underlying51 sizeOf3 zeroValue3 ?_)))))
 intro B2 w2 hB2 hU2 hzz2 hs2
 replace hs2 : Own w2 (Is B2) 3 1 (.slice (some ⟨B2, 0, none⟩) 4 4) 4 (ints .i64 [(k : Int) / 4, (k : Int) / 4, (k : Int) / 4, (k : Int) - (3 * ((k : Int) / 4))]) := hs2
 replace hs2 : Own w2 (Is B2) 3 1 (.slice (some ⟨B2, 0, none⟩) 4 4) 4 (ints .i64 [(k : Int) / 4, (k : Int) / 4, (k : Int) / 4, (k : Int) - (3 * ((k : Int) / 4))]) := hs2
 exact Qs 2 rfl (Za (Zn (Zg rfl (Z2 results146 rfl rfl) ⟨_, rfl, (some ⟨B2, 0, none⟩), 4, 4, _, 0, rfl, hs2.weak, (fun _ => rfl), (HU.Zb hU2)⟩)))
theorem wstreams {a : Option Addr} {n c : Nat} {b : List Int} (w : World) (hs : Sl w (fun g => g < w.heap.size) 1 (.slice a n c) n (ints .u8 b)) (hb : Byt b) (hn : n ≤ 1000000) :
  Calls Tryz.prog 147 #[.slice a n c] w (Ret fun v w' => ∃ (a' : Option Addr) (m' : Nat) (c' : Nat) (vs : List AV) (e : Int), v = .tuple #[.slice a' m' c', .int .i64 e] ∧ Own w' (fun g => w.heap.size ≤ g) 22 1 (.slice a' m' c') m' (rows encA vs) ∧ Pcs w' 1000000 w'.heap.size w'.heap.size vs ∧ (e = 0 → m' = 4) ∧ Upd No w w') := by
 have HU := Upd.Yo w
 have hl_hs := ZC hs
 have hc_hs := hs.cap.1
 refine Zq func147 rfl ntmps147 (by simp) (Sn (Qs 2 rfl (Za (Sn (ZB zeroValue54 rfl ?_)))))
 intro B1 w1 hB1 hU1 hzz1 hb1
 refine Za (Sn (Qs 1 rfl (Za (Sm (Qs 1 rfl (Za (Zs (W_unroll 4 (ZX (Sm (Qs 1 rfl (Zf (v := .bool true) (YL (a := 0) (b := 3) rfl rfl) (Za (Ct (Zi (Zz (Zs (Sn (Qs 2 rfl ?_)))))))))))))))))))
 replace hs := hs.Zc hU1
 refine Zj (Z5 rfl call121 (v2 := .int .i64 ((131072 : Nat) : Int)) (v1 := .int .i64 ((0 : Nat) : Int)) rfl rfl rfl) (wnum _ hs.any hb (by omega) (by omega) (by omega)) ?_
 rintro v w2 ⟨xz2, qz2, e2, rfl, hx_2, hq_2, hq2_2, hU2⟩
 have:=hU2.size
 refine Qs 7 rfl (Za (Sm (Qs 2 rfl (Za ?_))))
 replace HU := (HU.Zb hU1).Zb hU2
 refine W_if rfl (fun q1 => ?_) fun q1 => ?_
 ·exact Sn (Qs 3 rfl (Za (Zn (Zg rfl (Z2 results147 rfl rfl) ⟨_, rfl, none, 0, 0, [], e2, rfl, Own.nil _ _ _ _, Pcs.nil _ _ _ _, (fun h => absurd h q1), HU⟩))))
 refine Zi (Zl (Qs 3 rfl (Zf (Z0 (len := 3) (i' := 0) (o' := 0) underlying54 sizeOf3 rfl rfl (by omega) (by omega) (by omega)) ?_)))
 replace hb1 := hb1.Zc hU2
 refine Xc [.int .i64 xz2, .int .i64 0, .int .i64 0] sizeOf3 rfl hb1 rfl rfl rfl rfl rfl ?_
 intro w3 hU3 hzz3 hb1
 refine Qs 1 rfl (Za (Zl (Qs 1 rfl (Zf (Yf rfl rfl (show IntKind.i64.wrap (0 + 1) = 1 by decide)) (Qs 1 rfl (Za (ZX (Sm (Qs 1 rfl (Zf (v := .bool true) (YL (a := 1) (b := 3) rfl rfl) (Za (Ct (Zi (Zz (Zs (Sn (Qs 2 rfl ?_)))))))))))))))))
 replace hs := (hs.Zc hU2).Zh hU3
 refine Zj (Z5 rfl call121 (v2 := .int .i64 ((131072 : Nat) : Int)) rfl rfl rfl) (wnum _ hs.any hb (by omega) (by omega) (by omega)) ?_
 rintro v w4 ⟨xz4, qz4, e4, rfl, hx_4, hq_4, hq2_4, hU4⟩
 have:=hU4.size
 refine Qs 7 rfl (Za (Sm (Qs 2 rfl (Za ?_))))
 replace HU := (HU.t1 hU3).Zb hU4
 refine W_if rfl (fun q2 => ?_) fun q2 => ?_
 ·exact Sn (Qs 3 rfl (Za (Zn (Zg rfl (Z2 results147 rfl rfl) ⟨_, rfl, none, 0, 0, [], e4, rfl, Own.nil _ _ _ _, Pcs.nil _ _ _ _, (fun h => absurd h q2), HU⟩))))
 refine Zi (Zl (Qs 3 rfl (Zf (Z0 (len := 3) (i' := 1) (o' := 1) underlying54 sizeOf3 rfl rfl (by omega) (by omega) (by omega)) ?_)))
 replace hb1 := hb1.Zc hU4
 refine Xc [.int .i64 xz2, .int .i64 xz4, .int .i64 0] sizeOf3 rfl hb1 rfl rfl rfl rfl rfl ?_
 intro w5 hU5 hzz5 hb1
 refine Qs 1 rfl (Za (Zl (Qs 1 rfl (Zf (Yf rfl rfl (show IntKind.i64.wrap (1 + 1) = 2 by decide)) (Qs 1 rfl (Za (ZX (Sm (Qs 1 rfl (Zf (v := .bool true) (YL (a := 2) (b := 3) rfl rfl) (Za (Ct (Zi (Zz (Zs (Sn (Qs 2 rfl ?_)))))))))))))))))
 replace hs := (hs.Zc hU4).Zh hU5
 refine Zj (Z5 rfl call121 (v2 := .int .i64 ((131072 : Nat) : Int)) rfl rfl rfl) (wnum _ hs.any hb (by omega) (by omega) (by omega)) ?_
 rintro v w6 ⟨xz6, qz6, e6, rfl, hx_6, hq_6, hq2_6, hU6⟩
 have:=hU6.size
 refine Qs 7 rfl (Za (Sm (Qs 2 rfl (Za ?_))))
 replace HU := (HU.t1 hU5).Zb hU6
 refine W_if rfl (fun q3 => ?_) fun q3 => ?_
 ·exact Sn (Qs 3 rfl (Za (Zn (Zg rfl (Z2 results147 rfl rfl) ⟨_, rfl, none, 0, 0, [], e6, rfl, Own.nil _ _ _ _, Pcs.nil _ _ _ _, (fun h => absurd h q3), HU⟩))))
 refine Zi (Zl (Qs 3 rfl (Zf (Z0 (len := 3) (i' := 2) (o' := 2) underlying54 sizeOf3 rfl rfl (by omega) (by omega) (by omega)) ?_)))
 replace hb1 := hb1.Zc hU6
 refine Xc [.int .i64 xz2, .int .i64 xz4, .int .i64 xz6] sizeOf3 rfl hb1 rfl rfl rfl rfl rfl ?_
 intro w7 hU7 hzz7 hb1
 refine Qs 1 rfl (Za (Zl (Qs 1 rfl (Zf (Yf rfl rfl (show IntKind.i64.wrap (2 + 1) = 3 by decide)) (Qs 1 rfl (Za (ZX (Sm (Qs 1 rfl (Zf (v := .bool false) (YL (a := 3) (b := 3) rfl rfl) (Za (Cf (ZI (Sn (Qs 1 rfl (Za (Sm (Qs 1 rfl (Za (Zs (W_unroll 4 (ZX (Sm (Qs 1 rfl (Zf (v := .bool true) (YL (a := 0) (b := 3) rfl rfl) (Za (Ct (Zi (Zz (Zs (Sn (Qs 3 rfl (Zf (Z0 (len := 3) (i' := 0) (o' := 0) underlying54 sizeOf3 rfl rfl (by omega) (by omega) (by omega)) (Zk isAgg3 rfl hb1 rfl ?_))))))))))))))))))))))))))))))))))
 replace hs := (hs.Zc hU6).Zh hU7
 refine Zj (Z5 rfl call29 rfl rfl rfl) (wbys _ hs hb (by omega) (by omega)) ?_
 rintro v w8 ⟨a8, m8, c8, z8, qz8, e8, rfl, hB8, hz_8, hm9_8, hq_8, hq2_8, he_8, hU8⟩
 have:=hU8.size
 have hl_hB8 := ZC hB8
 have hc_hB8 := hB8.cap.1
 refine Qs 7 rfl (Za (Sm (Qs 2 rfl (Za ?_))))
 replace HU := (HU.t1 hU7).Zb hU8
 refine W_if rfl (fun q4 => ?_) fun q4 => ?_
 ·exact Sn (Qs 3 rfl (Za (Zn (Zg rfl (Z2 results147 rfl rfl) ⟨_, rfl, none, 0, 0, [], e8, rfl, Own.nil _ _ _ _, Pcs.nil _ _ _ _, (fun h => absurd h q4), HU⟩))))
 refine Zi (Zl (Qs 2 rfl (Xz [.slice a8 m8 c8] underlying171 sizeOf22 zeroValue22 ?_)))
 intro B9 w9 hB9 hU9 hzz9 hs9
 replace hs9 : Own w9 (Is B9) 22 1 (.slice (some ⟨B9, 0, none⟩) 1 1) 1 (rows encA [(a8, m8, c8)]) := hs9
 refine Ye (cs3 := rows encA [(a8, m8, c8)]) (tot := 1) (by first | rfl | exact (ZR _ _).symm | simp) underlying171 (ti := Tryz.t22) (z := .slice none 0 0) (sz := 1) (by' := 24) rfl rfl rfl rfl rfl (by decide) rfl (Own.nil _ No _ _) rfl hs9.sl (Yn encA_one _) (by omega) (by simp only [maxLen]; omega) (by omega) ?_
 intro a10 c10 w10 hU10 hzz10 hO10
 have:=hU10.size
 replace hO10 := hO10.weak (R' := fun g => g = w9.heap.size) (fun g h => h.elim (fun x => x.elim) id)
 replace hO10 := hO10.tight
 have hl_hO10 := Ya Yt (by decide) hO10.sl
 have hc_hO10 := hO10.sl.cap.1
 refine Qs 3 rfl (Za (Zl (Qs 1 rfl (Zf (Yf rfl rfl (show IntKind.i64.wrap (0 + 1) = 1 by decide)) (Qs 1 rfl (Za (ZX (Sm (Qs 1 rfl (Zf (v := .bool true) (YL (a := 1) (b := 3) rfl rfl) (Za (Ct (Zi (Zz (Zs (Sn (Qs 3 rfl (Zf (Z0 (len := 3) (i' := 1) (o' := 1) underlying54 sizeOf3 rfl rfl (by omega) (by omega) (by omega)) ?_))))))))))))))))))
 replace hb1 := ((hb1.Zc hU8).Zc hU9).Zc hU10
 refine Zk isAgg3 rfl hb1 rfl ?_
 replace hs := ((hs.Zc hU8).Zc hU9).Zc hU10
 refine Zj (Z5 rfl call29 rfl rfl rfl) (wbys _ hs hb (by omega) (by omega)) ?_
 rintro v w11 ⟨a11, m11, c11, z11, qz11, e11, rfl, hB11, hz_11, hm9_11, hq_11, hq2_11, he_11, hU11⟩
 have:=hU11.size
 have hl_hB11 := ZC hB11
 have hc_hB11 := hB11.cap.1
 refine Qs 7 rfl (Za (Sm (Qs 2 rfl (Za ?_))))
 replace HU := ((HU.Zb hU9).Zb hU10).Zb hU11
 refine W_if rfl (fun q5 => ?_) fun q5 => ?_
 ·exact Sn (Qs 3 rfl (Za (Zn (Zg rfl (Z2 results147 rfl rfl) ⟨_, rfl, none, 0, 0, [], e11, rfl, Own.nil _ _ _ _, Pcs.nil _ _ _ _, (fun h => absurd h q5), HU⟩))))
 refine Zi (Zl (Qs 2 rfl (Xz [.slice a11 m11 c11] underlying171 sizeOf22 zeroValue22 ?_)))
 intro B12 w12 hB12 hU12 hzz12 hs12
 replace hs12 : Own w12 (Is B12) 22 1 (.slice (some ⟨B12, 0, none⟩) 1 1) 1 (rows encA [(a11, m11, c11)]) := hs12
 replace hO10 := (hO10.Zc hU11).Zc hU12
 refine Ye (cs3 := rows encA ([(a8, m8, c8)] ++ [(a11, m11, c11)])) (tot := 2) (by first | rfl | exact (ZR _ _).symm | simp) underlying171 (ti := Tryz.t22) (z := .slice none 0 0) (sz := 1) (by' := 24) rfl rfl rfl rfl rfl (by decide) rfl hO10 rfl hs12.sl (Yn encA_one _) (by omega) (by simp only [maxLen]; omega) (by omega) ?_
 intro a13 c13 w13 hU13 hzz13 hO13
 replace hB8 := (((hB8.Zc hU9).Zc hU10).Zc hU11).Zc hU12
 replace hs := (hs.Zc hU11).Zc hU12
 replace hb1 := (hb1.Zc hU11).Zc hU12
 replace HU := HU.Zb hU12
 replace hB11 := hB11.Zc hU12
 clear hO10
 have:=hU13.size
 replace hO13 := hO13.tight
 have hl_hO13 := Ya Yt (by decide) hO13.sl
 have hc_hO13 := hO13.sl.cap.1
 refine Qs 3 rfl (Za (Zl (Qs 1 rfl (Zf (Yf rfl rfl (show IntKind.i64.wrap (1 + 1) = 2 by decide)) (Qs 1 rfl (Za (ZX (Sm (Qs 1 rfl (Zf (v := .bool true) (YL (a := 2) (b := 3) rfl rfl) (Za (Ct (Zi (Zz (Zs (Sn (Qs 3 rfl (Zf (Z0 (len := 3) (i' := 2) (o' := 2) underlying54 sizeOf3 rfl rfl (by omega) (by omega) (by omega)) (Zk isAgg3 rfl (hb1.upd hU13) rfl ?_)))))))))))))))))))
 replace hs := hs.upd hU13
 refine Zj (Z5 rfl call29 rfl rfl rfl) (wbys _ hs hb (by omega) (by omega)) ?_
 rintro v w14 ⟨a14, m14, c14, z14, qz14, e14, rfl, hB14, hz_14, hm9_14, hq_14, hq2_14, he_14, hU14⟩
 have:=hU14.size
 have hl_hB14 := ZC hB14
 have hc_hB14 := hB14.cap.1
 refine Qs 7 rfl (Za (Sm (Qs 2 rfl (Za ?_))))
 replace HU := (HU.trans hU13).Zb hU14
 refine W_if rfl (fun q6 => ?_) fun q6 => ?_
 ·exact Sn (Qs 3 rfl (Za (Zn (Zg rfl (Z2 results147 rfl rfl) ⟨_, rfl, none, 0, 0, [], e14, rfl, Own.nil _ _ _ _, Pcs.nil _ _ _ _, (fun h => absurd h q6), HU⟩))))
 refine Zi (Zl (Qs 2 rfl (Xz [.slice a14 m14 c14] underlying171 sizeOf22 zeroValue22 ?_)))
 intro B15 w15 hB15 hU15 hzz15 hs15
 replace hs15 : Own w15 (Is B15) 22 1 (.slice (some ⟨B15, 0, none⟩) 1 1) 1 (rows encA [(a14, m14, c14)]) := hs15
 replace hO13 := (hO13.Zc hU14).Zc hU15
 refine Ye (cs3 := rows encA ([(a8, m8, c8)] ++ [(a11, m11, c11)] ++ [(a14, m14, c14)])) (tot := 3) (by first | rfl | exact (ZR _ _).symm | simp) underlying171 (ti := Tryz.t22) (z := .slice none 0 0) (sz := 1) (by' := 24) rfl rfl rfl rfl rfl (by decide) rfl hO13 rfl hs15.sl (Yn encA_one _) (by omega) (by simp only [maxLen]; omega) (by omega) ?_
 intro a16 c16 w16 hU16 hzz16 hO16
 replace hB8 := ((hB8.upd hU13).Zc hU14).Zc hU15
 replace hB11 := ((hB11.upd hU13).Zc hU14).Zc hU15
 replace hs := (hs.Zc hU14).Zc hU15
 replace HU := HU.Zb hU15
 replace hB14 := hB14.Zc hU15
 clear hO13
 have:=hU16.size
 replace hO16 := hO16.tight
 have hl_hO16 := Ya Yt (by decide) hO16.sl
 have hc_hO16 := hO16.sl.cap.1
 refine Qs 3 rfl (Za (Zl (Qs 1 rfl (Zf (Yf rfl rfl (show IntKind.i64.wrap (2 + 1) = 3 by decide)) (Qs 1 rfl (Za (ZX (Sm (Qs 1 rfl (Zf (v := .bool false) (YL (a := 3) (b := 3) rfl rfl) (Za (Cf (ZI (Sn (Qs 3 rfl (Zf (Ym (l' := qz14) (n' := n - qz14) underlying22 sizeOf5 rfl rfl (by omega) (by omega) (by omega)) ?_))))))))))))))))
 have hT17 := Sl.cutl (l := qz14) (n := n - qz14) (hs.upd hU16) (by omega) (by omega)
 have hl_hT17 := ZC hT17
 have hc_hT17 := hT17.cap.1
 refine Xz [.slice (if c = qz14 then a else a.map (·.add (qz14 * 1))) (n - qz14) (c - qz14)] underlying171 sizeOf22 zeroValue22 ?_
 intro B18 w18 hB18 hU18 hzz18 hs18
 replace hs18 : Own w18 (Is B18) 22 1 (.slice (some ⟨B18, 0, none⟩) 1 1) 1 (rows encA [((if c = qz14 then a else a.map (·.add (qz14 * 1))), n - qz14, c - qz14)]) := hs18
 replace hO16 := hO16.Zc hU18
 refine Ye (cs3 := rows encA ([(a8, m8, c8)] ++ [(a11, m11, c11)] ++ [(a14, m14, c14)] ++ [((if c = qz14 then a else a.map (·.add (qz14 * 1))), n - qz14, c - qz14)])) (tot := 4) (by first | rfl | exact (ZR _ _).symm | simp) underlying171 (ti := Tryz.t22) (z := .slice none 0 0) (sz := 1) (by' := 24) rfl rfl rfl rfl rfl (by decide) rfl hO16 rfl hs18.sl (Yn encA_one _) (by omega) (by simp only [maxLen]; omega) (by omega) ?_
 intro a19 c19 w19 hU19 hzz19 hO19
 replace HU := (HU.trans hU16).Zb hU18
 replace hB8 := (hB8.upd hU16).Zc hU18
 replace hB11 := (hB11.upd hU16).Zc hU18
 replace hB14 := (hB14.upd hU16).Zc hU18
 replace hT17 := hT17.Zc hU18
 clear hO16
 have:=hU19.size
 replace hO19 := hO19.tight
 have hl_hO19 := Ya Yt (by decide) hO19.sl
 have hc_hO19 := hO19.sl.cap.1
 exact Qs 2 rfl (Za (Zn (Zg rfl (Z2 results147 rfl rfl) ⟨_, rfl, a19, 4, c19, _, 0, rfl, hO19.weak, ((((Pcs.one (Pc.of (hi := w19.heap.size) (go := w19.heap.size) (hB8.upd hU19) hz_8 (by omega) (by intro g hg; have h3 : g < w.heap.size := hg; omega))).snoc (Pc.of (hi := w19.heap.size) (go := w19.heap.size) (hB11.upd hU19) hz_11 (by omega) (by intro g hg; have h3 : g < w.heap.size := hg; omega))).snoc (Pc.of (hi := w19.heap.size) (go := w19.heap.size) (hB14.upd hU19) hz_14 (by omega) (by intro g hg; have h3 : g < w.heap.size := hg; omega))).snoc (Pc.of (hi := w19.heap.size) (go := w19.heap.size) (hT17.upd hU19) (ZL hb _) (by omega) (by intro g hg; have h3 : g < w.heap.size := hg; omega))), (fun _ => rfl), (HU.trans hU19)⟩)))
theorem weach18 {a2 a : Option Addr} {n2 c2 n c k : Nat} {l b : List Int} (w : World) (hs2 : Sl w (fun g => g < w.heap.size) 1 (.slice a2 n2 c2) n2 (ints .i64 l)) (hn2 : n2 ≤ 100000000) (hs : Sl w (fun g => g < w.heap.size) 1 (.slice a n c) n (ints .u8 b)) (hb : Byt b) (hn : n ≤ 1000000) (hk : k ≤ 131072) :
  Calls Tryz.prog 126 #[.slice a2 n2 c2, .slice a n c, .int .i64 k] w (Ret fun v w' => ∃ (a' : Option Addr) (m' : Nat) (c' : Nat) (vs : List AV) (e : Int), v = .tuple #[.slice a' m' c', .int .i64 e] ∧ Own w' (fun g => w.heap.size ≤ g) 22 1 (.slice a' m' c') m' (rows encA vs) ∧ Pcs w' 8000000 w'.heap.size w'.heap.size vs ∧ (e = 0 → m' = 4) ∧ Upd No w w') := by
 have HU := Upd.Yo w
 have hl_hs2 := ZC hs2
 have hc_hs2 := hs2.cap.1
 have hl_hs := ZC hs
 have hc_hs := hs.cap.1
 refine Zq func126 rfl ntmps126 (by simp) (Sn (Qs 2 rfl (Za (Sm (Qs 1 rfl (Zj (Zv rfl call26 rfl) (wright _ hs2.any (by omega)) ?_))))))
 rintro v w1 ⟨r1, rfl, hr_1, hU1⟩
 have:=hU1.size
 refine Zf (YX rfl) (Za ?_)
 replace HU := HU.Zb hU1
 by_cases q1 : r1 = true
 ·rw [decide_eq_true q1]
  simp only [Bool.not_true, Bool.not_false]
  refine Cf (Zi (Sn (Qs 1 rfl (Zj (Zv rfl call146 rfl) (wparts18 _ (by omega)) ?_))))
  rintro v w2 ⟨a2x, m2, c2x, xs2, e2, rfl, hO2, hm9_2, hU2⟩
  have:=hU2.size
  replace hO2 := hO2.tight
  have hl_hO2 := ZC hO2.sl
  have hc_hO2 := hO2.sl.cap.1
  refine Qs 5 rfl (Za (Sm (Qs 2 rfl (Za ?_))))
  replace HU := HU.Zb hU2
  by_cases q2 : e2 ≠ 0
  ·rw [decide_eq_true q2]
   exact Ct (Sn (Qs 3 rfl (Za (Zn (Zg rfl (Z2 results126 rfl rfl) ⟨_, rfl, none, 0, 0, [], e2, rfl, Own.nil _ _ _ _, Pcs.nil _ _ _ _, (fun h => absurd h q2), HU⟩)))))
  have hmm2 := hm9_2 (Classical.not_not.1 q2)
  rw [decide_eq_false q2]
  refine Cf (Zi (Sn (Qs 1 rfl (Zj (Zv rfl call147 rfl) (wstreams _ ((hs.Zc hU1).Zc hU2).any hb (by omega)) ?_))))
  rintro v w3 ⟨a3, m3, c3, vs3, e3, rfl, hO3, hP3, hm9_3, hU3⟩
  have:=hU3.size
  replace hO3 := hO3.tight
  have hl_hO3 := Ya Yt (by decide) hO3.sl
  have hc_hO3 := hO3.sl.cap.1
  refine Qs 5 rfl (Za (Sm (Qs 2 rfl (Za ?_))))
  replace HU := HU.Zb hU3
  by_cases q3 : e3 ≠ 0
  ·rw [decide_eq_true q3]
   exact Ct (Sn (Qs 3 rfl (Za (Zn (Zg rfl (Z2 results126 rfl rfl) ⟨_, rfl, none, 0, 0, [], e3, rfl, Own.nil _ _ _ _, Pcs.nil _ _ _ _, (fun h => absurd h q3), HU⟩)))))
  have hmm3 := hm9_3 (Classical.not_not.1 q3)
  rw [decide_eq_false q3]
  refine Cf (Zi (Sn (Qs 1 rfl (Za (Sm (Qs 1 rfl (Za (Zs (ZS (fun mu ρ ds w' => ∃ (i : Nat) (vs : List AV) (a1 : Option Addr) (c1 : Nat) (go : Nat), 4 - i = mu ∧ ds = [] ∧ Liv ρ [(0, .slice a2 n2 c2), (8, .slice a2x m2 c2x), (10, .slice a3 m3 c3), (11, .slice a1 i c1), (12, .int .i64 i)] ∧ i ≤ 4 ∧ Own w' (fun g => g = go ∧ 0 < i ∧ w3.heap.size ≤ g) 22 1 (.slice a1 i c1) i (rows encA vs) ∧ Pcs w' 8000000 w'.heap.size go vs ∧ Upd (fun g => w3.heap.size ≤ g) w3 w') _ ⟨0, [], none, 0, 0, rfl, rfl, ⟨rfl, rfl, rfl, (by first | rfl | exact Zt (by omega) | exact Zt (by simp)), (by first | rfl | exact Zt (by omega) | exact Zt (by simp)), trivial⟩, (by omega), (by exact Own.nil _ _ _ _), (Pcs.nil _ _ _ _), Upd.refl _ _⟩ ?_)))))))))
  rintro m4 ρ4 ds4 w4 ⟨i, vs, a1, c1, go, rfl, rfl, hl4, hi, hO, hP, hU4⟩
  obtain ⟨ρ4x, rfl⟩ : ∃ ρx, ρ4 = upds ρx [(0, .slice a2 n2 c2), (8, .slice a2x m2 c2x), (10, .slice a3 m3 c3), (11, .slice a1 i c1), (12, .int .i64 i)] := ⟨_, ZD hl4⟩
  replace hs2 := ((hs2.Zc hU1).Zc hU2).Zc hU3
  replace hO2 := hO2.Zc hU3
  clear hl4
  have:=hU4.size
  replace hO := hO.tight
  have hl_hO := Ya Yt (by decide) hO.sl
  have hc_hO := hO.sl.cap.1
  have HL4 := hU4
  refine Sm (Qs 2 rfl (Za ?_))
  replace HU := HU.trans hU4
  refine W_if rfl (fun q4 => ?_) fun q4 => ?_
  ·refine Zi (Zz (Zs (Zz (ZJ rfl (l0 := tf 0 15) (by kernel_rfl) (Tq rfl (Tq rfl (Tq rfl ?_)))))))
   obtain ⟨ib5, io5, ha5, hib5, hc5⟩ := Sl.rat (none, 0, 0) Yt (by decide) ((hO3.upd hU4).sl) (i := i) (by omega)
   obtain ⟨pb6, hpS6, hpB6, hpL6⟩ := (hP3.upd hU4).get (i := i) (by omega)
   have hl_hpS6 := ZC hpS6
   have hc_hpS6 := hpS6.cap.1
   refine Tv rfl (fun _ _ => Yl (b := ib5) (off := io5) (m := m3) (c := c3) (o' := io5 + i * 1) underlying171 sizeOf22 (by rw [← ha5]; rfl) rfl (by omega) (by omega) (by omega)) (Tv rfl (v := .slice ((vs3.getD i (none, 0, 0)).1) ((vs3.getD i (none, 0, 0)).2.1) ((vs3.getD i (none, 0, 0)).2.2)) (fun w' hw' => Yd (v := .slice ((vs3.getD i (none, 0, 0)).1) ((vs3.getD i (none, 0, 0)).2.1) ((vs3.getD i (none, 0, 0)).2.2)) isAgg22 rfl (hw'.Y8 (hc5 0 (by decide)))) (Tq rfl (Tq rfl ?_)))
   obtain ⟨ib7, io7, ha7, hib7, hc7⟩ := ((hO2.upd hU4).sl).iat (i := i) (by omega)
   replace hib7 : ((w1.heap.size ≤ ib7) ∧ ib7 < w2.heap.size) := hib7
   refine Tv rfl (fun _ _ => Yl (b := ib7) (off := io7) (m := m2) (c := c2x) (o' := io7 + i) underlying51 sizeOf3 (by rw [← ha7]; rfl) rfl (by omega) (by omega) (by omega)) (Tv rfl (v := .int .i64 (xs2.getD i 0)) (fun w' hw' => Yd isAgg3 rfl (hw'.Y8 hc7)) ?_)
   intro w8 hU8
   have:=hU8.size
   replace hc7 := ZG hU8 hc7
   refine Wo 9 (tf 10 15) rfl ?_
   have hW : Upd No w4 w8 := hU8
   refine Zj (Z5 rfl call105 rfl rfl rfl) (wdec17 _ ((hs2.upd hU4).Zc hU8).any (by omega) (hpS6.Zc hU8).any hpB6 (by omega)) ?_
   rintro v w9 ⟨a9, m9, c9, xs9, e9, rfl, hO9, hby_9, hm8_9, hm9_9, hU9⟩
   have:=hU9.size
   replace hc7 := ZG hU9 hc7
   try replace hW := hW.Zb hU9
   replace hO9 := hO9.tight
   have hl_hO9 := ZC hO9.sl
   have hc_hO9 := hO9.sl.cap.1
   refine Za ?_
   intro w10 hS10
   refine bT (Upd No w10) ?_
   have hU10 := hS10.upd
   have:=hU10.size
   replace hc7 := ZG hU10 hc7
   try replace hW := hW.Zb hU10
   refine ZQ (Upd.refl _ _) (Tq rfl (Tq rfl (Tq rfl (Tq rfl (Tq rfl ?_)))))
   intro w11 hU11
   have:=hU11.size
   replace hc7 := ZG hU11 hc7
   try replace hW := hW.Zb hU11
   refine Wd (Sm (Qs 2 rfl (Za ?_)))
   replace hO := (((hO.Zc hU8).Zc hU9).Zc hU10).Zc hU11
   replace hP := (((hP.Zc hU8).Zc hU9).Zc hU10).Zc hU11
   refine W_if rfl (fun q5 => ?_) fun q5 => ?_
   ·exact Sn (Qs 4 rfl (Za (Zn (Zg rfl (Z2 results126 rfl rfl) ⟨_, rfl, a1, i, c1, vs, e9, rfl, hO.weak, (hP.wide (by omega) (.inr (by omega))), (fun h => absurd h q5), ((((HU.Zb hU8).Zb hU9).Zb hU10).Zb hU11)⟩))))
   refine Zi (Zl (Qs 2 rfl (Xz [.slice a9 m9 c9] underlying171 sizeOf22 zeroValue22 ?_)))
   intro B12 w12 hB12 hU12 hzz12 hs12
   replace hc7 := ZG hU12 hc7
   try replace hW := hW.Zb hU12
   replace hs12 : Own w12 (Is B12) 22 1 (.slice (some ⟨B12, 0, none⟩) 1 1) 1 (rows encA [(a9, m9, c9)]) := hs12
   replace hO := hO.Zc hU12
   refine Ye (cs3 := rows encA (vs ++ [(a9, m9, c9)])) (tot := i + 1) (by first | rfl | exact (ZR _ _).symm | simp) underlying171 (ti := Tryz.t22) (z := .slice none 0 0) (sz := 1) (by' := 24) rfl rfl rfl rfl rfl (by decide) rfl hO rfl hs12.sl (Yn encA_one _) (by omega) (by simp only [maxLen]; omega) (by omega) ?_
   intro a13 c13 w13 hU13 hzz13 hO13
   replace HU := (((HU.Zb hU8).Zb hU9).Zb hU10).Zb hU11
   replace HL4 := ((((HL4.Zb hU8).Zb hU9).Zb hU10).Zb hU11).Zb hU12
   replace hO9 := ((hO9.Zc hU10).Zc hU11).Zc hU12
   replace hP := hP.Zc hU12
   clear hO
   have:=hU13.size
   replace hO13 := hO13.tight
   have hl_hO13 := Ya Yt (by decide) hO13.sl
   have hc_hO13 := hO13.sl.cap.1
   obtain ⟨go14, hgo14, hOo14⟩ := hO13.one (by omega)
   replace hgo14 : ((((((go14 = go ∧ 0 < i ∧ w3.heap.size ≤ go14) ∧ go14 < w4.heap.size)) ∨ go14 = w12.heap.size)) ∧ go14 < w13.heap.size) := hgo14
   replace hP := hP.upd hU13
   replace HL4 := HL4.trans hU13
   replace hO9 := hO9.upd hU13
   clear hO13
   refine Qs 1 rfl (Za (Zl (Qs 1 rfl (Xd rfl rfl (Qs 1 rfl (Za ?_))))))
   have hPn : Pcs w13 8000000 (w13.heap.size) go14 (vs ++ [(a9, m9, c9)]) := Pcs.snoc (hP.wide (by omega) (by omega)) (Pc.of (hi := w13.heap.size) (go := go14) hO9.sl hby_9 (by omega) (by intro g hg; have h3 : ((w8.heap.size ≤ g) ∧ g < w9.heap.size) := hg; omega))
   refine ⟨_, ?_, (i + 1), (vs ++ [(a9, m9, c9)]), a13, c13, go14, rfl, rfl, ⟨rfl, rfl, rfl, rfl, Zt, trivial⟩, (by omega), ((hOo14.tight).weak), hPn, HL4⟩
   omega
  exact ZI (Sn (Qs 3 rfl (Za (Zn (Zg rfl (Z2 results126 rfl rfl) ⟨_, rfl, a1, i, c1, vs, 0, rfl, hO.weak, (hP.wide (by omega) (.inr (by omega))), (fun _ => by omega), HU⟩)))))
 rw [decide_eq_false q1]
 simp only [Bool.not_true, Bool.not_false]
 exact Ct (Sn (Qs 2 rfl (Za (Zn (Zg rfl (Z2 results126 rfl rfl) ⟨_, rfl, none, 0, 0, [], 12, rfl, Own.nil _ _ _ _, Pcs.nil _ _ _ _, (fun h => absurd h (by decide)), HU⟩)))))
theorem wdec18 {a2 a : Option Addr} {n2 c2 n c k : Nat} {l b : List Int} (w : World) (hs2 : Sl w (fun g => g < w.heap.size) 1 (.slice a2 n2 c2) n2 (ints .i64 l)) (hn2 : n2 ≤ 100000000) (hs : Sl w (fun g => g < w.heap.size) 1 (.slice a n c) n (ints .u8 b)) (hb : Byt b) (hn : n ≤ 1000000) (hk : k ≤ 131072) :
  Calls Tryz.prog 106 #[.slice a2 n2 c2, .slice a n c, .int .i64 k] w (Ret fun v w' => ∃ (a' : Option Addr) (m' : Nat) (c' : Nat) (xs : List Int) (e : Int), v = .tuple #[.slice a' m' c', .int .i64 e] ∧ Own w' (fun g => w.heap.size ≤ g) 5 1 (.slice a' m' c') m' (ints .u8 xs) ∧ Byt xs ∧ m' ≤ 40000000 ∧ Upd No w w') := by
 have HU := Upd.Yo w
 have hl_hs2 := ZC hs2
 have hc_hs2 := hs2.cap.1
 have hl_hs := ZC hs
 have hc_hs := hs.cap.1
 refine Zq func106 rfl ntmps106 (by simp) (Sn (Qs 2 rfl (Za (Sn (Qs 3 rfl (Zj (Z5 rfl call126 rfl rfl rfl) (weach18 _ hs2.any (by omega) hs.any hb (by omega) (by omega)) ?_))))))
 rintro v w1 ⟨a1, m1, c1, vs1, e1, rfl, hO1, hP1, hm9_1, hU1⟩
 have:=hU1.size
 replace hO1 := hO1.tight
 have hl_hO1 := Ya Yt (by decide) hO1.sl
 have hc_hO1 := hO1.sl.cap.1
 refine Qs 5 rfl (Za (Sm (Qs 2 rfl (Za ?_))))
 replace HU := HU.Zb hU1
 by_cases q1 : e1 ≠ 0
 ·rw [decide_eq_true q1]
  exact Ct (Sn (Qs 3 rfl (Za (Zn (Zg rfl (Z2 results106 rfl rfl) ⟨_, rfl, none, 0, 0, [], e1, rfl, Own.nil _ _ _ _, ZO, (by omega), HU⟩)))))
 have hmm1 := hm9_1 (Classical.not_not.1 q1)
 rw [decide_eq_false q1]
 refine Cf (Zi (Sn (Qs 1 rfl (Za (Sm (Qs 1 rfl (Za (Zs (ZS (fun mu ρ ds w' => ∃ (i : Nat) (q9 : Nat) (xs : List Int) (a9 : Option Addr) (c9 : Nat), 4 - i = mu ∧ ds = [] ∧ Liv ρ [(8, .slice a1 m1 c1), (10, .slice a9 q9 c9), (11, .int .i64 i)] ∧ i ≤ 4 ∧ q9 ≤ i * 8000000 ∧ Byt xs ∧ Own w' (fun g => w1.heap.size ≤ g) 5 1 (.slice a9 q9 c9) q9 (ints .u8 xs) ∧ Upd (fun g => w1.heap.size ≤ g) w1 w') _ ⟨0, 0, [], none, 0, rfl, rfl, ⟨rfl, (by first | rfl | exact Zt (by omega) | exact Zt (by simp)), (by first | rfl | exact Zt (by omega) | exact Zt (by simp)), trivial⟩, (by omega), (by omega), ZO, (by exact Own.nil _ _ _ _), Upd.refl _ _⟩ ?_)))))))))
 rintro m2 ρ2 ds2 w2 ⟨i, q9, xs, a9, c9, rfl, rfl, hl2, hi, hq9, hby, hO, hU2⟩
 obtain ⟨ρ2x, rfl⟩ : ∃ ρx, ρ2 = upds ρx [(8, .slice a1 m1 c1), (10, .slice a9 q9 c9), (11, .int .i64 i)] := ⟨_, ZD hl2⟩
 clear hl2
 have:=hU2.size
 replace hO := hO.tight
 have hl_hO := ZC hO.sl
 have hc_hO := hO.sl.cap.1
 have HL2 := hU2
 refine Sm (Qs 2 rfl (Za (W_if rfl (fun q2 => ?_) fun q2 => ?_)))
 ·refine Zi (Zz (Zs (Zl (Qs 3 rfl (Yg (none, 0, 0) Yt (by decide) underlying171 sizeOf22 rfl rfl (hO1.upd hU2).sl (by omega) (by omega) ?_)))))
  intro ib3 io3 hc3
  try rw [Int.toNat_natCast] at hc3
  obtain ⟨pb4, hpS4, hpB4, hpL4⟩ := (hP1.upd hU2).get (i := i) (by omega)
  have hl_hpS4 := ZC hpS4
  have hc_hpS4 := hpS4.cap.1
  refine ZH (v := .slice ((vs1.getD i (none, 0, 0)).1) ((vs1.getD i (none, 0, 0)).2.1) ((vs1.getD i (none, 0, 0)).2.2)) isAgg22 rfl (hc3 0 (by decide)) (Z1 (xs := xs) (ys := pb4) (zs := xs ++ pb4) (k' := .u8) (tot := q9 + ((vs1.getD i (none, 0, 0)).2.1)) (by first | rfl | exact (ZR _ _).symm | simp) underlying22 (ti := Tryz.t5) (z := .int .u8 0) (sz := 1) (by' := 1) rfl rfl rfl rfl rfl (by decide) rfl hO rfl hpS4  (by omega) (by simp only [maxLen]; omega) (by omega) ?_)
  intro a5 c5 w5 hU5 hzz5 hO5
  replace HU := HU.trans hU2
  clear hO
  have:=hU5.size
  replace hO5 := hO5.tight
  have hl_hO5 := ZC hO5.sl
  have hc_hO5 := hO5.sl.cap.1
  refine Qs 1 rfl (Za (Zl (Qs 1 rfl (Xd rfl rfl (Qs 1 rfl (Za ?_))))))
  refine ⟨_, ?_, (i + 1), (q9 + ((vs1.getD i (none, 0, 0)).2.1)), (xs ++ pb4), a5, c5, rfl, rfl, ⟨rfl, rfl, Zt, trivial⟩, (by omega), (by omega), (Yq hby hpB4), hO5.weak, (HL2.trans hU5)⟩
  omega
 exact ZI (Sn (Qs 3 rfl (Za (Zn (Zg rfl (Z2 results106 rfl rfl) ⟨_, rfl, a9, q9, c9, xs, 0, rfl, hO.weak, hby, (by omega), (HU.trans hU2)⟩)))))
theorem whead19 {a : Option Addr} {n c p : Nat} {b : List Int} (w : World) (hs : Sl w (fun g => g < w.heap.size) 1 (.slice a n c) n (ints .u8 b)) (hb : Byt b) (hp : p ≤ n) (hn : n ≤ 1000000) :
  Calls Tryz.prog 102 #[.slice a n c, .int .i64 p] w (Ret fun v w' => ∃ (kd : Int) (fr : Bool) (sz : Nat) (qz : Nat) (e : Int), v = .tuple #[.agg #[.int .i64 kd, .bool (decide (fr = true)), .int .i64 sz], .int .i64 qz, .int .i64 e] ∧ sz ≤ 131072 ∧ p ≤ qz ∧ qz ≤ n ∧ Upd No w w') := by
 have HU := Upd.Yo w
 have hl_hs := ZC hs
 have hc_hs := hs.cap.1
 have hbg := Yi hb p
 refine Zq func102 rfl ntmps102 (by simp) (Sn (ZB zeroValue184 rfl ?_))
 intro B1 w1 hB1 hU1 hzz1 hb1
 refine Qs 2 rfl (Za (Sn (Zf (ZF (pl := #[(0, 1), (1, 1), (2, 1)]) (pv := []) (cs := #[.int .i64 0, .bool false, .int .i64 0]) zeroValue184 underlying184 (fun w => by kernel_rfl)) (ZB zeroValue184 rfl ?_))))
 intro B2 w2 hB2 hU2 hzz2 hb2
 refine Xa sizeOf184 rfl rfl rfl rfl hb2 rfl ?_
 intro w3 hU3 hzz3 hb2
 refine Za (Sm (Qs 2 rfl (Zf (ZM underlying22 rfl) (Qs 1 rfl (Za ?_)))))
 replace HU := ((HU.Zb hU1).Zb hU2).t1 hU3
 replace hb1 := (hb1.Zc hU2).Zh hU3
 refine W_if rfl (fun q1 => ?_) fun q1 => ?_
 ·refine Sn (Xl isAgg184 sizeOf184 rfl hb2 rfl (Qs 1 rfl (Xa sizeOf184 rfl rfl rfl rfl hb1 rfl ?_)))
  intro w4 hU4 hzz4 hb1
  exact Qs 2 rfl (Za (Zn (Zg rfl (Yb results102 rfl rfl rfl (Zu isAgg184 sizeOf184 rfl hb1)) ⟨_, rfl, 0, false, 0, p, 3, rfl, (by omega), (by omega), (by omega), (HU.t1 hU4)⟩)))
 refine Zi (Sn (Qs 2 rfl ?_))
 replace hs := ((hs.Zc hU1).Zc hU2).Zh hU3
 refine Z7 underlying22 sizeOf5 rfl rfl hs (by omega) (by omega) ?_
 intro ib5 io5 hc5
 rw [Int.toNat_natCast] at hc5
 refine ZH isAgg5 rfl hc5 (Qs 1 rfl (Za (Sn (Qs 1 rfl (Zf (YW rfl rfl (by omega) (tr (by omega))) (Zf (ZZ underlying5 underlying182 rfl ZY) (Qs 1 rfl (Zf (YT rfl rfl (by omega) (tq (by omega) (wu8 (by omega) (by omega)))) (Zf (YW rfl rfl (by omega) (tr (by omega))) (Qs 1 rfl (Zf (ZF (pl := #[(0, 1), (1, 1), (2, 1)]) (pv := [(0, .int .i64 ((b.getD p 0) % 4)), (1, .bool (decide ((((b.getD p 0) / 4) % 2) = 1)))]) (cs := #[.int .i64 ((b.getD p 0) % 4), .bool (decide ((((b.getD p 0) / 4) % 2) = 1)), .int .i64 0]) zeroValue184 underlying184 (fun w => by kernel_rfl)) (ZB zeroValue184 rfl ?_))))))))))))
 intro B6 w6 hB6 hU6 hzz6 hb6
 refine Xa sizeOf184 rfl rfl rfl rfl hb6 rfl ?_
 intro w7 hU7 hzz7 hb6
 refine Za (Sm (Qs 3 rfl ?_))
 replace HU := (HU.Zb hU6).t1 hU7
 replace hb1 := (hb1.Zc hU6).Zh hU7
 replace hb2 := (hb2.Zc hU6).Zh hU7
 by_cases q2 : 7 < (b.getD p 0)
 ·rw [decide_eq_true q2]
  refine Gf (Gf (Gf (Z6 rfl (Z6 rfl (Z6 rfl (Gf (Zf (Zx (v := .bool true) rfl rfl) (Za (Ct (Sn (Xl isAgg184 sizeOf184 rfl hb2 rfl (Qs 1 rfl (Xa sizeOf184 rfl rfl rfl rfl hb1 rfl ?_)))))))))))))
  intro w8 hU8 hzz8 hb1
  exact Qs 2 rfl (Za (Zn (Zg rfl (Yb results102 rfl rfl rfl (Zu isAgg184 sizeOf184 rfl hb1)) ⟨_, rfl, 0, false, 0, p, 11, rfl, (by omega), (by omega), (by omega), (HU.t1 hU8)⟩)))
 rw [decide_eq_false q2]
 refine Gt (Zf (Zo underlying184 rfl sizeOf4 rfl rfl) (Gt (Zk isAgg4 rfl hb6 rfl (Gt (Qs 1 rfl ?_)))))
 replace hs := (hs.Zc hU6).Zh hU7
 by_cases q3 : (((b.getD p 0) / 4) % 2) = 1
 ·rw [decide_eq_true q3]
  refine Gt (Qs 1 rfl (Gt (Zf (YW rfl rfl (by omega) (tr (by omega))) (Gt (Qs 1 rfl (Gt (Zf (Zx (v := .bool (decide (((b.getD p 0) % 4) < 2))) rfl rfl) (Zf (Zw (v := .bool (decide (((b.getD p 0) % 4) < 2))) rfl rfl) (Za (W_if rfl (fun q4 => ?_) fun q4 => ?_))))))))))
  ·refine Sn (Xl isAgg184 sizeOf184 rfl hb2 rfl (Qs 1 rfl (Xa sizeOf184 rfl rfl rfl rfl hb1 rfl ?_)))
   intro w9 hU9 hzz9 hb1
   exact Qs 2 rfl (Za (Zn (Zg rfl (Yb results102 rfl rfl rfl (Zu isAgg184 sizeOf184 rfl hb1)) ⟨_, rfl, 0, false, 0, p, 11, rfl, (by omega), (by omega), (by omega), (HU.t1 hU9)⟩)))
  refine Zi (Sn (Qs 2 rfl (Xd rfl rfl (Zj (Zy rfl call55 (v1 := .int .i64 ((p + 1 : Nat) : Int)) rfl Zt) (wvar _ hs.any hb (by omega) (by omega)) ?_))))
  rintro v w10 ⟨xz10, qz10, e10, rfl, hx_10, hq_10, hq2_10, hU10⟩
  have:=hU10.size
  refine Qs 7 rfl (Za (Sm (Qs 2 rfl (Za ?_))))
  replace HU := HU.Zb hU10
  replace hb1 := hb1.Zc hU10
  replace hb2 := hb2.Zc hU10
  refine W_if rfl (fun q5 => ?_) fun q5 => ?_
  ·refine Sn (Xl isAgg184 sizeOf184 rfl hb2 rfl (Qs 2 rfl (Xa sizeOf184 rfl rfl rfl rfl hb1 rfl ?_)))
   intro w11 hU11 hzz11 hb1
   exact Qs 2 rfl (Za (Zn (Zg rfl (Yb results102 rfl rfl rfl (Zu isAgg184 sizeOf184 rfl hb1)) ⟨_, rfl, 0, false, 0, p, e10, rfl, (by omega), (by omega), (by omega), (HU.t1 hU11)⟩)))
  refine Zi (Sm (Qs 3 rfl ?_))
  by_cases q6 : 131072 < (xz10 : Int)
  ·rw [decide_eq_true q6]
   refine Gf (Gf (Gf (Z6 rfl (Z6 rfl (Z6 rfl (Gf (Zf (Zx (v := .bool true) rfl rfl) (Za (Ct (Sn (Xl isAgg184 sizeOf184 rfl hb2 rfl (Qs 1 rfl (Xa sizeOf184 rfl rfl rfl rfl hb1 rfl ?_)))))))))))))
   intro w12 hU12 hzz12 hb1
   exact Qs 2 rfl (Za (Zn (Zg rfl (Yb results102 rfl rfl rfl (Zu isAgg184 sizeOf184 rfl hb1)) ⟨_, rfl, 0, false, 0, p, 11, rfl, (by omega), (by omega), (by omega), (HU.t1 hU12)⟩)))
  rw [decide_eq_false q6]
  refine Gt (Qs 1 rfl (Gt (Qs 1 rfl (Gt (Qs 1 rfl ?_)))))
  replace hb6 := hb6.Zc hU10
  by_cases q7 : (xz10 : Int) = 0
  ·rw [decide_eq_true q7]
   refine Gt (Qs 1 rfl (Gt (Zf (YW rfl rfl (by omega) (tr (by omega))) (Gt (Qs 1 rfl (Gt (Zf (Zx (v := .bool (decide (0 < ((b.getD p 0) % 4)))) rfl rfl) (Zf (Zw (v := .bool (decide (0 < ((b.getD p 0) % 4)))) rfl rfl) (Za (W_if rfl (fun q8 => ?_) fun q8 => ?_))))))))))
   ·refine Sn (Xl isAgg184 sizeOf184 rfl hb2 rfl (Qs 1 rfl (Xa sizeOf184 rfl rfl rfl rfl hb1 rfl ?_)))
    intro w13 hU13 hzz13 hb1
    exact Qs 2 rfl (Za (Zn (Zg rfl (Yb results102 rfl rfl rfl (Zu isAgg184 sizeOf184 rfl hb1)) ⟨_, rfl, 0, false, 0, p, 11, rfl, (by omega), (by omega), (by omega), (HU.t1 hU13)⟩)))
   refine Zi (Sn (Qs 1 rfl (Zf (ZZ underlying101 underlying3 rfl ZY) (Zf (Zo underlying184 rfl sizeOf3 rfl rfl) (Xc [.int .i64 ((b.getD p 0) % 4), .bool (decide ((((b.getD p 0) / 4) % 2) = 1)), .int .i64 xz10] sizeOf3 rfl hb6 rfl rfl rfl rfl rfl ?_)))))
   intro w14 hU14 hzz14 hb6
   refine Za (Sn (Xl isAgg184 sizeOf184 rfl hb6 rfl (Qs 1 rfl ?_)))
   replace hb1 := hb1.Zh hU14
   refine Xa sizeOf184 rfl rfl rfl rfl hb1 rfl ?_
   intro w15 hU15 hzz15 hb1
   refine Qs 2 rfl (Za (Zn (Zg (v := .tuple #[.agg #[.int .i64 ((b.getD p 0) % 4), .bool (decide ((((b.getD p 0) / 4) % 2) = 1)), .int .i64 xz10], .int .i64 qz10, .int .i64 0]) rfl (Yb results102 rfl rfl rfl (Zu isAgg184 sizeOf184 rfl hb1)) ?_)))
   exact ⟨_, rfl, ((b.getD p 0) % 4), (decide ((((b.getD p 0) / 4) % 2) = 1)), xz10, qz10, 0, (by rw [Bool.decide_eq_true]), (by omega), (by omega), (by omega), ((HU.t1 hU14).t1 hU15)⟩
  rw [decide_eq_false q7]
  refine Gf (Gf (Gf (Gt (Zf (Zw (v := .bool false) rfl rfl) (Zf (Zw (v := .bool false) rfl rfl) (Za (Cf (Zi (Sn (Qs 1 rfl (Zf (ZZ underlying101 underlying3 rfl ZY) (Zf (Zo underlying184 rfl sizeOf3 rfl rfl) (Xc [.int .i64 ((b.getD p 0) % 4), .bool (decide ((((b.getD p 0) / 4) % 2) = 1)), .int .i64 xz10] sizeOf3 rfl hb6 rfl rfl rfl rfl rfl ?_)))))))))))))
  intro w16 hU16 hzz16 hb6
  refine Za (Sn (Xl isAgg184 sizeOf184 rfl hb6 rfl (Qs 1 rfl ?_)))
  replace hb1 := hb1.Zh hU16
  refine Xa sizeOf184 rfl rfl rfl rfl hb1 rfl ?_
  intro w17 hU17 hzz17 hb1
  refine Qs 2 rfl (Za (Zn (Zg (v := .tuple #[.agg #[.int .i64 ((b.getD p 0) % 4), .bool (decide ((((b.getD p 0) / 4) % 2) = 1)), .int .i64 xz10], .int .i64 qz10, .int .i64 0]) rfl (Yb results102 rfl rfl rfl (Zu isAgg184 sizeOf184 rfl hb1)) ?_)))
  exact ⟨_, rfl, ((b.getD p 0) % 4), (decide ((((b.getD p 0) / 4) % 2) = 1)), xz10, qz10, 0, (by rw [Bool.decide_eq_true]), (by omega), (by omega), (by omega), ((HU.t1 hU16).t1 hU17)⟩
 rw [decide_eq_false q3]
 refine Gf (Gf (Gf (Gt (Zf (Zw (v := .bool false) rfl rfl) (Zf (Zw (v := .bool false) rfl rfl) (Za (Cf (Zi (Sn (Qs 2 rfl (Xd rfl rfl (Zj (Zy rfl call55 (v1 := .int .i64 ((p + 1 : Nat) : Int)) rfl Zt) (wvar _ hs.any hb (by omega) (by omega)) ?_))))))))))))
 rintro v w18 ⟨xz18, qz18, e18, rfl, hx_18, hq_18, hq2_18, hU18⟩
 have:=hU18.size
 refine Qs 7 rfl (Za (Sm (Qs 2 rfl (Za ?_))))
 replace HU := HU.Zb hU18
 replace hb1 := hb1.Zc hU18
 replace hb2 := hb2.Zc hU18
 refine W_if rfl (fun q9 => ?_) fun q9 => ?_
 ·refine Sn (Xl isAgg184 sizeOf184 rfl hb2 rfl (Qs 2 rfl (Xa sizeOf184 rfl rfl rfl rfl hb1 rfl ?_)))
  intro w19 hU19 hzz19 hb1
  exact Qs 2 rfl (Za (Zn (Zg rfl (Yb results102 rfl rfl rfl (Zu isAgg184 sizeOf184 rfl hb1)) ⟨_, rfl, 0, false, 0, p, e18, rfl, (by omega), (by omega), (by omega), (HU.t1 hU19)⟩)))
 refine Zi (Sm (Qs 3 rfl ?_))
 by_cases q10 : 131072 < (xz18 : Int)
 ·rw [decide_eq_true q10]
  refine Gf (Gf (Gf (Z6 rfl (Z6 rfl (Z6 rfl (Gf (Zf (Zx (v := .bool true) rfl rfl) (Za (Ct (Sn (Xl isAgg184 sizeOf184 rfl hb2 rfl (Qs 1 rfl (Xa sizeOf184 rfl rfl rfl rfl hb1 rfl ?_)))))))))))))
  intro w20 hU20 hzz20 hb1
  exact Qs 2 rfl (Za (Zn (Zg rfl (Yb results102 rfl rfl rfl (Zu isAgg184 sizeOf184 rfl hb1)) ⟨_, rfl, 0, false, 0, p, 11, rfl, (by omega), (by omega), (by omega), (HU.t1 hU20)⟩)))
 rw [decide_eq_false q10]
 refine Gt (Qs 1 rfl (Gt (Qs 1 rfl (Gt (Qs 1 rfl ?_)))))
 replace hb6 := hb6.Zc hU18
 by_cases q11 : (xz18 : Int) = 0
 ·rw [decide_eq_true q11]
  refine Gt (Qs 1 rfl (Gt (Zf (YW rfl rfl (by omega) (tr (by omega))) (Gt (Qs 1 rfl (Gt (Zf (Zx (v := .bool (decide (0 < ((b.getD p 0) % 4)))) rfl rfl) (Zf (Zw (v := .bool (decide (0 < ((b.getD p 0) % 4)))) rfl rfl) (Za (W_if rfl (fun q12 => ?_) fun q12 => ?_))))))))))
  ·refine Sn (Xl isAgg184 sizeOf184 rfl hb2 rfl (Qs 1 rfl (Xa sizeOf184 rfl rfl rfl rfl hb1 rfl ?_)))
   intro w21 hU21 hzz21 hb1
   exact Qs 2 rfl (Za (Zn (Zg rfl (Yb results102 rfl rfl rfl (Zu isAgg184 sizeOf184 rfl hb1)) ⟨_, rfl, 0, false, 0, p, 11, rfl, (by omega), (by omega), (by omega), (HU.t1 hU21)⟩)))
  refine Zi (Sn (Qs 1 rfl (Zf (ZZ underlying101 underlying3 rfl ZY) (Zf (Zo underlying184 rfl sizeOf3 rfl rfl) (Xc [.int .i64 ((b.getD p 0) % 4), .bool (decide ((((b.getD p 0) / 4) % 2) = 1)), .int .i64 xz18] sizeOf3 rfl hb6 rfl rfl rfl rfl rfl ?_)))))
  intro w22 hU22 hzz22 hb6
  refine Za (Sn (Xl isAgg184 sizeOf184 rfl hb6 rfl (Qs 1 rfl ?_)))
  replace hb1 := hb1.Zh hU22
  refine Xa sizeOf184 rfl rfl rfl rfl hb1 rfl ?_
  intro w23 hU23 hzz23 hb1
  refine Qs 2 rfl (Za (Zn (Zg (v := .tuple #[.agg #[.int .i64 ((b.getD p 0) % 4), .bool (decide ((((b.getD p 0) / 4) % 2) = 1)), .int .i64 xz18], .int .i64 qz18, .int .i64 0]) rfl (Yb results102 rfl rfl rfl (Zu isAgg184 sizeOf184 rfl hb1)) ?_)))
  exact ⟨_, rfl, ((b.getD p 0) % 4), (decide ((((b.getD p 0) / 4) % 2) = 1)), xz18, qz18, 0, (by rw [Bool.decide_eq_true]), (by omega), (by omega), (by omega), ((HU.t1 hU22).t1 hU23)⟩
 rw [decide_eq_false q11]
 refine Gf (Gf (Gf (Gt (Zf (Zw (v := .bool false) rfl rfl) (Zf (Zw (v := .bool false) rfl rfl) (Za (Cf (Zi (Sn (Qs 1 rfl (Zf (ZZ underlying101 underlying3 rfl ZY) (Zf (Zo underlying184 rfl sizeOf3 rfl rfl) (Xc [.int .i64 ((b.getD p 0) % 4), .bool (decide ((((b.getD p 0) / 4) % 2) = 1)), .int .i64 xz18] sizeOf3 rfl hb6 rfl rfl rfl rfl rfl ?_)))))))))))))
 intro w24 hU24 hzz24 hb6
 refine Za (Sn (Xl isAgg184 sizeOf184 rfl hb6 rfl (Qs 1 rfl ?_)))
 replace hb1 := hb1.Zh hU24
 refine Xa sizeOf184 rfl rfl rfl rfl hb1 rfl ?_
 intro w25 hU25 hzz25 hb1
 refine Qs 2 rfl (Za (Zn (Zg (v := .tuple #[.agg #[.int .i64 ((b.getD p 0) % 4), .bool (decide ((((b.getD p 0) / 4) % 2) = 1)), .int .i64 xz18], .int .i64 qz18, .int .i64 0]) rfl (Yb results102 rfl rfl rfl (Zu isAgg184 sizeOf184 rfl hb1)) ?_)))
 exact ⟨_, rfl, ((b.getD p 0) % 4), (decide ((((b.getD p 0) / 4) % 2) = 1)), xz18, qz18, 0, (by rw [Bool.decide_eq_true]), (by omega), (by omega), (by omega), ((HU.t1 hU24).t1 hU25)⟩
theorem wpart19 {a : Option Addr} {n c p : Nat} {b : List Int} {R : Nat → Prop} (w : World) (hs : Sl w R 1 (.slice a n c) n (ints .u8 b)) (hb : Byt b) (hp : p ≤ n) (hn : n ≤ 1000000) :
  Calls Tryz.prog 103 #[.slice a n c, .int .i64 p] w (Ret fun v w' => ∃ (a' : Option Addr) (m' : Nat) (c' : Nat) (z : List Int) (qz : Nat) (e : Int), v = .tuple #[.slice a' m' c', .int .i64 qz, .int .i64 e] ∧ Sl w' R 1 (.slice a' m' c') m' (ints .u8 z) ∧ Byt z ∧ p ≤ qz ∧ qz ≤ n ∧ m' ≤ n ∧ Upd No w w') := by
 have HU := Upd.Yo w
 have hl_hs := ZC hs
 have hc_hs := hs.cap.1
 refine Zq func103 rfl ntmps103 (by simp) (Sn (Qs 3 rfl (Za (Sn (Qs 2 rfl ?_)))))
 replace hs := hs.tight
 refine Zj (Zy rfl call55 rfl rfl) (wvar _ hs.any hb (by omega) (by omega)) ?_
 rintro v w1 ⟨xz1, qz1, e1, rfl, hx_1, hq_1, hq2_1, hU1⟩
 have:=hU1.size
 refine Qs 7 rfl (Za (Sm (Qs 2 rfl (Za ?_))))
 replace HU := HU.Zb hU1
 refine W_if rfl (fun q1 => ?_) fun q1 => ?_
 ·exact Sn (Qs 5 rfl (Za (Zn (Zg rfl (Yr results103 rfl rfl rfl) ⟨_, rfl, none, 0, 0, [], p, e1, rfl, Sl.nil _ _ _, ZO, (by omega), (by omega), (by omega), HU⟩))))
 refine Zi (Sm (Qs 2 rfl (Zf (ZM underlying22 rfl) (Qs 1 rfl (Xs rfl rfl (Zf (ZZ underlying3 underlying101 rfl (wu64 (by omega) (by omega))) (Qs 1 rfl (Za (W_if rfl (fun q2 => ?_) fun q2 => ?_)))))))))
 ·exact Sn (Qs 4 rfl (Za (Zn (Zg rfl (Yr results103 rfl rfl rfl) ⟨_, rfl, none, 0, 0, [], p, 3, rfl, Sl.nil _ _ _, ZO, (by omega), (by omega), (by omega), HU⟩))))
 refine Zi (Sn (Qs 4 rfl (Zf (ZZ underlying101 underlying3 rfl ZY) (Xd rfl rfl (Zf (YY (l' := qz1) (h' := ((qz1 : Int) + (xz1 : Int)).toNat) (n' := ((qz1 : Int) + (xz1 : Int)).toNat - qz1) underlying22 sizeOf5 rfl rfl rfl (by omega) (by omega) (by omega) (by omega) (by omega)) ?_)))))
 have hT2 := Sl.cutn (l := qz1) (n := ((qz1 : Int) + (xz1 : Int)).toNat - qz1) (hs.Zc hU1) (by omega)
 have hl_hT2 := ZC hT2
 have hc_hT2 := hT2.cap.1
 refine Qs 2 rfl (Zf (ZZ underlying101 underlying3 rfl ZY) (Xd rfl rfl (Qs 3 rfl (Za (Zn (Zg (v := .tuple #[.slice (if c = qz1 then a else a.map (·.add (qz1 * 1))) (((qz1 : Int) + (xz1 : Int)).toNat - qz1) (c - qz1), .int .i64 ((qz1 : Int) + (xz1 : Int)), .int .i64 0]) rfl (Yr results103 rfl rfl rfl) ?_))))))
 exact ⟨_, rfl, (if c = qz1 then a else a.map (·.add (qz1 * 1))), (((qz1 : Int) + (xz1 : Int)).toNat - qz1), (c - qz1), _, (qz1 + xz1), 0, (by rw [Int.natCast_add]), (hT2.weak (fun g hg => hg.1)), (ZU (ZL hb _) _), (by omega), (by omega), (by omega), HU⟩
theorem wlits {a : Option Addr} {n c p : Nat} {b : List Int} {a2 : Option Addr} {n2 c2 : Nat} {l : List Int} {R : Nat → Prop} (w : World) (hs : Sl w R 1 (.slice a n c) n (ints .u8 b)) (hb : Byt b) (hp : p ≤ n) (hn : n ≤ 1000000) (hs2 : Sl w R 1 (.slice a2 n2 c2) n2 (ints .i64 l)) (hn2 : n2 ≤ 1000000) :
  Calls Tryz.prog 87 #[.slice a n c, .int .i64 p, .slice a2 n2 c2] w (Ret fun v w' => ∃ (a' : Option Addr) (m' : Nat) (c' : Nat) (z : List Int) (d' : Option Addr) (s' : Nat) (f' : Nat) (t : List Int) (qz : Nat) (e : Int), v = .tuple #[.slice a' m' c', .slice d' s' f', .int .i64 qz, .int .i64 e] ∧ Sl w' (fun g => R g ∨ w.heap.size ≤ g) 1 (.slice a' m' c') m' (ints .u8 z) ∧ Sl w' (fun g => R g ∨ w.heap.size ≤ g) 1 (.slice d' s' f') s' (ints .i64 t) ∧ Byt z ∧ m' ≤ 400000000 ∧ s' ≤ 1000000 ∧ p ≤ qz ∧ qz ≤ n ∧ Upd No w w') := by
 have HU := Upd.Yo w
 have hl_hs := ZC hs
 have hc_hs := hs.cap.1
 have hl_hs2 := ZC hs2
 have hc_hs2 := hs2.cap.1
 refine Zq func87 rfl ntmps87 (by simp) (Sn (Qs 4 rfl (Za (Sn (Qs 2 rfl ?_)))))
 replace hs := hs.tight
 refine Zj (Zy rfl call102 rfl rfl) (whead19 _ hs.any hb (by omega) (by omega)) ?_
 rintro v w1 ⟨kd1, fr1, sz1, qz1, e1, rfl, hsz_1, hq1_1, hq2_1, hU1⟩
 have:=hU1.size
 refine Qs 4 rfl (ZB zeroValue184 rfl ?_)
 intro B2 w2 hB2 hU2 hzz2 hb2
 refine Xa sizeOf184 rfl rfl rfl rfl hb2 rfl ?_
 intro w3 hU3 hzz3 hb2
 refine Qs 2 rfl (Za (Sm (Qs 2 rfl (Za ?_))))
 replace HU := ((HU.Zb hU1).Zb hU2).t1 hU3
 refine W_if rfl (fun q1 => ?_) fun q1 => ?_
 ·exact Sn (Qs 6 rfl (Za (Zn (Zg rfl (res4 results87 rfl rfl rfl rfl) ⟨_, rfl, none, 0, 0, [], none, 0, 0, [], p, e1, rfl, Sl.nil _ _ _, Sl.nil _ _ _, ZO, (by omega), (by omega), (by omega), (by omega), HU⟩))))
 refine Zi (Sm (Zf (Zo underlying184 rfl sizeOf182 rfl rfl) (Zk isAgg182 rfl hb2 rfl (Za (Zs (Sn (Qs 2 rfl (Za ?_))))))))
 replace hs2 := (((hs2.tight).Zc hU1).Zc hU2).Zh hU3
 replace hs := ((hs.Zc hU1).Zc hU2).Zh hU3
 refine W_if rfl (fun q2 => ?_) fun q2 => ?_
 ·refine Sn (Qs 2 rfl (Zf (Zo underlying184 rfl sizeOf3 rfl rfl) (Zk isAgg3 rfl hb2 rfl (Zj (Z5 rfl call29 rfl rfl rfl) (wbys _ hs hb (by omega) (by omega)) ?_))))
  rintro v w4 ⟨a4, m4, c4, z4, qz4, e4, rfl, hB4, hz_4, hm9_4, hq_4, hq2_4, he_4, hU4⟩
  have:=hU4.size
  have hl_hB4 := ZC hB4
  have hc_hB4 := hB4.cap.1
  refine Qs 7 rfl (Za (Sm (Qs 2 rfl (Za ?_))))
  replace HU := HU.Zb hU4
  refine W_if rfl (fun q3 => ?_) fun q3 => ?_
  ·exact Sn (Qs 6 rfl (Za (Zn (Zg rfl (res4 results87 rfl rfl rfl rfl) ⟨_, rfl, none, 0, 0, [], none, 0, 0, [], p, e4, rfl, Sl.nil _ _ _, Sl.nil _ _ _, ZO, (by omega), (by omega), (by omega), (by omega), HU⟩))))
  exact Zi (Sn (Qs 7 rfl (Za (Zn (Zg rfl (res4 results87 rfl rfl rfl rfl) ⟨_, rfl, a4, m4, c4, z4, a2, n2, c2, l, qz4, 0, rfl, (hB4.weak (fun g h => .inl h.1)), ((hs2.Zc hU4).weak (fun g h => .inl h.1)), hz_4, (by omega), (by omega), (by omega), (by omega), HU⟩)))))
 refine Sn (Qs 2 rfl (Za (W_if rfl (fun q4 => ?_) fun q4 => ?_)))
 ·refine Sm (Qs 2 rfl (Zf (ZM underlying22 rfl) (Qs 1 rfl (Za (W_if rfl (fun q5 => ?_) fun q5 => ?_)))))
  ·exact Sn (Qs 5 rfl (Za (Zn (Zg rfl (res4 results87 rfl rfl rfl rfl) ⟨_, rfl, none, 0, 0, [], none, 0, 0, [], p, 3, rfl, Sl.nil _ _ _, Sl.nil _ _ _, ZO, (by omega), (by omega), (by omega), (by omega), HU⟩))))
  refine Zi (Sn (Qs 1 rfl (Za (Sm (Qs 1 rfl (Za (Zs (ZS (fun mu ρ ds w' => ∃ (i : Nat) (xs : List Int) (a9 : Option Addr) (c9 : Nat), sz1 - i = mu ∧ ds = [] ∧ Liv ρ [(0, .slice a n c), (2, .slice a2 n2 c2), (10, .pointer (some ⟨B2, 0, none⟩)), (11, .int .i64 qz1), (16, .slice a9 i c9), (17, .int .i64 i)] ∧ i ≤ sz1 ∧ Byt xs ∧ Own w' (fun g => w3.heap.size ≤ g) 5 1 (.slice a9 i c9) i (ints .u8 xs) ∧ Upd (fun g => w3.heap.size ≤ g) w3 w') _ ⟨0, [], none, 0, rfl, rfl, ⟨rfl, rfl, rfl, rfl, (by first | rfl | exact Zt (by omega) | exact Zt (by simp)), (by first | rfl | exact Zt (by omega) | exact Zt (by simp)), trivial⟩, (by omega), ZO, (by exact Own.nil _ _ _ _), Upd.refl _ _⟩ ?_))))))))
  rintro m5 ρ5 ds5 w5 ⟨i, xs, a9, c9, rfl, rfl, hl5, hi, hby, hO, hU5⟩
  obtain ⟨ρ5x, rfl⟩ : ∃ ρx, ρ5 = upds ρx [(0, .slice a n c), (2, .slice a2 n2 c2), (10, .pointer (some ⟨B2, 0, none⟩)), (11, .int .i64 qz1), (16, .slice a9 i c9), (17, .int .i64 i)] := ⟨_, ZD hl5⟩
  clear hl5
  have:=hU5.size
  replace hO := hO.tight
  have hl_hO := ZC hO.sl
  have hc_hO := hO.sl.cap.1
  have hbq := Yi hb qz1
  have HL5 := hU5
  refine Sm (Qs 1 rfl (Zf (Zo underlying184 rfl sizeOf3 rfl rfl) (Zk isAgg3 rfl (hb2.upd hU5) rfl (Qs 1 rfl (Za (W_if rfl (fun q6 => ?_) fun q6 => ?_))))))
  ·refine Zi (Zz (Zs (Zl (Qs 3 rfl (Z7 underlying22 sizeOf5 rfl rfl (hs.upd hU5) (by omega) (by omega) ?_)))))
   intro ib6 io6 hc6
   rw [Int.toNat_natCast] at hc6
   refine ZH isAgg5 rfl hc6 (Xz [.int .u8 (b.getD qz1 0)] underlying22 sizeOf5 zeroValue5 ?_)
   intro B7 w7 hB7 hU7 hzz7 hs7
   replace hs7 : Own w7 (Is B7) 5 1 (.slice (some ⟨B7, 0, none⟩) 1 1) 1 (ints .u8 [b.getD qz1 0]) := hs7
   replace hO := hO.Zc hU7
   refine Z1 (xs := xs) (ys := [b.getD qz1 0]) (zs := xs ++ [b.getD qz1 0]) (k' := .u8) (tot := i + 1) (by first | rfl | exact (ZR _ _).symm | simp) underlying22 (ti := Tryz.t5) (z := .int .u8 0) (sz := 1) (by' := 1) rfl rfl rfl rfl rfl (by decide) rfl hO rfl hs7.sl  (by omega) (by simp only [maxLen]; omega) (by omega) ?_
   intro a8 c8 w8 hU8 hzz8 hO8
   replace hs2 := hs2.upd hU5
   replace HU := HU.trans hU5
   replace HL5 := HL5.Zb hU7
   clear hO
   have:=hU8.size
   replace hO8 := hO8.tight
   have hl_hO8 := ZC hO8.sl
   have hc_hO8 := hO8.sl.cap.1
   refine Qs 1 rfl (Za (Zl (Qs 1 rfl (Xd rfl rfl (Qs 1 rfl (Za ?_))))))
   refine ⟨_, ?_, (i + 1), (xs ++ [b.getD qz1 0]), a8, c8, rfl, rfl, ⟨rfl, rfl, rfl, rfl, rfl, Zt, trivial⟩, (by omega), (Yq hby (fun x hx => by rw [List.mem_singleton.1 hx]; exact hbq)), hO8.weak, (HL5.trans hU8)⟩
   omega
  refine ZI (Sn (Qs 3 rfl (Xd rfl rfl (Qs 4 rfl (Za (Zn (Zg (v := .tuple #[.slice a9 i c9, .slice a2 n2 c2, .int .i64 ((qz1 : Int) + 1), .int .i64 0]) rfl (res4 results87 rfl rfl rfl rfl) ?_)))))))
  exact ⟨_, rfl, a9, i, c9, xs, a2, n2, c2, l, (qz1 + 1), 0, (by rw [Int.natCast_add]; rfl), (hO.sl.weak (fun g h => .inr (Nat.le_trans (by omega) h.1))), ((hs2.upd hU5).weak (fun g h => .inl h.1)), hby, (by omega), (by omega), (by omega), (by omega), (HU.trans hU5)⟩
 refine Zi (Sn (Qs 2 rfl (Zj (Zy rfl call103 rfl rfl) (wpart19 _ hs hb (by omega) (by omega)) ?_)))
 rintro v w9 ⟨a9, m9, c9, z9, qz9, e9, rfl, hB9, hz_9, hq1_9, hq2_9, hm9_9, hU9⟩
 have:=hU9.size
 have hl_hB9 := ZC hB9
 have hc_hB9 := hB9.cap.1
 refine Qs 7 rfl (Za (Sm (Qs 2 rfl (Za ?_))))
 replace HU := HU.Zb hU9
 refine W_if rfl (fun q7 => ?_) fun q7 => ?_
 ·exact Sn (Qs 6 rfl (Za (Zn (Zg rfl (res4 results87 rfl rfl rfl rfl) ⟨_, rfl, none, 0, 0, [], none, 0, 0, [], p, e9, rfl, Sl.nil _ _ _, Sl.nil _ _ _, ZO, (by omega), (by omega), (by omega), (by omega), HU⟩))))
 refine Zi (Sn (Qs 1 rfl (Za (Sm (Zf (Zo underlying184 rfl sizeOf182 rfl rfl) ?_)))))
 replace hb2 := hb2.Zc hU9
 refine Zk isAgg182 rfl hb2 rfl (Qs 1 rfl (Za (W_if rfl (fun q8 => ?_) fun q8 => ?_)))
 ·refine Sn (Qs 1 rfl (Zj (Zy rfl call104 (v1 := .int .i64 ((0 : Nat) : Int)) rfl rfl) (wget16 _ hB9.any hz_9 (by omega) (by omega)) ?_))
  rintro v w10 ⟨a10, m10, c10, xs10, qq10, e10, rfl, hO10, hq1_10, hq2_10, hm9_10, hU10⟩
  have:=hU10.size
  have hl_hO10 := ZC hO10
  have hc_hO10 := hO10.cap.1
  refine Qs 7 rfl (Za (Sm (Qs 2 rfl (Za ?_))))
  replace HU := HU.Zb hU10
  refine W_if rfl (fun q9 => ?_) fun q9 => ?_
  ·exact Sn (Qs 6 rfl (Za (Zn (Zg rfl (res4 results87 rfl rfl rfl rfl) ⟨_, rfl, none, 0, 0, [], none, 0, 0, [], p, e10, rfl, Sl.nil _ _ _, Sl.nil _ _ _, ZO, (by omega), (by omega), (by omega), (by omega), HU⟩))))
  refine Zi (Zl (Qs 4 rfl (Za (Sm (Qs 1 rfl (Zj (Zv rfl call26 rfl) (wright _ hO10.any (by omega)) ?_))))))
  rintro v w11 ⟨r11, rfl, hr_11, hU11⟩
  have:=hU11.size
  refine Zf (YX rfl) (Za ?_)
  replace HU := HU.Zb hU11
  by_cases q10 : r11 = true
  ·rw [decide_eq_true q10]
   simp only [Bool.not_true, Bool.not_false]
   refine Cf (Zi (Zz (ZJ rfl (l0 := tf 0 12) (by kernel_rfl) (Tq rfl (Tq rfl (Tq rfl (Tv rfl (fun _ _ => Ym (l' := qq10) (n' := m9 - qq10) underlying22 sizeOf5 rfl rfl (by omega) (by omega) (by omega)) ?_)))))))
   have hT12 := Sl.cutl (l := qq10) (n := m9 - qq10) ((hB9.Zc hU10).Zc hU11) (by omega) (by omega)
   have hl_hT12 := ZC hT12
   have hc_hT12 := hT12.cap.1
   refine Tv rfl (fun _ _ => Zo underlying184 rfl sizeOf3 rfl rfl) ?_
   replace hb2 := (hb2.Zc hU10).Zc hU11
   refine Tl rfl isAgg3 rfl hb2 rfl ?_
   intro w13 hU13
   have:=hU13.size
   refine Wo 6 (tf 7 12) rfl ?_
   have hW : Upd No w11 w13 := hU13
   replace hO10 := (hO10.Zc hU11).Zc hU13
   replace hT12 := hT12.Zc hU13
   refine Zj (Z5 rfl call105 rfl rfl rfl) (wdec17 _ hO10.any (by omega) hT12.any (ZL hz_9 _) (by omega)) ?_
   rintro v w14 ⟨a14, m14, c14, xs14, e14, rfl, hO14, hby_14, hm8_14, hm9_14, hU14⟩
   have:=hU14.size
   try replace hW := hW.Zb hU14
   replace hO14 := hO14.tight
   have hl_hO14 := ZC hO14.sl
   have hc_hO14 := hO14.sl.cap.1
   refine Za ?_
   intro w15 hS15
   refine bT (Upd No w15) ?_
   have hU15 := hS15.upd
   have:=hU15.size
   try replace hW := hW.Zb hU15
   refine ZQ (Upd.refl _ _) (Tq rfl (Tq rfl (Tq rfl (Tq rfl (Tq rfl ?_)))))
   intro w16 hU16
   have:=hU16.size
   try replace hW := hW.Zb hU16
   refine Wd (Sm (Zf (Zo underlying184 rfl sizeOf4 rfl rfl) ?_))
   replace hb2 := (((hb2.Zc hU13).Zc hU14).Zc hU15).Zc hU16
   refine Zk isAgg4 rfl hb2 rfl (Za ?_)
   replace HU := (((HU.Zb hU13).Zb hU14).Zb hU15).Zb hU16
   replace hO10 := ((hO10.Zc hU14).Zc hU15).Zc hU16
   refine W_if rfl (fun q11 => ?_) fun q11 => ?_
   ·refine ZJ rfl (l0 := tf 0 12) (by kernel_rfl) (Tq rfl (Tq rfl (Tq rfl (Tv rfl (fun _ _ => Ym (l' := qq10) (n' := m9 - qq10) underlying22 sizeOf5 rfl rfl (by omega) (by omega) (by omega)) (Tv rfl (fun _ _ => Zo underlying184 rfl sizeOf3 rfl rfl) (Tl rfl isAgg3 rfl hb2 rfl ?_))))))
    intro w17 hU17
    have:=hU17.size
    try replace hW := hW.Zb hU17
    refine Wo 6 (tf 7 12) rfl ?_
    have hW : Upd No w16 w17 := hU17
    replace hO10 := hO10.Zc hU17
    refine Zj (Z5 rfl call106 rfl rfl rfl) (wdec18 _ hO10.any (by omega) ((((hT12.Zc hU14).Zc hU15).Zc hU16).Zc hU17).any (ZL hz_9 _) (by omega) (by omega)) ?_
    rintro v w18 ⟨a18, m18, c18, xs18, e18, rfl, hO18, hby_18, hm8_18, hU18⟩
    have:=hU18.size
    try replace hW := hW.Zb hU18
    replace hO18 := hO18.tight
    have hl_hO18 := ZC hO18.sl
    have hc_hO18 := hO18.sl.cap.1
    refine Za ?_
    intro w19 hS19
    refine bT (Upd No w19) ?_
    have hU19 := hS19.upd
    have:=hU19.size
    try replace hW := hW.Zb hU19
    refine ZQ (Upd.refl _ _) (Tq rfl (Tq rfl (Tq rfl (Tq rfl (Tq rfl ?_)))))
    intro w20 hU20
    have:=hU20.size
    try replace hW := hW.Zb hU20
    refine Wd (Sm (Qs 2 rfl (Za ?_)))
    replace HU := (((HU.Zb hU17).Zb hU18).Zb hU19).Zb hU20
    refine W_if rfl (fun q12 => ?_) fun q12 => ?_
    ·exact Sn (Qs 6 rfl (Za (Zn (Zg rfl (res4 results87 rfl rfl rfl rfl) ⟨_, rfl, none, 0, 0, [], none, 0, 0, [], p, e18, rfl, Sl.nil _ _ _, Sl.nil _ _ _, ZO, (by omega), (by omega), (by omega), (by omega), HU⟩))))
    exact Zi (Sn (Qs 7 rfl (Za (Zn (Zg rfl (res4 results87 rfl rfl rfl rfl) ⟨_, rfl, a18, m18, c18, xs18, a10, m10, c10, xs10, qz9, 0, rfl, (((hO18.Zc hU19).Zc hU20).sl.weak (fun g h => .inr (Nat.le_trans (by omega) h.1))), ((((hO10.Zc hU18).Zc hU19).Zc hU20).weak (fun g h => .inr (Nat.le_trans (by omega) h))), hby_18, (by omega), (by omega), (by omega), (by omega), HU⟩)))))
   refine Zi (Sm (Qs 2 rfl (Za (W_if rfl (fun q13 => ?_) fun q13 => ?_))))
   ·exact Sn (Qs 6 rfl (Za (Zn (Zg rfl (res4 results87 rfl rfl rfl rfl) ⟨_, rfl, none, 0, 0, [], none, 0, 0, [], p, e14, rfl, Sl.nil _ _ _, Sl.nil _ _ _, ZO, (by omega), (by omega), (by omega), (by omega), HU⟩))))
   exact Zi (Sn (Qs 7 rfl (Za (Zn (Zg rfl (res4 results87 rfl rfl rfl rfl) ⟨_, rfl, a14, m14, c14, xs14, a10, m10, c10, xs10, qz9, 0, rfl, (((hO14.Zc hU15).Zc hU16).sl.weak (fun g h => .inr (Nat.le_trans (by omega) h.1))), (hO10.weak (fun g h => .inr (Nat.le_trans (by omega) h))), hby_14, (by omega), (by omega), (by omega), (by omega), HU⟩)))))
  rw [decide_eq_false q10]
  simp only [Bool.not_true, Bool.not_false]
  exact Ct (Sn (Qs 5 rfl (Za (Zn (Zg rfl (res4 results87 rfl rfl rfl rfl) ⟨_, rfl, none, 0, 0, [], none, 0, 0, [], p, 12, rfl, Sl.nil _ _ _, Sl.nil _ _ _, ZO, (by omega), (by omega), (by omega), (by omega), HU⟩)))))
 refine Zi (Sm (Qs 1 rfl ?_))
 replace hs2 := hs2.Zc hU9
 refine Zj (Zv rfl call26 rfl) (wright _ hs2.any (by omega)) ?_
 rintro v w21 ⟨r21, rfl, hr_21, hU21⟩
 have:=hU21.size
 refine Zf (YX rfl) (Za ?_)
 replace HU := HU.Zb hU21
 by_cases q14 : r21 = true
 ·rw [decide_eq_true q14]
  simp only [Bool.not_true, Bool.not_false]
  refine Cf (Zi (Zz (ZJ rfl (l0 := tf 0 12) (by kernel_rfl) (Tq rfl (Tq rfl (Tq rfl (Tv rfl (fun _ _ => Ym (l' := 0) (n' := m9 - 0) underlying22 sizeOf5 rfl rfl (by omega) (by omega) (by omega)) ?_)))))))
  have hT22 := Sl.cutl (l := 0) (n := m9 - 0) (hB9.Zc hU21) (by omega) (by omega)
  have hl_hT22 := ZC hT22
  have hc_hT22 := hT22.cap.1
  refine Tv rfl (fun _ _ => Zo underlying184 rfl sizeOf3 rfl rfl) ?_
  replace hb2 := hb2.Zc hU21
  refine Tl rfl isAgg3 rfl hb2 rfl ?_
  intro w23 hU23
  have:=hU23.size
  refine Wo 6 (tf 7 12) rfl ?_
  have hW : Upd No w21 w23 := hU23
  replace hs2 := (hs2.Zc hU21).Zc hU23
  replace hT22 := hT22.Zc hU23
  refine Zj (Z5 rfl call105 rfl rfl rfl) (wdec17 _ hs2.any (by omega) hT22.any (ZL hz_9 _) (by omega)) ?_
  rintro v w24 ⟨a24, m24, c24, xs24, e24, rfl, hO24, hby_24, hm8_24, hm9_24, hU24⟩
  have:=hU24.size
  try replace hW := hW.Zb hU24
  replace hO24 := hO24.tight
  have hl_hO24 := ZC hO24.sl
  have hc_hO24 := hO24.sl.cap.1
  refine Za ?_
  intro w25 hS25
  refine bT (Upd No w25) ?_
  have hU25 := hS25.upd
  have:=hU25.size
  try replace hW := hW.Zb hU25
  refine ZQ (Upd.refl _ _) (Tq rfl (Tq rfl (Tq rfl (Tq rfl (Tq rfl ?_)))))
  intro w26 hU26
  have:=hU26.size
  try replace hW := hW.Zb hU26
  refine Wd (Sm (Zf (Zo underlying184 rfl sizeOf4 rfl rfl) ?_))
  replace hb2 := (((hb2.Zc hU23).Zc hU24).Zc hU25).Zc hU26
  refine Zk isAgg4 rfl hb2 rfl (Za ?_)
  replace HU := (((HU.Zb hU23).Zb hU24).Zb hU25).Zb hU26
  replace hs2 := ((hs2.Zc hU24).Zc hU25).Zc hU26
  refine W_if rfl (fun q15 => ?_) fun q15 => ?_
  ·refine ZJ rfl (l0 := tf 0 12) (by kernel_rfl) (Tq rfl (Tq rfl (Tq rfl (Tv rfl (fun _ _ => Ym (l' := 0) (n' := m9 - 0) underlying22 sizeOf5 rfl rfl (by omega) (by omega) (by omega)) (Tv rfl (fun _ _ => Zo underlying184 rfl sizeOf3 rfl rfl) (Tl rfl isAgg3 rfl hb2 rfl ?_))))))
   intro w27 hU27
   have:=hU27.size
   try replace hW := hW.Zb hU27
   refine Wo 6 (tf 7 12) rfl ?_
   have hW : Upd No w26 w27 := hU27
   replace hs2 := hs2.Zc hU27
   refine Zj (Z5 rfl call106 rfl rfl rfl) (wdec18 _ hs2.any (by omega) ((((hT22.Zc hU24).Zc hU25).Zc hU26).Zc hU27).any (ZL hz_9 _) (by omega) (by omega)) ?_
   rintro v w28 ⟨a28, m28, c28, xs28, e28, rfl, hO28, hby_28, hm8_28, hU28⟩
   have:=hU28.size
   try replace hW := hW.Zb hU28
   replace hO28 := hO28.tight
   have hl_hO28 := ZC hO28.sl
   have hc_hO28 := hO28.sl.cap.1
   refine Za ?_
   intro w29 hS29
   refine bT (Upd No w29) ?_
   have hU29 := hS29.upd
   have:=hU29.size
   try replace hW := hW.Zb hU29
   refine ZQ (Upd.refl _ _) (Tq rfl (Tq rfl (Tq rfl (Tq rfl (Tq rfl ?_)))))
   intro w30 hU30
   have:=hU30.size
   try replace hW := hW.Zb hU30
   refine Wd (Sm (Qs 2 rfl (Za ?_)))
   replace HU := (((HU.Zb hU27).Zb hU28).Zb hU29).Zb hU30
   refine W_if rfl (fun q16 => ?_) fun q16 => ?_
   ·exact Sn (Qs 6 rfl (Za (Zn (Zg rfl (res4 results87 rfl rfl rfl rfl) ⟨_, rfl, none, 0, 0, [], none, 0, 0, [], p, e28, rfl, Sl.nil _ _ _, Sl.nil _ _ _, ZO, (by omega), (by omega), (by omega), (by omega), HU⟩))))
   exact Zi (Sn (Qs 7 rfl (Za (Zn (Zg rfl (res4 results87 rfl rfl rfl rfl) ⟨_, rfl, a28, m28, c28, xs28, a2, n2, c2, l, qz9, 0, rfl, (((hO28.Zc hU29).Zc hU30).sl.weak (fun g h => .inr (Nat.le_trans (by omega) h.1))), ((((hs2.Zc hU28).Zc hU29).Zc hU30).weak (fun g h => .inl h.1)), hby_28, (by omega), (by omega), (by omega), (by omega), HU⟩)))))
  refine Zi (Sm (Qs 2 rfl (Za (W_if rfl (fun q17 => ?_) fun q17 => ?_))))
  ·exact Sn (Qs 6 rfl (Za (Zn (Zg rfl (res4 results87 rfl rfl rfl rfl) ⟨_, rfl, none, 0, 0, [], none, 0, 0, [], p, e24, rfl, Sl.nil _ _ _, Sl.nil _ _ _, ZO, (by omega), (by omega), (by omega), (by omega), HU⟩))))
  exact Zi (Sn (Qs 7 rfl (Za (Zn (Zg rfl (res4 results87 rfl rfl rfl rfl) ⟨_, rfl, a24, m24, c24, xs24, a2, n2, c2, l, qz9, 0, rfl, (((hO24.Zc hU25).Zc hU26).sl.weak (fun g h => .inr (Nat.le_trans (by omega) h.1))), (hs2.weak (fun g h => .inl h.1)), hby_24, (by omega), (by omega), (by omega), (by omega), HU⟩)))))
 rw [decide_eq_false q14]
 simp only [Bool.not_true, Bool.not_false]
 exact Ct (Sn (Qs 5 rfl (Za (Zn (Zg rfl (res4 results87 rfl rfl rfl rfl) ⟨_, rfl, none, 0, 0, [], none, 0, 0, [], p, 12, rfl, Sl.nil _ _ _, Sl.nil _ _ _, ZO, (by omega), (by omega), (by omega), (by omega), HU⟩)))))
end Go.Proofs.YtbjjhfoeckkacaaGreatDoor
