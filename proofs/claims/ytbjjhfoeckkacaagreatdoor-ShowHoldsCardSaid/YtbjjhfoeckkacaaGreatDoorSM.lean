/-
  Several texts of this project, put together.
-/
import Derived.Test.YtbjjhfoeckkacaaGreatDoorFZ
import Derived.Test.YtbjjhfoeckkacaaGreatDoorSJ
set_option linter.unusedVariables false
set_option linter.unusedSimpArgs false
set_option linter.deprecated false
set_option maxRecDepth 100000
set_option maxHeartbeats 16000000
namespace Go.Proofs.YtbjjhfoeckkacaaGreatDoor
open Go.Fw _root_.Go.Proofs.Tryz
def encI (x : List Int × Fn × Fn) : List Value := [.string (strOfNums x.1), .func x.2.1 #[] #[], .func x.2.2 #[] #[]]
theorem encI_len (x : List Int × Fn × Fn) : (encI x).length = 3 := rfl
theorem Y3 {R : Nat → Prop} {a : Option Addr} {n c : Nat} {l : List (List Int)} (w : World) (hs : Sl w R 1 (.slice a n c) n (rows encS l)) (hb : ∀ x ∈ l, Byt x) (hl : ∀ x ∈ l, x.length ≤ 200) (hn : n ≤ 1000000) :
  Calls Tryz.prog 37 #[.slice a n c] w (Ret fun v w' => v = .string (strOfNums (jnw l)) ∧ Upd No w w') := by
 have HU := Upd.Yo w
 have hl_hs := Ya Y1 (by decide) hs
 have hc_hs := hs.cap.1
 refine Zq func37 rfl ntmps37 (by simp) (Sn (Qs 1 rfl (Za (Sn (Qs 1 rfl (Zj (Zy rfl call63 rfl rfl) (join_spec _ (hs.tight) hb hl (by omega)) ?_))))))
 rintro v w1 ⟨rfl, hU1⟩
 have:=hU1.size
 exact Qs 1 rfl (Za (Zn (Zg rfl (Z9 results37 rfl) ⟨_, rfl, rfl, (HU.Zb hU1)⟩)))
theorem two_ok {x y : List Int} {k : Nat} (h1 : x.length ≤ k ∧ Byt x) (h2 : y.length ≤ k ∧ Byt y) : (∀ z ∈ [x, y], Byt z) ∧ ∀ z ∈ [x, y], z.length ≤ k := by
 refine ⟨fun z hz => ?_, fun z hz => ?_⟩ <;> (simp only [List.mem_cons, List.not_mem_nil, or_false] at hz; rcases hz with rfl | rfl)
 ·exact h1.2
 ·exact h2.2
 ·exact h1.1
 exact h2.1
theorem dig_ok {n : Int} (h : rg n) : (dig n).length ≤ 200 ∧ Byt (dig n) := ⟨by have := dig_len h; omega, dig_byt n⟩
theorem lit_ok {l : List Int} (h : (l.all fun x => decide (0 ≤ x ∧ x < 256)) = true ∧ l.length ≤ 200) : l.length ≤ 200 ∧ Byt l := ⟨h.2, YU h.1⟩
theorem jnw2 (x y : List Int) : jnw [x, y] = x ++ 32 :: y := rfl
theorem text_spec {x : BK} {g0 : Nat} (w : World) (ht : Tab w g0) (hok : okB x) :
  Calls Tryz.prog 40 #[.agg #[.int .i64 x.1, .int .i64 x.2.1, .int .i64 x.2.2.1, .int .i64 x.2.2.2.1, .bool (decide (x.2.2.2.2 = true))]] w (Ret fun v w' => v = .string (strOfNums (btx x)) ∧ Upd No w w') := by
 have HU := Upd.Yo w
 have htl := ht.1
 have hd1 := dig_len hok.2.1
 have hd2 := dig_len hok.2.2
 refine Zq func40 rfl ntmps40 (by simp) (Sn (Xb rfl ?_))
 intro B1 w1 hB1 hU1 hzz1 hb1
 refine Qs 1 rfl (Za (Sn (Zf (YN (pv := [(0, .string (strOfNums [114, 97, 119])), (1, .string (strOfNums [114, 117, 110])), (2, .string (strOfNums [99, 111, 100, 101, 100]))]) (cs := #[.string (strOfNums [114, 97, 119]), .string (strOfNums [114, 117, 110]), .string (strOfNums [99, 111, 100, 101, 100])]) zeroValue146 underlying146 sizeOf9) (ZB zeroValue146 rfl ?_))))
 intro B2 w2 hB2 hU2 hzz2 hb2
 refine Xa sizeOf146 rfl rfl rfl rfl hb2 rfl ?_
 intro w3 hU3 hzz3 hb2
 refine Za (Sm (Zf (Zo underlying40 rfl sizeOf38 rfl rfl) ?_))
 replace hb1 := (hb1.Zc hU2).Zh hU3
 refine Zk isAgg38 rfl hb1 rfl (Qs 2 rfl ?_)
 replace ht := ((ht.Zc hU1).Zc hU2).Zh hU3
 replace HU := ((HU.Zb hU1).Zb hU2).t1 hU3
 by_cases q1 : x.2.1 < 0
 ·rw [decide_eq_true q1]
  refine Gf (Gf (Gf (Zf (Zx (v := .bool true) rfl rfl) (Za (Ct (Sn (Zf (Zo underlying40 rfl sizeOf3 rfl rfl) (Zk isAgg3 rfl hb1 rfl (Zj (Zv rfl call38 rfl) (Yv _ ht (show rg x.2.2.1 from hok.2.1)) ?_)))))))))
  rintro v w4 ⟨rfl, hU4⟩
  have:=hU4.size
  refine Xz [.string (strOfNums [110, 111, 110, 101]), .string (strOfNums (dig x.2.2.1))] underlying105 sizeOf9 zeroValue9 ?_
  intro B5 w5 hB5 hU5 hzz5 hs5
  replace hs5 : Own w5 (Is B5) 9 1 (.slice (some ⟨B5, 0, none⟩) 2 2) 2 (rows encS [([110, 111, 110, 101]), (dig x.2.2.1)]) := hs5
  refine Zj (Zv rfl call37 rfl) (Y3 _ hs5.sl (two_ok (lit_ok (l := [110, 111, 110, 101]) (by decide)) (dig_ok hok.2.1)).1 (two_ok (lit_ok (l := [110, 111, 110, 101]) (by decide)) (dig_ok hok.2.1)).2 (by omega)) ?_
  rintro v w6 ⟨rfl, hU6⟩
  have:=hU6.size
  refine Qs 1 rfl (Za (Zn (Zg (v := .string (strOfNums (jnw [([110, 111, 110, 101]), (dig x.2.2.1)]))) rfl (Z9 results40 rfl) ?_)))
  exact ⟨_, rfl, (by rw [btx_none (by omega)]; rfl), (((HU.Zb hU4).Zb hU5).Zb hU6)⟩
 rw [decide_eq_false q1]
 refine Gt (Zf (Zo underlying40 rfl sizeOf38 rfl rfl) (Gt (Zk isAgg38 rfl hb1 rfl (Gt (Qs 1 rfl (Zf (Zw (v := .bool (decide (3 ≤ x.2.1))) rfl rfl) (Za (W_if rfl (fun q2 => ?_) fun q2 => ?_))))))))
 ·refine Sn (Zf (Zo underlying40 rfl sizeOf3 rfl rfl) (Zk isAgg3 rfl hb1 rfl (Zj (Zv rfl call38 rfl) (Yv _ ht (show rg x.2.2.1 from hok.2.1)) ?_)))
  rintro v w7 ⟨rfl, hU7⟩
  have:=hU7.size
  refine Xz [.string (strOfNums [110, 111, 110, 101]), .string (strOfNums (dig x.2.2.1))] underlying105 sizeOf9 zeroValue9 ?_
  intro B8 w8 hB8 hU8 hzz8 hs8
  replace hs8 : Own w8 (Is B8) 9 1 (.slice (some ⟨B8, 0, none⟩) 2 2) 2 (rows encS [([110, 111, 110, 101]), (dig x.2.2.1)]) := hs8
  refine Zj (Zv rfl call37 rfl) (Y3 _ hs8.sl (two_ok (lit_ok (l := [110, 111, 110, 101]) (by decide)) (dig_ok hok.2.1)).1 (two_ok (lit_ok (l := [110, 111, 110, 101]) (by decide)) (dig_ok hok.2.1)).2 (by omega)) ?_
  rintro v w9 ⟨rfl, hU9⟩
  have:=hU9.size
  refine Qs 1 rfl (Za (Zn (Zg (v := .string (strOfNums (jnw [([110, 111, 110, 101]), (dig x.2.2.1)]))) rfl (Z9 results40 rfl) ?_)))
  exact ⟨_, rfl, (by rw [btx_none (by omega)]; rfl), (((HU.Zb hU7).Zb hU8).Zb hU9)⟩
 refine Zi (Zz (ZJ rfl (l0 := tf 0 10) (by kernel_rfl) (Tv rfl (fun _ _ => Zo underlying40 rfl sizeOf38 rfl rfl) ?_)))
 by_cases q3 : x.2.1 = 0
 ·refine Tl rfl isAgg38 rfl hb1 rfl ?_
  rw [show (x.2.1 : Int) = 0 from q3]
  refine Tv rfl (fun _ _ => Z0 (len := 3) (i' := 0) (o' := 0) underlying146 sizeOf9 rfl rfl (by omega) (by omega) (by omega)) (Tl rfl isAgg9 rfl hb2 rfl (Tv rfl (fun _ _ => Zo underlying40 rfl sizeOf3 rfl rfl) (Tl rfl isAgg3 rfl hb1 rfl (Tk 6 (tf 7 10) rfl (YI_c (v := .string (strOfNums (dig x.2.2.1))) rfl (fun w' => Zv rfl call38 rfl) (fun w' hw' => Yv w' (ht.Zc hw') (show rg x.2.2.1 from hok.2.1))) ?_))))
  intro w10 hU10
  have:=hU10.size
  refine Wo 7 (tf 8 10) rfl ?_
  have hW : Upd No w3 w10 := hU10
  refine Xz [.string (strOfNums [114, 97, 119]), .string (strOfNums (dig x.2.2.1))] underlying105 sizeOf9 zeroValue9 ?_
  intro B11 w11 hB11 hU11 hzz11 hs11
  try replace hW := hW.Zb hU11
  replace hs11 : Own w11 (Is B11) 9 1 (.slice (some ⟨B11, 0, none⟩) 2 2) 2 (rows encS [([114, 97, 119]), (dig x.2.2.1)]) := hs11
  refine Za ?_
  intro w12 hS12
  refine bT (Upd No w12) ?_
  have hU12 := hS12.upd
  have:=hU12.size
  try replace hW := hW.Zb hU12
  refine ZQ (Upd.refl _ _) (Tk 8 (tf 9 10) rfl (YI_c (v := .string (strOfNums (jnw [([114, 97, 119]), (dig x.2.2.1)]))) rfl (fun w' => Zv rfl call37 rfl) (fun w' hw' => Y3 w' (((hs11.Zc hU12).Zc hw').sl) (two_ok (lit_ok (l := [114, 97, 119]) (by decide)) (dig_ok hok.2.1)).1 (two_ok (lit_ok (l := [114, 97, 119]) (by decide)) (dig_ok hok.2.1)).2 (by omega))) (Tq rfl ?_))
  intro w13 hU13
  have:=hU13.size
  try replace hW := hW.Zb hU13
  refine Wd (Sm (Zf (Zo underlying40 rfl sizeOf3 rfl rfl) ?_))
  replace hb1 := (((hb1.Zc hU10).Zc hU11).Zc hU12).Zc hU13
  refine Zk isAgg3 rfl hb1 rfl (Zf (Zo underlying40 rfl sizeOf3 rfl rfl) (Zk isAgg3 rfl hb1 rfl (Qs 1 rfl (Za ?_))))
  replace HU := (((HU.Zb hU10).Zb hU11).Zb hU12).Zb hU13
  refine W_if rfl (fun q4 => ?_) fun q4 => ?_
  ·refine Zl (Qs 1 rfl (Zf (Zo underlying40 rfl sizeOf3 rfl rfl) (Zk isAgg3 rfl hb1 rfl (Zj (Zv rfl call38 rfl) (Yv _ ((((ht.Zc hU10).Zc hU11).Zc hU12).Zc hU13) (show rg x.2.2.2.1 from hok.2.2)) ?_))))
   rintro v w14 ⟨rfl, hU14⟩
   have:=hU14.size
   try replace hW := hW.Zb hU14
   refine Zf (r_addstr (a := [47]) (b := dig x.2.2.2.1) rfl rfl (by simp only [jnw2, List.length_append, List.length_cons, List.length_nil]; omega)) (Zf (r_addstr (a := jnw [([114, 97, 119]), (dig x.2.2.1)]) (b := [47] ++ (dig x.2.2.2.1)) rfl rfl (by simp only [jnw2, List.length_append, List.length_cons, List.length_nil]; omega)) (Qs 1 rfl (Za (Sn (Qs 2 rfl (Za (Zn (Zg (v := .string (strOfNums ((jnw [([114, 97, 119]), (dig x.2.2.1)]) ++ ([47] ++ (dig x.2.2.2.1))))) rfl (Z9 results40 rfl) ?_))))))))
   exact ⟨_, rfl, (by rw [btx_other (by omega) (by omega) q4, show x.2.1 = 0 from by omega, jnw2]; rfl), (HU.Zb hU14)⟩
  refine Zi (Sn (Qs 2 rfl (Za (Zn (Zg (v := .string (strOfNums (jnw [([114, 97, 119]), (dig x.2.2.1)]))) rfl (Z9 results40 rfl) ?_)))))
  exact ⟨_, rfl, (by rw [btx_same (by omega) (by omega) (Classical.not_not.1 q4), show x.2.1 = 0 from by omega, jnw2]; rfl), HU⟩
 by_cases q5 : x.2.1 = 1
 ·refine Tl rfl isAgg38 rfl hb1 rfl ?_
  rw [show (x.2.1 : Int) = 1 from q5]
  refine Tv rfl (fun _ _ => Z0 (len := 3) (i' := 1) (o' := 1) underlying146 sizeOf9 rfl rfl (by omega) (by omega) (by omega)) (Tl rfl isAgg9 rfl hb2 rfl (Tv rfl (fun _ _ => Zo underlying40 rfl sizeOf3 rfl rfl) (Tl rfl isAgg3 rfl hb1 rfl (Tk 6 (tf 7 10) rfl (YI_c (v := .string (strOfNums (dig x.2.2.1))) rfl (fun w' => Zv rfl call38 rfl) (fun w' hw' => Yv w' (ht.Zc hw') (show rg x.2.2.1 from hok.2.1))) ?_))))
  intro w15 hU15
  have:=hU15.size
  refine Wo 7 (tf 8 10) rfl ?_
  have hW : Upd No w3 w15 := hU15
  refine Xz [.string (strOfNums [114, 117, 110]), .string (strOfNums (dig x.2.2.1))] underlying105 sizeOf9 zeroValue9 ?_
  intro B16 w16 hB16 hU16 hzz16 hs16
  try replace hW := hW.Zb hU16
  replace hs16 : Own w16 (Is B16) 9 1 (.slice (some ⟨B16, 0, none⟩) 2 2) 2 (rows encS [([114, 117, 110]), (dig x.2.2.1)]) := hs16
  refine Za ?_
  intro w17 hS17
  refine bT (Upd No w17) ?_
  have hU17 := hS17.upd
  have:=hU17.size
  try replace hW := hW.Zb hU17
  refine ZQ (Upd.refl _ _) (Tk 8 (tf 9 10) rfl (YI_c (v := .string (strOfNums (jnw [([114, 117, 110]), (dig x.2.2.1)]))) rfl (fun w' => Zv rfl call37 rfl) (fun w' hw' => Y3 w' (((hs16.Zc hU17).Zc hw').sl) (two_ok (lit_ok (l := [114, 117, 110]) (by decide)) (dig_ok hok.2.1)).1 (two_ok (lit_ok (l := [114, 117, 110]) (by decide)) (dig_ok hok.2.1)).2 (by omega))) (Tq rfl ?_))
  intro w18 hU18
  have:=hU18.size
  try replace hW := hW.Zb hU18
  refine Wd (Sm (Zf (Zo underlying40 rfl sizeOf3 rfl rfl) ?_))
  replace hb1 := (((hb1.Zc hU15).Zc hU16).Zc hU17).Zc hU18
  refine Zk isAgg3 rfl hb1 rfl (Zf (Zo underlying40 rfl sizeOf3 rfl rfl) (Zk isAgg3 rfl hb1 rfl (Qs 1 rfl (Za ?_))))
  replace HU := (((HU.Zb hU15).Zb hU16).Zb hU17).Zb hU18
  refine W_if rfl (fun q6 => ?_) fun q6 => ?_
  ·refine Zl (Qs 1 rfl (Zf (Zo underlying40 rfl sizeOf3 rfl rfl) (Zk isAgg3 rfl hb1 rfl (Zj (Zv rfl call38 rfl) (Yv _ ((((ht.Zc hU15).Zc hU16).Zc hU17).Zc hU18) (show rg x.2.2.2.1 from hok.2.2)) ?_))))
   rintro v w19 ⟨rfl, hU19⟩
   have:=hU19.size
   try replace hW := hW.Zb hU19
   refine Zf (r_addstr (a := [47]) (b := dig x.2.2.2.1) rfl rfl (by simp only [jnw2, List.length_append, List.length_cons, List.length_nil]; omega)) (Zf (r_addstr (a := jnw [([114, 117, 110]), (dig x.2.2.1)]) (b := [47] ++ (dig x.2.2.2.1)) rfl rfl (by simp only [jnw2, List.length_append, List.length_cons, List.length_nil]; omega)) (Qs 1 rfl (Za (Sn (Qs 2 rfl (Za (Zn (Zg (v := .string (strOfNums ((jnw [([114, 117, 110]), (dig x.2.2.1)]) ++ ([47] ++ (dig x.2.2.2.1))))) rfl (Z9 results40 rfl) ?_))))))))
   exact ⟨_, rfl, (by rw [btx_other (by omega) (by omega) q6, show x.2.1 = 1 from by omega, jnw2]; rfl), (HU.Zb hU19)⟩
  refine Zi (Sn (Qs 2 rfl (Za (Zn (Zg (v := .string (strOfNums (jnw [([114, 117, 110]), (dig x.2.2.1)]))) rfl (Z9 results40 rfl) ?_)))))
  exact ⟨_, rfl, (by rw [btx_same (by omega) (by omega) (Classical.not_not.1 q6), show x.2.1 = 1 from by omega, jnw2]; rfl), HU⟩
 refine Tl rfl isAgg38 rfl hb1 rfl ?_
 rw [show (x.2.1 : Int) = 2 from by omega]
 refine Tv rfl (fun _ _ => Z0 (len := 3) (i' := 2) (o' := 2) underlying146 sizeOf9 rfl rfl (by omega) (by omega) (by omega)) (Tl rfl isAgg9 rfl hb2 rfl (Tv rfl (fun _ _ => Zo underlying40 rfl sizeOf3 rfl rfl) (Tl rfl isAgg3 rfl hb1 rfl (Tk 6 (tf 7 10) rfl (YI_c (v := .string (strOfNums (dig x.2.2.1))) rfl (fun w' => Zv rfl call38 rfl) (fun w' hw' => Yv w' (ht.Zc hw') (show rg x.2.2.1 from hok.2.1))) ?_))))
 intro w20 hU20
 have:=hU20.size
 refine Wo 7 (tf 8 10) rfl ?_
 have hW : Upd No w3 w20 := hU20
 refine Xz [.string (strOfNums [99, 111, 100, 101, 100]), .string (strOfNums (dig x.2.2.1))] underlying105 sizeOf9 zeroValue9 ?_
 intro B21 w21 hB21 hU21 hzz21 hs21
 try replace hW := hW.Zb hU21
 replace hs21 : Own w21 (Is B21) 9 1 (.slice (some ⟨B21, 0, none⟩) 2 2) 2 (rows encS [([99, 111, 100, 101, 100]), (dig x.2.2.1)]) := hs21
 refine Za ?_
 intro w22 hS22
 refine bT (Upd No w22) ?_
 have hU22 := hS22.upd
 have:=hU22.size
 try replace hW := hW.Zb hU22
 refine ZQ (Upd.refl _ _) (Tk 8 (tf 9 10) rfl (YI_c (v := .string (strOfNums (jnw [([99, 111, 100, 101, 100]), (dig x.2.2.1)]))) rfl (fun w' => Zv rfl call37 rfl) (fun w' hw' => Y3 w' (((hs21.Zc hU22).Zc hw').sl) (two_ok (lit_ok (l := [99, 111, 100, 101, 100]) (by decide)) (dig_ok hok.2.1)).1 (two_ok (lit_ok (l := [99, 111, 100, 101, 100]) (by decide)) (dig_ok hok.2.1)).2 (by omega))) (Tq rfl ?_))
 intro w23 hU23
 have:=hU23.size
 try replace hW := hW.Zb hU23
 refine Wd (Sm (Zf (Zo underlying40 rfl sizeOf3 rfl rfl) ?_))
 replace hb1 := (((hb1.Zc hU20).Zc hU21).Zc hU22).Zc hU23
 refine Zk isAgg3 rfl hb1 rfl (Zf (Zo underlying40 rfl sizeOf3 rfl rfl) (Zk isAgg3 rfl hb1 rfl (Qs 1 rfl (Za ?_))))
 replace HU := (((HU.Zb hU20).Zb hU21).Zb hU22).Zb hU23
 refine W_if rfl (fun q7 => ?_) fun q7 => ?_
 ·refine Zl (Qs 1 rfl (Zf (Zo underlying40 rfl sizeOf3 rfl rfl) (Zk isAgg3 rfl hb1 rfl (Zj (Zv rfl call38 rfl) (Yv _ ((((ht.Zc hU20).Zc hU21).Zc hU22).Zc hU23) (show rg x.2.2.2.1 from hok.2.2)) ?_))))
  rintro v w24 ⟨rfl, hU24⟩
  have:=hU24.size
  try replace hW := hW.Zb hU24
  refine Zf (r_addstr (a := [47]) (b := dig x.2.2.2.1) rfl rfl (by simp only [jnw2, List.length_append, List.length_cons, List.length_nil]; omega)) (Zf (r_addstr (a := jnw [([99, 111, 100, 101, 100]), (dig x.2.2.1)]) (b := [47] ++ (dig x.2.2.2.1)) rfl rfl (by simp only [jnw2, List.length_append, List.length_cons, List.length_nil]; omega)) (Qs 1 rfl (Za (Sn (Qs 2 rfl (Za (Zn (Zg (v := .string (strOfNums ((jnw [([99, 111, 100, 101, 100]), (dig x.2.2.1)]) ++ ([47] ++ (dig x.2.2.2.1))))) rfl (Z9 results40 rfl) ?_))))))))
  exact ⟨_, rfl, (by rw [btx_other (by omega) (by omega) q7, show x.2.1 = 2 from by omega, jnw2]; rfl), (HU.Zb hU24)⟩
 refine Zi (Sn (Qs 2 rfl (Za (Zn (Zg (v := .string (strOfNums (jnw [([99, 111, 100, 101, 100]), (dig x.2.2.1)]))) rfl (Z9 results40 rfl) ?_)))))
 exact ⟨_, rfl, (by rw [btx_same (by omega) (by omega) (Classical.not_not.1 q7), show x.2.1 = 2 from by omega, jnw2]; rfl), HU⟩
theorem it1 {p : PT} {ba : Option Addr} {bm bc : Nat} (w : World)  :
  Calls Tryz.prog 65 #[.agg #[.int .i64 p.at_, .int .i64 p.sz, .bool (decide (p.sk = true)), .int .i64 p.pl, .int .i64 p.hd.1, .int .i64 p.hd.2.1, .int .u32 p.hd.2.2.1, .bool (decide (p.hd.2.2.2 = true)), .slice ba bm bc, .int .u32 p.ck]] w (Ret fun v w' => v = .bool (decide (0 ≤ p.hd.2.1)) ∧ Upd No w w') := by
 have HU := Upd.Yo w
 refine Zq func65 rfl ntmps65 (by simp) (Sn (Xb rfl ?_))
 intro B1 w1 hB1 hU1 hzz1 hb1
 exact Qs 1 rfl (Za (Sn (Zf (Zo underlying37 rfl sizeOf34 rfl rfl) (Zf (Zo underlying34 rfl sizeOf3 rfl rfl) (Zk isAgg3 rfl hb1 rfl (Qs 2 rfl (Za (Zn (Zg rfl (Z9 results65 rfl) ⟨_, rfl, rfl, (HU.Zb hU1)⟩)))))))))
theorem it2 {p : PT} {ba : Option Addr} {bm bc : Nat} {g0 : Nat} (w : World) (ht : Tab w g0) (hr : rg p.hd.2.1) :
  Calls Tryz.prog 66 #[.agg #[.int .i64 p.at_, .int .i64 p.sz, .bool (decide (p.sk = true)), .int .i64 p.pl, .int .i64 p.hd.1, .int .i64 p.hd.2.1, .int .u32 p.hd.2.2.1, .bool (decide (p.hd.2.2.2 = true)), .slice ba bm bc, .int .u32 p.ck]] w (Ret fun v w' => v = .string (strOfNums (dig p.hd.2.1)) ∧ Upd No w w') := by
 have HU := Upd.Yo w
 have htl := ht.1
 refine Zq func66 rfl ntmps66 (by simp) (Sn (Xb rfl ?_))
 intro B1 w1 hB1 hU1 hzz1 hb1
 refine Qs 1 rfl (Za (Sn (Zf (Zo underlying37 rfl sizeOf34 rfl rfl) (Zf (Zo underlying34 rfl sizeOf3 rfl rfl) (Zk isAgg3 rfl hb1 rfl (Zj (Zv rfl call38 rfl) (Yv _ (ht.Zc hU1) hr) ?_))))))
 rintro v w2 ⟨rfl, hU2⟩
 have:=hU2.size
 exact Qs 1 rfl (Za (Zn (Zg rfl (Z9 results66 rfl) ⟨_, rfl, rfl, ((HU.Zb hU1).Zb hU2)⟩)))
theorem it3 {p : PT} {ba : Option Addr} {bm bc : Nat} (w : World)  :
  Calls Tryz.prog 67 #[.agg #[.int .i64 p.at_, .int .i64 p.sz, .bool (decide (p.sk = true)), .int .i64 p.pl, .int .i64 p.hd.1, .int .i64 p.hd.2.1, .int .u32 p.hd.2.2.1, .bool (decide (p.hd.2.2.2 = true)), .slice ba bm bc, .int .u32 p.ck]] w (Ret fun v w' => v = .bool (!decide (p.hd.2.2.1 = 0)) ∧ Upd No w w') := by
 have HU := Upd.Yo w
 refine Zq func67 rfl ntmps67 (by simp) (Sn (Xb rfl ?_))
 intro B1 w1 hB1 hU1 hzz1 hb1
 refine Qs 1 rfl (Za (Sn (Zf (Zo underlying37 rfl sizeOf34 rfl rfl) (Zf (Zo underlying34 rfl sizeOf32 rfl rfl) (Zk isAgg32 rfl hb1 rfl (Qs 2 rfl (Za (Zn (Zg (v := .bool (decide (p.hd.2.2.1 ≠ 0))) rfl (Z9 results67 rfl) ?_)))))))))
 exact ⟨_, rfl, (by simp), (HU.Zb hU1)⟩
theorem it4 {p : PT} {ba : Option Addr} {bm bc : Nat} {g0 : Nat} (w : World) (ht : Tab w g0) (hr : 0 ≤ p.hd.2.2.1 ∧ p.hd.2.2.1 < 4294967296) :
  Calls Tryz.prog 68 #[.agg #[.int .i64 p.at_, .int .i64 p.sz, .bool (decide (p.sk = true)), .int .i64 p.pl, .int .i64 p.hd.1, .int .i64 p.hd.2.1, .int .u32 p.hd.2.2.1, .bool (decide (p.hd.2.2.2 = true)), .slice ba bm bc, .int .u32 p.ck]] w (Ret fun v w' => v = .string (strOfNums (digN p.hd.2.2.1.toNat)) ∧ Upd No w w') := by
 have HU := Upd.Yo w
 have htl := ht.1
 refine Zq func68 rfl ntmps68 (by simp) (Sn (Xb rfl ?_))
 intro B1 w1 hB1 hU1 hzz1 hb1
 refine Qs 1 rfl (Za (Sn (Zf (Zo underlying37 rfl sizeOf34 rfl rfl) (Zf (Zo underlying34 rfl sizeOf32 rfl rfl) (Zk isAgg32 rfl hb1 rfl (Zf (ZZ underlying32 underlying101 rfl (wu64 (by omega) (by omega))) (Zj (Zy rfl call69 (v0 := .int .u64 ((p.hd.2.2.1.toNat : Nat) : Int)) Zt rfl) (format_spec _ (ht.Zc hU1) (by omega)) ?_)))))))
 rintro v w2 ⟨rfl, hU2⟩
 have:=hU2.size
 exact Qs 1 rfl (Za (Zn (Zg rfl (Z9 results68 rfl) ⟨_, rfl, rfl, ((HU.Zb hU1).Zb hU2)⟩)))
theorem it5 {p : PT} {ba : Option Addr} {bm bc : Nat} (w : World)  :
  Calls Tryz.prog 70 #[.agg #[.int .i64 p.at_, .int .i64 p.sz, .bool (decide (p.sk = true)), .int .i64 p.pl, .int .i64 p.hd.1, .int .i64 p.hd.2.1, .int .u32 p.hd.2.2.1, .bool (decide (p.hd.2.2.2 = true)), .slice ba bm bc, .int .u32 p.ck]] w (Ret fun v w' => v = .bool (decide (p.hd.2.2.2 = true)) ∧ Upd No w w') := by
 have HU := Upd.Yo w
 refine Zq func70 rfl ntmps70 (by simp) (Sn (Xb rfl ?_))
 intro B1 w1 hB1 hU1 hzz1 hb1
 exact Qs 1 rfl (Za (Sn (Zf (Zo underlying37 rfl sizeOf34 rfl rfl) (Zf (Zo underlying34 rfl sizeOf4 rfl rfl) (Zk isAgg4 rfl hb1 rfl (Qs 1 rfl (Za (Zn (Zg rfl (Z9 results70 rfl) ⟨_, rfl, rfl, (HU.Zb hU1)⟩)))))))))
theorem it6 {p : PT} {ba : Option Addr} {bm bc : Nat} {g0 : Nat} (w : World) (ht : Tab w g0) (hr : 0 ≤ p.ck ∧ p.ck < 4294967296) :
  Calls Tryz.prog 71 #[.agg #[.int .i64 p.at_, .int .i64 p.sz, .bool (decide (p.sk = true)), .int .i64 p.pl, .int .i64 p.hd.1, .int .i64 p.hd.2.1, .int .u32 p.hd.2.2.1, .bool (decide (p.hd.2.2.2 = true)), .slice ba bm bc, .int .u32 p.ck]] w (Ret fun v w' => v = .string (strOfNums (digN p.ck.toNat)) ∧ Upd No w w') := by
 have HU := Upd.Yo w
 have htl := ht.1
 refine Zq func71 rfl ntmps71 (by simp) (Sn (Xb rfl ?_))
 intro B1 w1 hB1 hU1 hzz1 hb1
 refine Qs 1 rfl (Za (Sn (Zf (Zo underlying37 rfl sizeOf32 rfl rfl) (Zk isAgg32 rfl hb1 rfl (Zf (ZZ underlying32 underlying101 rfl (wu64 (by omega) (by omega))) (Zj (Zy rfl call69 (v0 := .int .u64 ((p.ck.toNat : Nat) : Int)) Zt rfl) (format_spec _ (ht.Zc hU1) (by omega)) ?_))))))
 rintro v w2 ⟨rfl, hU2⟩
 have:=hU2.size
 exact Qs 1 rfl (Za (Zn (Zg rfl (Z9 results71 rfl) ⟨_, rfl, rfl, ((HU.Zb hU1).Zb hU2)⟩)))
theorem items_spec  (w : World)  :
  Calls Tryz.prog 39 #[] w (Ret fun v w' => ∃ (a' : Option Addr) (c' : Nat), v = .slice a' 3 c' ∧ Own w' (fun g => w.heap.size ≤ g) 110 3 (.slice a' 3 c') 3 (rows encI [([99, 111, 110, 116, 101, 110, 116], .func 65, .func 66), ([100, 105, 99, 116, 105, 111, 110, 97, 114, 121], .func 67, .func 68), ([99, 104, 101, 99, 107], .func 70, .func 71)]) ∧ Upd No w w') := by
 have HU := Upd.Yo w
 refine Zq func39 rfl ntmps39 (by simp) (Sn (Qs 1 rfl (Za (Sn (Zf (ZF (pl := #[(0, 1), (1, 1), (2, 1)]) (pv := [(0, .string (strOfNums [99, 111, 110, 116, 101, 110, 116])), (1, .func (.func 65) #[] #[]), (2, .func (.func 66) #[] #[])]) (cs := #[.string (strOfNums [99, 111, 110, 116, 101, 110, 116]), .func (.func 65) #[] #[], .func (.func 66) #[] #[]]) zeroValue110 underlying110 (fun w => by kernel_rfl)) (Zf (ZF (pl := #[(0, 1), (1, 1), (2, 1)]) (pv := [(0, .string (strOfNums [100, 105, 99, 116, 105, 111, 110, 97, 114, 121])), (1, .func (.func 67) #[] #[]), (2, .func (.func 68) #[] #[])]) (cs := #[.string (strOfNums [100, 105, 99, 116, 105, 111, 110, 97, 114, 121]), .func (.func 67) #[] #[], .func (.func 68) #[] #[]]) zeroValue110 underlying110 (fun w => by kernel_rfl)) (Zf (ZF (pl := #[(0, 1), (1, 1), (2, 1)]) (pv := [(0, .string (strOfNums [99, 104, 101, 99, 107])), (1, .func (.func 70) #[] #[]), (2, .func (.func 71) #[] #[])]) (cs := #[.string (strOfNums [99, 104, 101, 99, 107]), .func (.func 70) #[] #[], .func (.func 71) #[] #[]]) zeroValue110 underlying110 (fun w => by kernel_rfl)) ?_)))))))
 refine Xz [.string (strOfNums [99, 111, 110, 116, 101, 110, 116]), .func (.func 65) #[] #[], .func (.func 66) #[] #[], .string (strOfNums [100, 105, 99, 116, 105, 111, 110, 97, 114, 121]), .func (.func 67) #[] #[], .func (.func 68) #[] #[], .string (strOfNums [99, 104, 101, 99, 107]), .func (.func 70) #[] #[], .func (.func 71) #[] #[]] underlying106 sizeOf110 zeroValue110 ?_
 intro B1 w1 hB1 hU1 hzz1 hs1
 replace hs1 : Own w1 (Is B1) 110 3 (.slice (some ⟨B1, 0, none⟩) 3 3) 3 (rows encI [([99, 111, 110, 116, 101, 110, 116], .func 65, .func 66), ([100, 105, 99, 116, 105, 111, 110, 97, 114, 121], .func 67, .func 68), ([99, 104, 101, 99, 107], .func 70, .func 71)]) := hs1
 exact Qs 1 rfl (Za (Zn (Zg rfl (Z9 results39 rfl) ⟨_, rfl, (some ⟨B1, 0, none⟩), 3, rfl, hs1.weak, (HU.Zb hU1)⟩)))
theorem line_spec {p : PT} {ba : Option Addr} {bm bc : Nat} {g0 : Nat} (w : World) (ht : Tab w g0) (hok : okP p) (hB : Sl w (fun g => g < w.heap.size) 5 (.slice ba bm bc) bm (rows encK p.bl)) :
  Calls Tryz.prog 17 #[.agg #[.int .i64 p.at_, .int .i64 p.sz, .bool (decide (p.sk = true)), .int .i64 p.pl, .int .i64 p.hd.1, .int .i64 p.hd.2.1, .int .u32 p.hd.2.2.1, .bool (decide (p.hd.2.2.2 = true)), .slice ba bm bc, .int .u32 p.ck]] w (Ret fun v w' => v = .string (strOfNums (lin p)) ∧ Upd No w w') := by
 have HU := Upd.Yo w
 have hl_hB := Ya Y2 (by decide) hB
 have hc_hB := hB.cap.1
 have htl := ht.1
 refine Zq func17 rfl ntmps17 (by simp) (Sn (Xb rfl ?_))
 intro B1 w1 hB1 hU1 hzz1 hb1
 refine Qs 1 rfl (Za (Sm (Zf (Zo underlying37 rfl sizeOf4 rfl rfl) (Zk isAgg4 rfl hb1 rfl (Za ?_)))))
 replace ht := ht.Zc hU1
 replace HU := HU.Zb hU1
 refine W_if rfl (fun q1 => ?_) fun q1 => ?_
 ·refine Zz (ZJ rfl (l0 := tf 0 12) (by kernel_rfl) (Tv rfl (fun _ _ => Zo underlying37 rfl sizeOf3 rfl rfl) (Tl rfl isAgg3 rfl hb1 rfl (Tk 2 (tf 3 12) rfl (YI_c (v := .string (strOfNums (dig p.at_))) rfl (fun w' => Zv rfl call38 rfl) (fun w' hw' => Yv w' (ht.Zc hw') hok.at_)) (Tv rfl (fun _ _ => Zo underlying37 rfl sizeOf3 rfl rfl) (Tl rfl isAgg3 rfl hb1 rfl (Tk 5 (tf 6 12) rfl (YI_c (v := .string (strOfNums (dig p.sz))) rfl (fun w' => Zv rfl call38 rfl) (fun w' hw' => Yv w' (ht.Zc hw') hok.sz)) (Tv rfl (fun _ _ => Zo underlying37 rfl sizeOf3 rfl rfl) (Tl rfl isAgg3 rfl hb1 rfl (Tk 8 (tf 9 12) rfl (YI_c (v := .string (strOfNums (dig p.pl))) rfl (fun w' => Zv rfl call38 rfl) (fun w' hw' => Yv w' (ht.Zc hw') hok.pl)) ?_))))))))))
  intro w2 hU2
  have:=hU2.size
  refine Wo 9 (tf 10 12) rfl ?_
  have hW : Upd No w1 w2 := hU2
  refine Xz [.string (strOfNums [115, 107, 105, 112]), .string (strOfNums (dig p.at_)), .string (strOfNums (dig p.sz)), .string (strOfNums (dig p.pl))] underlying105 sizeOf9 zeroValue9 ?_
  intro B3 w3 hB3 hU3 hzz3 hs3
  try replace hW := hW.Zb hU3
  replace hs3 : Own w3 (Is B3) 9 1 (.slice (some ⟨B3, 0, none⟩) 4 4) 4 (rows encS [([115, 107, 105, 112]), (dig p.at_), (dig p.sz), (dig p.pl)]) := hs3
  refine Za ?_
  intro w4 hS4
  refine bT (Upd No w4) ?_
  have hU4 := hS4.upd
  have:=hU4.size
  try replace hW := hW.Zb hU4
  refine ZQ (Upd.refl _ _) (Tk 10 (tf 11 12) rfl (YI_c (v := .string (strOfNums (jnw [([115, 107, 105, 112]), (dig p.at_), (dig p.sz), (dig p.pl)]))) rfl (fun w' => Zv rfl call37 rfl) (fun w' hw' => Y3 w' (((hs3.Zc hU4).Zc hw').sl) (all4 (P := fun x => Byt x) (lit_ok (by decide)).2 (dig_ok hok.at_).2 (dig_ok hok.sz).2 (dig_ok hok.pl).2) (all4 (P := fun x => x.length ≤ 200) (lit_ok (by decide)).1 (dig_ok hok.at_).1 (dig_ok hok.sz).1 (dig_ok hok.pl).1) (by omega))) (Tq rfl ?_))
  intro w5 hU5
  have:=hU5.size
  try replace hW := hW.Zb hU5
  refine Wd (Zn (Zg (v := .string (strOfNums (jnw [([115, 107, 105, 112]), (dig p.at_), (dig p.sz), (dig p.pl)]))) rfl (Z9 results17 rfl) ?_))
  exact ⟨_, rfl, (by rw [lin_skip q1]), ((((HU.Zb hU2).Zb hU3).Zb hU4).Zb hU5)⟩
 refine Zi (Zz (ZJ rfl (l0 := tf 0 12) (by kernel_rfl) (Tv rfl (fun _ _ => Zo underlying37 rfl sizeOf3 rfl rfl) (Tl rfl isAgg3 rfl hb1 rfl (Tk 2 (tf 3 12) rfl (YI_c (v := .string (strOfNums (dig p.at_))) rfl (fun w' => Zv rfl call38 rfl) (fun w' hw' => Yv w' (ht.Zc hw') hok.at_)) (Tv rfl (fun _ _ => Zo underlying37 rfl sizeOf3 rfl rfl) (Tl rfl isAgg3 rfl hb1 rfl (Tk 5 (tf 6 12) rfl (YI_c (v := .string (strOfNums (dig p.sz))) rfl (fun w' => Zv rfl call38 rfl) (fun w' hw' => Yv w' (ht.Zc hw') hok.sz)) (Tv rfl (fun _ _ => Zo underlying37 rfl sizeOf34 rfl rfl) (Tv rfl (fun _ _ => Zo underlying34 rfl sizeOf3 rfl rfl) (Tl rfl isAgg3 rfl hb1 rfl (Tk 9 (tf 10 12) rfl (YI_c (v := .string (strOfNums (dig p.hd.1))) rfl (fun w' => Zv rfl call38 rfl) (fun w' hw' => Yv w' (ht.Zc hw') hok.h1)) ?_))))))))))))
 intro w6 hU6
 have:=hU6.size
 refine Wo 10 (tf 11 12) rfl ?_
 have hW : Upd No w1 w6 := hU6
 refine Xz [.string (strOfNums [102, 114, 97, 109, 101]), .string (strOfNums (dig p.at_)), .string (strOfNums (dig p.sz)), .string (strOfNums [119, 105, 110, 100, 111, 119]), .string (strOfNums (dig p.hd.1))] underlying105 sizeOf9 zeroValue9 ?_
 intro B7 w7 hB7 hU7 hzz7 hs7
 try replace hW := hW.Zb hU7
 replace hs7 : Own w7 (Is B7) 9 1 (.slice (some ⟨B7, 0, none⟩) 5 5) 5 (rows encS [([102, 114, 97, 109, 101]), (dig p.at_), (dig p.sz), ([119, 105, 110, 100, 111, 119]), (dig p.hd.1)]) := hs7
 refine Za ?_
 intro w8 hS8
 refine bT (Upd No w8) ?_
 have hU8 := hS8.upd
 have:=hU8.size
 try replace hW := hW.Zb hU8
 refine ZQ (Upd.refl _ _) (Tq rfl ?_)
 intro w9 hU9
 have:=hU9.size
 try replace hW := hW.Zb hU9
 refine Wd (Sm (Zj (r_call0 rfl call39 ) (items_spec _ ) ?_))
 rintro v w10 ⟨a10, c10, rfl, hI10, hU10⟩
 have:=hU10.size
 try replace hW := hW.Zb hU10
 replace hI10 := hI10.tight
 have hl_hI10 := Ya encI_len (by decide) hI10.sl
 have hc_hI10 := hI10.sl.cap.1
 refine Zf (ZM underlying106 rfl) (Qs 1 rfl (Za (Zs (W_unroll 4 (ZX (Sn (Zf (v := .bool true) (YL (a := 0) (b := 3) rfl rfl) (Za (Zz (Ct (Zi (Zz ?_))))))))))))
 replace ht := ((((ht.Zc hU6).Zc hU7).Zc hU8).Zc hU9).Zc hU10
 replace hb1 := ((((hb1.Zc hU6).Zc hU7).Zc hU8).Zc hU9).Zc hU10
 refine W_join (fun ρ ds w' => ∃ (a1 : Option Addr) (n1 : Nat) (c1 : Nat) (go1 : Nat), ds = [] ∧ Liv ρ [(1, .pointer (some ⟨B1, 0, none⟩)), (3, .slice a1 n1 c1), (32, .slice a10 3 c10), (33, .int .i64 3), (34, .int .i64 0)] ∧ (go1 = B7 ∨ w10.heap.size ≤ go1) ∧ Own w' (fun g => g = go1) 9 1 (.slice a1 n1 c1) n1 (rows encS (wv6 p)) ∧ Upd (Is B7) w10 w') ?_ ?_
 ·have HJ11 : Upd (Is B7) w10 w10 := Upd.refl _ _
  refine Zs (Sn (Yg ([], .func 0, .func 0) encI_len (by decide) underlying106 sizeOf110 rfl rfl hI10.sl (by omega) (by omega) ?_))
  intro ib12 io12 hc12
  rw [show (0 : Int).toNat = 0 from rfl] at hc12
  refine Zf (YE (cs := [.string (strOfNums [99, 111, 110, 116, 101, 110, 116]), .func (.func 65) #[] #[], .func (.func 66) #[] #[]]) isAgg110 sizeOf110 rfl rfl hc12) (ZB zeroValue110 rfl ?_)
  intro B13 w13 hB13 hU13 hzz13 hb13
  try replace hW := hW.Zb hU13
  refine Xa sizeOf110 rfl rfl rfl rfl hb13 rfl ?_
  intro w14 hU14 hzz14 hb13
  refine Za (Sn (Zf (Zo underlying110 rfl sizeOf108 rfl rfl) (Zk isAgg108 rfl hb13 rfl ?_)))
  replace hb1 := (hb1.Zc hU13).Zh hU14
  refine Xl isAgg37 sizeOf37 rfl hb1 rfl (Zj (r_clos1 call65 rfl rfl (by first | (simp; done) | (simp; rfl))) (it1 _ ) ?_)
  rintro v w15 ⟨rfl, hU15⟩
  have:=hU15.size
  try replace hW := hW.Zb hU15
  refine Za ?_
  replace hs7 := (((((hs7.Zc hU8).Zc hU9).Zc hU10).Zc hU13).Zh hU14).Zc hU15
  replace HJ11 := ((HJ11.Zb hU13).Zr hU14).Zb hU15
  refine W_if rfl (fun q2 => ?_) fun q2 => ?_
  ·refine ZJ rfl (l0 := tf 0 10) (by kernel_rfl) (Tq rfl (Tv rfl (fun _ _ => Zo underlying110 rfl sizeOf9 rfl rfl) ?_))
   replace hb13 := hb13.Zc hU15
   refine Tl rfl isAgg9 rfl hb13 rfl (Tv rfl (fun _ _ => Zo underlying110 rfl sizeOf72 rfl rfl) (Tl rfl isAgg72 rfl hb13 rfl (Tv rfl (fun w' hw' => Xt (cs := [.int .i64 p.at_, .int .i64 p.sz, .bool (decide (p.sk = true)), .int .i64 p.pl, .int .i64 p.hd.1, .int .i64 p.hd.2.1, .int .u32 p.hd.2.2.1, .bool (decide (p.hd.2.2.2 = true)), .slice ba bm bc, .int .u32 p.ck]) isAgg37 sizeOf37 rfl ((hb1.Zc hU15).Zc hw') rfl rfl) (Tk 6 (tf 7 10) rfl (YI_c (v := .string (strOfNums (dig p.hd.2.1))) rfl (fun w' => r_clos1 call66 rfl rfl (by first | (simp; done) | (simp; rfl))) (fun w' hw' => it2 w' ((((ht.Zc hU13).Zh hU14).Zc hU15).Zc hw') hok.h2)) ?_))))
   intro w16 hU16
   have:=hU16.size
   try replace hW := hW.Zb hU16
   refine Wo 7 (tf 8 10) rfl ?_
   have hW : Upd No w15 w16 := hU16
   refine Xz [.string (strOfNums [99, 111, 110, 116, 101, 110, 116]), .string (strOfNums (dig p.hd.2.1))] underlying105 sizeOf9 zeroValue9 ?_
   intro B17 w17 hB17 hU17 hzz17 hs17
   try replace hW := hW.Zb hU17
   replace hs17 : Own w17 (Is B17) 9 1 (.slice (some ⟨B17, 0, none⟩) 2 2) 2 (rows encS [([99, 111, 110, 116, 101, 110, 116]), (dig p.hd.2.1)]) := hs17
   refine Za ?_
   intro w18 hS18
   have hX : Upd No w15 w18 := hW.Zb hS18.upd
   refine bF hX ?_
   have hU18 := hS18.upd
   have:=hU18.size
   try replace hW := hW.Zb hU18
   refine ZQ hX ?_
   intro w19 hU19
   have:=hU19.size
   try replace hW := hW.Zb hU19
   refine Wo 8 (tf 9 10) rfl ?_
   have hW : Upd No w18 w19 := hU19
   replace hs7 := (((hs7.Zc hU16).Zc hU17).Zc hU18).Zc hU19
   refine Ye (cs3 := rows encS ([([102, 114, 97, 109, 101]), (dig p.at_), (dig p.sz), ([119, 105, 110, 100, 111, 119]), (dig p.hd.1)] ++ [([99, 111, 110, 116, 101, 110, 116]), (dig p.hd.2.1)])) (tot := 7) (by first | rfl | exact (ZR _ _).symm | simp) underlying105 (ti := Tryz.t9) (z := .string (strOfNums [])) (sz := 1) (by' := 16) rfl rfl rfl rfl rfl (by decide) rfl hs7 rfl ((hs17.Zc hU18).Zc hU19).sl (Yn encS_one _) (by omega) (by simp only [maxLen]; omega) (by omega) ?_
   intro a20 c20 w20 hU20 hzz20 hO20
   replace hB := (((((hB.Zc hU1).Zc hU6).Zc hU7).Zc hU8).Zc hU9).Zc hU10
   replace HU := ((((HU.Zb hU6).Zb hU7).Zb hU8).Zb hU9).Zb hU10
   replace HJ11 := (((HJ11.Zb hU16).Zb hU17).Zb hU18).Zb hU19
   clear hs7
   have:=hU20.size
   replace hO20 := hO20.tight
   have hl_hO20 := Ya Y1 (by decide) hO20.sl
   have hc_hO20 := hO20.sl.cap.1
   obtain ⟨go21, hgo21, hOo21⟩ := hO20.one (by omega)
   replace hgo21 : ((((go21 = B7) ∨ go21 = w19.heap.size)) ∧ go21 < w20.heap.size) := hgo21
   replace HJ11 := HJ11.trans hU20
   clear hO20
   refine Za ?_
   intro w22 hS22
   refine bT (Upd No w22) ?_
   have hU22 := hS22.upd
   have:=hU22.size
   try replace hW := hW.Zb hU22
   refine ZQ (Upd.refl _ _) (Tq rfl ?_)
   intro w23 hU23
   have:=hU23.size
   try replace hW := hW.Zb hU23
   refine Wd ?_
   exact ⟨a20, 7, c20, go21, rfl, ⟨rfl, rfl, rfl, rfl, rfl, trivial⟩, (by omega), (show Own w23 (fun g => g = go21) 9 1 (.slice a20 7 c20) 7 (rows encS (wv6 p)) from by rw [show wv6 p = wv5 p ++ wsz p from rfl, wsz_t q2]; exact (((hOo21.tight).Zc hU22).Zc hU23).weak), ((HJ11.Zb hU22).Zb hU23)⟩
  refine Zi ?_
  exact ⟨(some ⟨B7, 0, none⟩), 5, 5, B7, rfl, ⟨rfl, rfl, rfl, rfl, rfl, trivial⟩, (by omega), (show Own w15 (fun g => g = B7) 9 1 (.slice (some ⟨B7, 0, none⟩) 5 5) 5 (rows encS (wv6 p)) from by rw [show wv6 p = wv5 p ++ wsz p from rfl, wsz_f q2]; rw [List.append_nil]; exact hs7.weak), HJ11⟩
 rintro ρ24 ds24 w24 ⟨a1, n1, c1, go1, rfl, hl24, hgo0, hL, hU24⟩
 obtain ⟨ρ24x, rfl⟩ : ∃ ρx, ρ24 = upds ρx [(1, .pointer (some ⟨B1, 0, none⟩)), (3, .slice a1 n1 c1), (32, .slice a10 3 c10), (33, .int .i64 3), (34, .int .i64 0)] := ⟨_, ZD hl24⟩
 replace hB := (((((hB.Zc hU1).Zc hU6).Zc hU7).Zc hU8).Zc hU9).Zc hU10
 replace HU := ((((HU.Zb hU6).Zb hU7).Zb hU8).Zb hU9).Zb hU10
 replace hs7 := ((hs7.Zc hU8).Zc hU9).Zc hU10
 clear hl24
 have:=hU24.size
 have hz0 := wv6_len p
 replace hL := hL.tight
 have hl_hL := Ya Y1 (by decide) hL.sl
 have hc_hL := hL.sl.cap.1
 refine Zl (Zf (Yf rfl rfl (show _ = (1 : Int) from by decide)) (Qs 1 rfl (Za (ZX (Sn (Zf (v := .bool true) (YL (a := 1) (b := 3) rfl rfl) (Za (Zz (Ct (Zi (Zz ?_)))))))))))
 replace ht := ht.Zh hU24
 replace hb1 := hb1.Zh hU24
 replace hI10 := hI10.Zh hU24
 refine W_join (fun ρ ds w' => ∃ (a1 : Option Addr) (n1 : Nat) (c1 : Nat) (go2 : Nat), ds = [] ∧ Liv ρ [(1, .pointer (some ⟨B1, 0, none⟩)), (3, .slice a1 n1 c1), (32, .slice a10 3 c10), (33, .int .i64 3), (34, .int .i64 1)] ∧ (go2 = go1 ∨ w24.heap.size ≤ go2) ∧ Own w' (fun g => g = go2) 9 1 (.slice a1 n1 c1) n1 (rows encS (wv7 p)) ∧ Upd (Is go1) w24 w') ?_ ?_
 ·have HJ25 : Upd (Is go1) w24 w24 := Upd.refl _ _
  refine Zs (Sn (Yg ([], .func 0, .func 0) encI_len (by decide) underlying106 sizeOf110 rfl rfl hI10.sl (by omega) (by omega) ?_))
  intro ib26 io26 hc26
  rw [show (1 : Int).toNat = 1 from rfl] at hc26
  refine Zf (YE (cs := [.string (strOfNums [100, 105, 99, 116, 105, 111, 110, 97, 114, 121]), .func (.func 67) #[] #[], .func (.func 68) #[] #[]]) isAgg110 sizeOf110 rfl rfl hc26) (ZB zeroValue110 rfl ?_)
  intro B27 w27 hB27 hU27 hzz27 hb27
  try replace hW := hW.Zb hU27
  refine Xa sizeOf110 rfl rfl rfl rfl hb27 rfl ?_
  intro w28 hU28 hzz28 hb27
  refine Za (Sn (Zf (Zo underlying110 rfl sizeOf108 rfl rfl) (Zk isAgg108 rfl hb27 rfl ?_)))
  replace hb1 := (hb1.Zc hU27).Zh hU28
  refine Xl isAgg37 sizeOf37 rfl hb1 rfl (Zj (r_clos1 call67 rfl rfl (by first | (simp; done) | (simp; rfl))) (it3 _ ) ?_)
  rintro v w29 ⟨rfl, hU29⟩
  have:=hU29.size
  try replace hW := hW.Zb hU29
  refine Za ?_
  replace hL := ((hL.Zc hU27).Zh hU28).Zc hU29
  replace HJ25 := ((HJ25.Zb hU27).Zr hU28).Zb hU29
  by_cases q3 : p.hd.2.2.1 = 0
  ·rw [decide_eq_true q3]
   simp only [Bool.not_true, Bool.not_false]
   refine Cf (Zi ?_)
   exact ⟨a1, n1, c1, go1, rfl, ⟨rfl, rfl, rfl, rfl, rfl, trivial⟩, (by omega), (show Own w29 (fun g => g = go1) 9 1 (.slice a1 n1 c1) n1 (rows encS (wv7 p)) from by rw [show wv7 p = wv6 p ++ wdi p from rfl, wdi_f q3]; rw [List.append_nil]; exact hL.weak), HJ25⟩
  rw [decide_eq_false q3]
  simp only [Bool.not_true, Bool.not_false]
  refine Ct (ZJ rfl (l0 := tf 0 10) (by kernel_rfl) (Tq rfl (Tv rfl (fun _ _ => Zo underlying110 rfl sizeOf9 rfl rfl) ?_)))
  replace hb27 := hb27.Zc hU29
  refine Tl rfl isAgg9 rfl hb27 rfl (Tv rfl (fun _ _ => Zo underlying110 rfl sizeOf72 rfl rfl) (Tl rfl isAgg72 rfl hb27 rfl (Tv rfl (fun w' hw' => Xt (cs := [.int .i64 p.at_, .int .i64 p.sz, .bool (decide (p.sk = true)), .int .i64 p.pl, .int .i64 p.hd.1, .int .i64 p.hd.2.1, .int .u32 p.hd.2.2.1, .bool (decide (p.hd.2.2.2 = true)), .slice ba bm bc, .int .u32 p.ck]) isAgg37 sizeOf37 rfl ((hb1.Zc hU29).Zc hw') rfl rfl) (Tk 6 (tf 7 10) rfl (YI_c (v := .string (strOfNums (digN p.hd.2.2.1.toNat))) rfl (fun w' => r_clos1 call68 rfl rfl (by first | (simp; done) | (simp; rfl))) (fun w' hw' => it4 w' ((((ht.Zc hU27).Zh hU28).Zc hU29).Zc hw') hok.h3)) ?_))))
  intro w30 hU30
  have:=hU30.size
  try replace hW := hW.Zb hU30
  refine Wo 7 (tf 8 10) rfl ?_
  have hW : Upd No w29 w30 := hU30
  refine Xz [.string (strOfNums [100, 105, 99, 116, 105, 111, 110, 97, 114, 121]), .string (strOfNums (digN p.hd.2.2.1.toNat))] underlying105 sizeOf9 zeroValue9 ?_
  intro B31 w31 hB31 hU31 hzz31 hs31
  try replace hW := hW.Zb hU31
  replace hs31 : Own w31 (Is B31) 9 1 (.slice (some ⟨B31, 0, none⟩) 2 2) 2 (rows encS [([100, 105, 99, 116, 105, 111, 110, 97, 114, 121]), (digN p.hd.2.2.1.toNat)]) := hs31
  refine Za ?_
  intro w32 hS32
  have hX : Upd No w29 w32 := hW.Zb hS32.upd
  refine bF hX ?_
  have hU32 := hS32.upd
  have:=hU32.size
  try replace hW := hW.Zb hU32
  refine ZQ hX ?_
  intro w33 hU33
  have:=hU33.size
  try replace hW := hW.Zb hU33
  refine Wo 8 (tf 9 10) rfl ?_
  have hW : Upd No w32 w33 := hU33
  replace hL := (((hL.Zc hU30).Zc hU31).Zc hU32).Zc hU33
  refine Ye (cs3 := rows encS ((wv6 p) ++ [([100, 105, 99, 116, 105, 111, 110, 97, 114, 121]), (digN p.hd.2.2.1.toNat)])) (tot := n1 + 2) (by first | rfl | exact (ZR _ _).symm | simp) underlying105 (ti := Tryz.t9) (z := .string (strOfNums [])) (sz := 1) (by' := 16) rfl rfl rfl rfl rfl (by decide) rfl hL rfl ((hs31.Zc hU32).Zc hU33).sl (Yn encS_one _) (by omega) (by simp only [maxLen]; omega) (by omega) ?_
  intro a34 c34 w34 hU34 hzz34 hO34
  replace hB := hB.Zh hU24
  replace HU := HU.t1 hU24
  replace HJ25 := (((HJ25.Zb hU30).Zb hU31).Zb hU32).Zb hU33
  clear hL
  have:=hU34.size
  replace hO34 := hO34.tight
  have hl_hO34 := Ya Y1 (by decide) hO34.sl
  have hc_hO34 := hO34.sl.cap.1
  obtain ⟨go35, hgo35, hOo35⟩ := hO34.one (by omega)
  replace hgo35 : ((((((go35 = go1) ∧ go35 < w24.heap.size)) ∨ go35 = w33.heap.size)) ∧ go35 < w34.heap.size) := hgo35
  replace HJ25 := HJ25.trans hU34
  clear hO34
  refine Za ?_
  intro w36 hS36
  refine bT (Upd No w36) ?_
  have hU36 := hS36.upd
  have:=hU36.size
  try replace hW := hW.Zb hU36
  refine ZQ (Upd.refl _ _) (Tq rfl ?_)
  intro w37 hU37
  have:=hU37.size
  try replace hW := hW.Zb hU37
  refine Wd ?_
  exact ⟨a34, (n1 + 2), c34, go35, rfl, ⟨rfl, rfl, rfl, rfl, rfl, trivial⟩, (by omega), (show Own w37 (fun g => g = go35) 9 1 (.slice a34 (n1 + 2) c34) (n1 + 2) (rows encS (wv7 p)) from by rw [show wv7 p = wv6 p ++ wdi p from rfl, wdi_t q3]; exact (((hOo35.tight).Zc hU36).Zc hU37).weak), ((HJ25.Zb hU36).Zb hU37)⟩
 rintro ρ38 ds38 w38 ⟨a1, n1, c1, go2, rfl, hl38, hgo1, hL, hU38⟩
 obtain ⟨ρ38x, rfl⟩ : ∃ ρx, ρ38 = upds ρx [(1, .pointer (some ⟨B1, 0, none⟩)), (3, .slice a1 n1 c1), (32, .slice a10 3 c10), (33, .int .i64 3), (34, .int .i64 1)] := ⟨_, ZD hl38⟩
 replace hB := hB.Zh hU24
 replace HU := HU.t1 hU24
 clear hl38
 have:=hU38.size
 have hz1 := wv7_len p
 replace hL := hL.tight
 have hl_hL := Ya Y1 (by decide) hL.sl
 have hc_hL := hL.sl.cap.1
 refine Zl (Zf (Yf rfl rfl (show _ = (2 : Int) from by decide)) (Qs 1 rfl (Za (ZX (Sn (Zf (v := .bool true) (YL (a := 2) (b := 3) rfl rfl) (Za (Zz (Ct (Zi (Zz ?_)))))))))))
 replace ht := ht.Zh hU38
 replace hb1 := hb1.Zh hU38
 refine W_join (fun ρ ds w' => ∃ (a1 : Option Addr) (n1 : Nat) (c1 : Nat) (go3 : Nat), ds = [] ∧ Liv ρ [(1, .pointer (some ⟨B1, 0, none⟩)), (3, .slice a1 n1 c1), (32, .slice a10 3 c10), (33, .int .i64 3), (34, .int .i64 2)] ∧ (go3 = go2 ∨ w38.heap.size ≤ go3) ∧ Own w' (fun g => g = go3) 9 1 (.slice a1 n1 c1) n1 (rows encS (wh p)) ∧ Upd (Is go2) w38 w') ?_ ?_
 ·have HJ39 : Upd (Is go2) w38 w38 := Upd.refl _ _
  refine Zs (Sn (Yg ([], .func 0, .func 0) encI_len (by decide) underlying106 sizeOf110 rfl rfl (hI10.Zh hU38).sl (by omega) (by omega) ?_))
  intro ib40 io40 hc40
  rw [show (2 : Int).toNat = 2 from rfl] at hc40
  refine Zf (YE (cs := [.string (strOfNums [99, 104, 101, 99, 107]), .func (.func 70) #[] #[], .func (.func 71) #[] #[]]) isAgg110 sizeOf110 rfl rfl hc40) (ZB zeroValue110 rfl ?_)
  intro B41 w41 hB41 hU41 hzz41 hb41
  try replace hW := hW.Zb hU41
  refine Xa sizeOf110 rfl rfl rfl rfl hb41 rfl ?_
  intro w42 hU42 hzz42 hb41
  refine Za (Sn (Zf (Zo underlying110 rfl sizeOf108 rfl rfl) (Zk isAgg108 rfl hb41 rfl ?_)))
  replace hb1 := (hb1.Zc hU41).Zh hU42
  refine Xl isAgg37 sizeOf37 rfl hb1 rfl (Zj (r_clos1 call70 rfl rfl (by first | (simp; done) | (simp; rfl))) (it5 _ ) ?_)
  rintro v w43 ⟨rfl, hU43⟩
  have:=hU43.size
  try replace hW := hW.Zb hU43
  refine Za ?_
  replace hL := ((hL.Zc hU41).Zh hU42).Zc hU43
  replace HJ39 := ((HJ39.Zb hU41).Zr hU42).Zb hU43
  refine W_if rfl (fun q4 => ?_) fun q4 => ?_
  ·refine ZJ rfl (l0 := tf 0 10) (by kernel_rfl) (Tq rfl (Tv rfl (fun _ _ => Zo underlying110 rfl sizeOf9 rfl rfl) ?_))
   replace hb41 := hb41.Zc hU43
   refine Tl rfl isAgg9 rfl hb41 rfl (Tv rfl (fun _ _ => Zo underlying110 rfl sizeOf72 rfl rfl) (Tl rfl isAgg72 rfl hb41 rfl (Tv rfl (fun w' hw' => Xt (cs := [.int .i64 p.at_, .int .i64 p.sz, .bool (decide (p.sk = true)), .int .i64 p.pl, .int .i64 p.hd.1, .int .i64 p.hd.2.1, .int .u32 p.hd.2.2.1, .bool (decide (p.hd.2.2.2 = true)), .slice ba bm bc, .int .u32 p.ck]) isAgg37 sizeOf37 rfl ((hb1.Zc hU43).Zc hw') rfl rfl) (Tk 6 (tf 7 10) rfl (YI_c (v := .string (strOfNums (digN p.ck.toNat))) rfl (fun w' => r_clos1 call71 rfl rfl (by first | (simp; done) | (simp; rfl))) (fun w' hw' => it6 w' ((((ht.Zc hU41).Zh hU42).Zc hU43).Zc hw') hok.ck)) ?_))))
   intro w44 hU44
   have:=hU44.size
   try replace hW := hW.Zb hU44
   refine Wo 7 (tf 8 10) rfl ?_
   have hW : Upd No w43 w44 := hU44
   refine Xz [.string (strOfNums [99, 104, 101, 99, 107]), .string (strOfNums (digN p.ck.toNat))] underlying105 sizeOf9 zeroValue9 ?_
   intro B45 w45 hB45 hU45 hzz45 hs45
   try replace hW := hW.Zb hU45
   replace hs45 : Own w45 (Is B45) 9 1 (.slice (some ⟨B45, 0, none⟩) 2 2) 2 (rows encS [([99, 104, 101, 99, 107]), (digN p.ck.toNat)]) := hs45
   refine Za ?_
   intro w46 hS46
   have hX : Upd No w43 w46 := hW.Zb hS46.upd
   refine bF hX ?_
   have hU46 := hS46.upd
   have:=hU46.size
   try replace hW := hW.Zb hU46
   refine ZQ hX ?_
   intro w47 hU47
   have:=hU47.size
   try replace hW := hW.Zb hU47
   refine Wo 8 (tf 9 10) rfl ?_
   have hW : Upd No w46 w47 := hU47
   replace hL := (((hL.Zc hU44).Zc hU45).Zc hU46).Zc hU47
   refine Ye (cs3 := rows encS ((wv7 p) ++ [([99, 104, 101, 99, 107]), (digN p.ck.toNat)])) (tot := n1 + 2) (by first | rfl | exact (ZR _ _).symm | simp) underlying105 (ti := Tryz.t9) (z := .string (strOfNums [])) (sz := 1) (by' := 16) rfl rfl rfl rfl rfl (by decide) rfl hL rfl ((hs45.Zc hU46).Zc hU47).sl (Yn encS_one _) (by omega) (by simp only [maxLen]; omega) (by omega) ?_
   intro a48 c48 w48 hU48 hzz48 hO48
   replace hB := hB.Zh hU38
   replace HU := HU.t1 hU38
   replace HJ39 := (((HJ39.Zb hU44).Zb hU45).Zb hU46).Zb hU47
   clear hL
   have:=hU48.size
   replace hO48 := hO48.tight
   have hl_hO48 := Ya Y1 (by decide) hO48.sl
   have hc_hO48 := hO48.sl.cap.1
   obtain ⟨go49, hgo49, hOo49⟩ := hO48.one (by omega)
   replace hgo49 : ((((((go49 = go2) ∧ go49 < w38.heap.size)) ∨ go49 = w47.heap.size)) ∧ go49 < w48.heap.size) := hgo49
   replace HJ39 := HJ39.trans hU48
   clear hO48
   refine Za ?_
   intro w50 hS50
   refine bT (Upd No w50) ?_
   have hU50 := hS50.upd
   have:=hU50.size
   try replace hW := hW.Zb hU50
   refine ZQ (Upd.refl _ _) (Tq rfl ?_)
   intro w51 hU51
   have:=hU51.size
   try replace hW := hW.Zb hU51
   refine Wd ?_
   exact ⟨a48, (n1 + 2), c48, go49, rfl, ⟨rfl, rfl, rfl, rfl, rfl, trivial⟩, (by omega), (show Own w51 (fun g => g = go49) 9 1 (.slice a48 (n1 + 2) c48) (n1 + 2) (rows encS (wh p)) from by rw [show wh p = wv7 p ++ wck p from rfl, wck_t q4]; exact (((hOo49.tight).Zc hU50).Zc hU51).weak), ((HJ39.Zb hU50).Zb hU51)⟩
  refine Zi ?_
  exact ⟨a1, n1, c1, go2, rfl, ⟨rfl, rfl, rfl, rfl, rfl, trivial⟩, (by omega), (show Own w43 (fun g => g = go2) 9 1 (.slice a1 n1 c1) n1 (rows encS (wh p)) from by rw [show wh p = wv7 p ++ wck p from rfl, wck_f q4]; rw [List.append_nil]; exact hL.weak), HJ39⟩
 rintro ρ52 ds52 w52 ⟨a1, n1, c1, go3, rfl, hl52, hgo2, hL, hU52⟩
 obtain ⟨ρ52x, rfl⟩ : ∃ ρx, ρ52 = upds ρx [(1, .pointer (some ⟨B1, 0, none⟩)), (3, .slice a1 n1 c1), (32, .slice a10 3 c10), (33, .int .i64 3), (34, .int .i64 2)] := ⟨_, ZD hl52⟩
 replace hB := hB.Zh hU38
 replace HU := HU.t1 hU38
 replace hI10 := hI10.Zh hU38
 clear hl52
 have:=hU52.size
 have hz2 := wh_len p
 replace hL := hL.tight
 have hl_hL := Ya Y1 (by decide) hL.sl
 have hc_hL := hL.sl.cap.1
 refine Zl (Zf (Yf rfl rfl (show _ = (3 : Int) from by decide)) (Qs 1 rfl (Za (ZX (Sn (Zf (v := .bool false) (YL (a := 3) (b := 3) rfl rfl) (Za (Zz (Cf (ZI (Sm (Zf (Zo underlying37 rfl sizeOf35 rfl rfl) (Zk isAgg35 rfl (hb1.Zh hU52) rfl (Zf (ZM underlying35 rfl) (Qs 1 rfl (Za (Zs ?_)))))))))))))))))
 rw [← wq_0 p] at hL
 refine ZS (fun mu ρ ds w' => ∃ (k : Nat) (a1 : Option Addr) (n1 : Nat) (c1 : Nat) (go : Nat), bm - k = mu ∧ ds = [] ∧ Liv ρ [(3, .slice a1 n1 c1), (53, .slice ba bm bc), (54, .int .i64 bm), (55, .int .i64 k)] ∧ k ≤ bm ∧ (go = go3 ∨ w52.heap.size ≤ go) ∧ Own w' (fun g => g = go) 9 1 (.slice a1 n1 c1) n1 (rows encS (wq p k)) ∧ Upd (Is go3) w52 w') _ ⟨0, a1, n1, c1, go3, rfl, rfl, ⟨(by first | rfl | exact Zt (by omega) | exact Zt (by simp)), rfl, rfl, (by first | rfl | exact Zt (by omega) | exact Zt (by simp)), trivial⟩, (by omega), (by omega), hL.weak, Upd.refl _ _⟩ ?_
 rintro m53 ρ53 ds53 w53 ⟨k, a1, n1, c1, go, rfl, rfl, hl53, hk, hgo, hL, hU53⟩
 obtain ⟨ρ53x, rfl⟩ : ∃ ρx, ρ53 = upds ρx [(3, .slice a1 n1 c1), (53, .slice ba bm bc), (54, .int .i64 bm), (55, .int .i64 k)] := ⟨_, ZD hl53⟩
 replace ht := ht.Zh hU52
 replace hB := hB.Zh hU52
 replace HU := HU.t1 hU52
 clear hl53
 have:=hU53.size
 have hwc := wq_cnt hok k
 have hkb := ok_gd hok k
 replace hL := hL.tight
 have hl_hL := Ya Y1 (by decide) hL.sl
 have hc_hL := hL.sl.cap.1
 have hbn := hok.bn
 have HL53 := hU53
 refine Sn (Qs 1 rfl (Za (Zz (W_if rfl (fun q5 => ?_) fun q5 => ?_))))
 ·refine Zi (Zz (Zs (Sn (Yg (0, 0, 0, 0, false) Y2 (by decide) underlying35 sizeOf40 rfl rfl (hB.Zh hU53) (by omega) (by omega) ?_))))
  intro ib54 io54 hc54
  try rw [Int.toNat_natCast] at hc54
  refine Zf (YE (cs := [.int .i64 ((p.bl.getD k (0, 0, 0, 0, false)).1), .int .i64 ((p.bl.getD k (0, 0, 0, 0, false)).2.1), .int .i64 ((p.bl.getD k (0, 0, 0, 0, false)).2.2.1), .int .i64 ((p.bl.getD k (0, 0, 0, 0, false)).2.2.2.1), .bool (decide ((p.bl.getD k (0, 0, 0, 0, false)).2.2.2.2 = true))]) isAgg40 sizeOf40 rfl rfl hc54) (ZB zeroValue40 rfl ?_)
  intro B55 w55 hB55 hU55 hzz55 hb55
  try replace hW := hW.Zb hU55
  refine Xa sizeOf40 rfl rfl rfl rfl hb55 rfl ?_
  intro w56 hU56 hzz56 hb55
  refine Za (Zl (Qs 1 rfl (Xl isAgg40 sizeOf40 rfl hb55 rfl (Zj (Zv rfl call40 rfl) (text_spec _ (((ht.Zh hU53).Zc hU55).Zh hU56) hkb) ?_))))
  rintro v w57 ⟨rfl, hU57⟩
  have:=hU57.size
  try replace hW := hW.Zb hU57
  refine Xz [.string (strOfNums (btx (p.bl.getD k (0, 0, 0, 0, false))))] underlying105 sizeOf9 zeroValue9 ?_
  intro B58 w58 hB58 hU58 hzz58 hs58
  try replace hW := hW.Zb hU58
  replace hs58 : Own w58 (Is B58) 9 1 (.slice (some ⟨B58, 0, none⟩) 1 1) 1 (rows encS [(btx (p.bl.getD k (0, 0, 0, 0, false)))]) := hs58
  replace hL := (((hL.Zc hU55).Zh hU56).Zc hU57).Zc hU58
  refine Ye (cs3 := rows encS ((wq p k) ++ [(btx (p.bl.getD k (0, 0, 0, 0, false)))])) (tot := n1 + 1) (by first | rfl | exact (ZR _ _).symm | simp) underlying105 (ti := Tryz.t9) (z := .string (strOfNums [])) (sz := 1) (by' := 16) rfl rfl rfl rfl rfl (by decide) rfl hL rfl hs58.sl (Yn encS_one _) (by omega) (by simp only [maxLen]; omega) (by omega) ?_
  intro a59 c59 w59 hU59 hzz59 hO59
  replace HU := HU.t1 hU53
  replace HL53 := (((HL53.Zb hU55).Zr hU56).Zb hU57).Zb hU58
  clear hL
  have:=hU59.size
  replace hO59 := hO59.tight
  have hl_hO59 := Ya Y1 (by decide) hO59.sl
  have hc_hO59 := hO59.sl.cap.1
  obtain ⟨go60, hgo60, hOo60⟩ := hO59.one (by omega)
  replace hgo60 : ((((((go60 = go) ∧ go60 < w53.heap.size)) ∨ go60 = w58.heap.size)) ∧ go60 < w59.heap.size) := hgo60
  replace HL53 := HL53.trans hU59
  clear hO59
  refine Qs 1 rfl (Za (Zl (Xd rfl rfl (Qs 1 rfl (Za ?_)))))
  refine ⟨_, ?_, (k + 1), a59, (n1 + 1), c59, go60, rfl, rfl, ⟨rfl, rfl, rfl, (by first | rfl | exact Zt (by omega) | exact Zt (by simp)), trivial⟩, (by omega), (by omega), (by rw [wq_snoc (by omega)]; exact (hOo60.tight).weak), HL53⟩
  omega
 refine ZI (Sn (Qs 1 rfl (Zj (Zv rfl call37 rfl) (Y3 _ hL.sl (fun x hx => by have h9 := wq_ok hok k x hx; exact h9.2) (fun x hx => by have h9 := wq_ok hok k x hx; omega) (by omega)) ?_)))
 rintro v w61 ⟨rfl, hU61⟩
 have:=hU61.size
 try replace hW := hW.Zb hU61
 refine Qs 1 rfl (Za (Zn (Zg (v := .string (strOfNums (jnw (wq p k)))) rfl (Z9 results17 rfl) ?_)))
 exact ⟨_, rfl, (by rw [wq_lin q1 (by omega)]), ((HU.t1 hU53).Zb hU61)⟩
end Go.Proofs.YtbjjhfoeckkacaaGreatDoor
