/-
  Several texts of this project, put together.
-/
import Derived.Test.YtbjjhfoeckkacaaGreatDoorFZ
import Derived.Test.YtbjjhfoeckkacaaGreatDoorGA
import Derived.Test.YtbjjhfoeckkacaaGreatDoorSA
set_option linter.unusedVariables false
set_option linter.unusedSimpArgs false
set_option maxRecDepth 100000
set_option maxHeartbeats 16000000
namespace Go.Proofs.YtbjjhfoeckkacaaGreatDoor
open Go.Fw _root_.Go.Proofs.Tryz
theorem read_all {a : Option Addr} {n c : Nat} {bs : List Int} (w : World) (hs : Sl w (fun g => g < w.heap.size) 1 (.slice a n c) n (ints .u8 bs)) (hb : Byt bs) (hm : n ≤ 100000) :
  Calls Tryz.prog 5 #[.slice a n c] w (Dual ((ga bs 0).2 = 0) (Ret fun v w' => ∃ (a' : Option Addr) (m' : Nat) (c' : Nat), v = .tuple #[.slice a' m' c', .int .i64 0] ∧ Pts w' w.heap.size w'.heap.size a' m' c' ((ga bs 0).1) ∧ Upd No w w') (Ret fun v w' => v = .tuple #[.slice none 0 0, .int .i64 ((ga bs 0).2)] ∧ Upd No w w')) := by
 have HU := Upd.Yo w
 have hl_hs := ZC hs
 have hc_hs := hs.cap.1
 refine Zq func5 rfl ntmps5 (by simp) (Sn (Qs 2 rfl (Za (Sn (Qs 1 rfl (Zj (Zv rfl call11 rfl) (all_spec _ hs.any hb (by omega)) ?_))))))
 rintro v w1 ⟨a1, m1, c1, rfl, hT1, hU1⟩
 have:=hU1.size
 refine Qs 5 rfl (Za (Sm (Qs 2 rfl (Za ?_))))
 replace HU := HU.Zb hU1
 refine W_if rfl (fun q1 => ?_) fun q1 => ?_
 ·refine Sn (Qs 3 rfl (Za (Zn (Zg rfl (Z2 results5 rfl rfl) ?_))))
  exact Or.inr ⟨(fun h2 => q1 h2), _, rfl, rfl, HU⟩
 refine Zi (Sn (Qs 3 rfl (Za (Zn (Zg (v := .tuple #[.slice a1 m1 c1, .int .i64 0]) rfl (Z2 results5 rfl rfl) ?_)))))
 refine Or.inl ⟨(Classical.not_not.1 q1), ?_⟩
 exact ⟨_, rfl, a1, m1, c1, rfl, (hT1), HU⟩
theorem read_ok {a : Option Addr} {n c : Nat} {bs : List Int} (w : World) (hs : Sl w (fun g => g < w.heap.size) 1 (.slice a n c) n (ints .u8 bs)) (hb : Byt bs) (hm : n ≤ 100000) (he : (ga bs 0).2 = 0) :
  Calls Tryz.prog 5 #[.slice a n c] w (Ret fun v w' => ∃ (a' : Option Addr) (m' : Nat) (c' : Nat), v = .tuple #[.slice a' m' c', .int .i64 0] ∧ Pts w' w.heap.size w'.heap.size a' m' c' ((ga bs 0).1) ∧ Upd No w w') :=
 (read_all w hs hb hm).mono fun e w1 h => Or.elim h (fun h => h.2) (fun h => absurd he h.1)
theorem read_no {a : Option Addr} {n c : Nat} {bs : List Int} (w : World) (hs : Sl w (fun g => g < w.heap.size) 1 (.slice a n c) n (ints .u8 bs)) (hb : Byt bs) (hm : n ≤ 100000) (he : ¬ (ga bs 0).2 = 0) :
  Calls Tryz.prog 5 #[.slice a n c] w (Ret fun v w' => v = .tuple #[.slice none 0 0, .int .i64 ((ga bs 0).2)] ∧ Upd No w w') :=
 (read_all w hs hb hm).mono fun e w1 h => Or.elim h (fun h => absurd h.1 he) (fun h => h.2)
theorem gd_part {vs : List PV} {L : List PT} {i : Nat} (h : vs.map (·.1) = L) : ∃ a m c, vs.getD i pv0 = (L.getD i pt0, a, m, c) := ⟨_, _, _, by rw [← h, map_gd]⟩
theorem hPget {w : World} {lo hi go : Nat} {vs : List PV} {i : Nat} {p : PT} {a : Option Addr} {m c : Nat} (h : Pbs w lo hi go vs) (he : vs.getD i pv0 = (p, a, m, c)) (hi2 : i < vs.length) :
  Sl w (fun g => lo ≤ g ∧ g < hi ∧ g ≠ go) 5 (.slice a m c) m (rows encK p.bl) := by
 have h1 := h.get hi2
 rw [he] at h1
 exact h1
theorem adds_0 {pt : Nat} {t : T7} {x : BK} (w : World) (hp : Blk w pt [.int .i64 t.1, .int .i64 t.2.1, .int .i64 t.2.2.1, .int .i64 t.2.2.2.1, .int .i64 t.2.2.2.2.1, .int .i64 t.2.2.2.2.2.1, .int .i64 t.2.2.2.2.2.2]) (ht : tbd t 4000000000000000) (hx : smB x) (hk : x.2.1 = 0) :
  Calls Tryz.prog 19 #[.pointer (some ⟨pt, 0, none⟩), .agg #[.int .i64 x.1, .int .i64 x.2.1, .int .i64 x.2.2.1, .int .i64 x.2.2.2.1, .bool (decide (x.2.2.2.2 = true))]] w (Ret fun v w' => v = .tuple #[] ∧ Blk w' pt [.int .i64 ((cb t x).1), .int .i64 ((cb t x).2.1), .int .i64 ((cb t x).2.2.1), .int .i64 ((cb t x).2.2.2.1), .int .i64 ((cb t x).2.2.2.2.1), .int .i64 ((cb t x).2.2.2.2.2.1), .int .i64 ((cb t x).2.2.2.2.2.2)] ∧ Upd (Is pt) w w') := by
 have HU : Upd (fun b => b = pt) w w := Upd.refl _ _
 have hbl_hp := hp.lt
 obtain ⟨a1, a2, a3, a4, a5, a6, a7⟩ := ht
 obtain ⟨hx1, hx2, hx3⟩ := hx
 refine Zq func19 rfl ntmps19 (by simp) (Sn (Xb rfl ?_))
 intro B1 w1 hB1 hU1 hzz1 hb1
 refine Za (Zz (ZJ rfl (l0 := tf 0 12) (by kernel_rfl) (Tq rfl (Tq rfl (Tv rfl (fun _ _ => Zo underlying46 rfl sizeOf3 rfl rfl) (Tq rfl (Tq rfl (Tv rfl (fun _ _ => Zo underlying46 rfl sizeOf3 rfl rfl) (Tq rfl (Tq rfl (Tv rfl (fun _ _ => Zo underlying46 rfl sizeOf3 rfl rfl) (Tv rfl (v := .agg #[.pointer (some ⟨pt, 2, none⟩), .pointer (some ⟨pt, 3, none⟩), .pointer (some ⟨pt, 4, none⟩)]) (fun _ _ => YN (pv := [(0, .pointer (some ⟨pt, 2, none⟩)), (1, .pointer (some ⟨pt, 3, none⟩)), (2, .pointer (some ⟨pt, 4, none⟩))]) (cs := #[.pointer (some ⟨pt, 2, none⟩), .pointer (some ⟨pt, 3, none⟩), .pointer (some ⟨pt, 4, none⟩)]) zeroValue114 underlying114 sizeOf113) ?_))))))))))))
 intro w2 hU2
 have:=hU2.size
 refine Wo 10 (tf 11 12) rfl ?_
 have hW : Upd No w1 w2 := hU2
 refine ZB zeroValue114 rfl ?_
 intro B3 w3 hB3 hU3 hzz3 hb3
 try replace hW := hW.Zb hU3
 refine Za ?_
 intro w4 hS4
 have hX : Upd No w1 w4 := hW.Zb hS4.upd
 refine bF hX ?_
 have hU4 := hS4.upd
 have:=hU4.size
 try replace hW := hW.Zb hU4
 refine ZQ hX ?_
 intro w5 hU5
 have:=hU5.size
 try replace hW := hW.Zb hU5
 refine Wo 11 (tf 12 12) rfl ?_
 have hW : Upd No w4 w5 := hU5
 replace hb3 := (hb3.Zc hU4).Zc hU5
 refine Xa sizeOf114 rfl rfl rfl rfl hb3 rfl ?_
 intro w6 hU6 hzz6 hb3
 refine Za ?_
 intro w7 hS7
 refine bT (Upd No w7) ?_
 have hU7 := hS7.upd
 have:=hU7.size
 try replace hW := hW.Zb hU7
 refine Wd (Sn (Zf (Zo underlying40 rfl sizeOf38 rfl rfl) ?_))
 replace hb1 := (((((hb1.Zc hU2).Zc hU3).Zc hU4).Zc hU5).Zh hU6).Zc hU7
 refine Zk isAgg38 rfl hb1 rfl ?_
 rw [show (x.2.1 : Int) = 0 from hk]
 refine Zf (Z0 (len := 3) (i' := 0) (o' := 0) underlying114 sizeOf113 rfl rfl (by omega) (by omega) (by omega)) (Zk isAgg113 rfl (hb3.Zc hU7) rfl (Zf (Yj rfl) ?_))
 replace hp := ((((((hp.Zc hU1).Zc hU2).Zc hU3).Zc hU4).Zc hU5).Zh hU6).Zc hU7
 refine Zk isAgg3 rfl hp rfl (Xd rfl rfl (Zf (Yj rfl) (Xc [.int .i64 t.1, .int .i64 t.2.1, .int .i64 (t.2.2.1 + 1), .int .i64 t.2.2.2.1, .int .i64 t.2.2.2.2.1, .int .i64 t.2.2.2.2.2.1, .int .i64 t.2.2.2.2.2.2] sizeOf3 rfl hp rfl rfl rfl rfl rfl ?_)))
 intro w8 hU8 hzz8 hp
 refine Za (Zz (ZJ rfl (l0 := tf 0 10) (by kernel_rfl) (Tq rfl (Tq rfl (Tv rfl (fun _ _ => Zo underlying46 rfl sizeOf3 rfl rfl) (Tl rfl isAgg3 rfl hp rfl (Tv rfl (fun _ _ => Zo underlying40 rfl sizeOf3 rfl rfl) ?_)))))))
 replace hb1 := hb1.Zh hU8
 refine Tl rfl isAgg3 rfl hb1 rfl (Tv rfl (fun _ _ => Yf rfl rfl ZY) (Tq rfl (Tv rfl (fun _ _ => Zo underlying46 rfl sizeOf3 rfl rfl) ?_)))
 intro w9 hU9
 have:=hU9.size
 try replace hW := hW.Zb hU9
 refine Wo 9 (tf 10 10) rfl ?_
 have hW : Upd No w8 w9 := hU9
 replace hp := hp.Zc hU9
 refine Xc [.int .i64 t.1, .int .i64 t.2.1, .int .i64 (t.2.2.1 + 1), .int .i64 t.2.2.2.1, .int .i64 t.2.2.2.2.1, .int .i64 t.2.2.2.2.2.1, .int .i64 (t.2.2.2.2.2.2 + x.2.2.2.1)] sizeOf3 rfl hp rfl rfl rfl rfl rfl ?_
 intro w10 hU10 hzz10 hp
 refine Za ?_
 intro w11 hS11
 refine bT (Upd No w11) ?_
 have hU11 := hS11.upd
 have:=hU11.size
 try replace hW := hW.Zb hU11
 refine Wd (Sn (Zf (Zo underlying40 rfl sizeOf38 rfl rfl) ?_))
 replace hb1 := ((hb1.Zc hU9).Zh hU10).Zc hU11
 refine Zk isAgg38 rfl hb1 rfl ?_
 rw [show (x.2.1 : Int) = 0 from hk]
 refine Zf (v := .bool true) (Yh (a := 0) (b := 2) rfl rfl) (Za (Ct (ZJ rfl (l0 := tf 0 10) (by kernel_rfl) (Tq rfl (Tq rfl (Tv rfl (fun _ _ => Zo underlying46 rfl sizeOf3 rfl rfl) ?_))))))
 replace hp := hp.Zc hU11
 refine Tl rfl isAgg3 rfl hp rfl (Tv rfl (fun _ _ => Zo underlying40 rfl sizeOf3 rfl rfl) (Tl rfl isAgg3 rfl hb1 rfl (Tv rfl (fun _ _ => Yf rfl rfl ZY) (Tq rfl (Tv rfl (fun _ _ => Zo underlying46 rfl sizeOf3 rfl rfl) ?_)))))
 intro w12 hU12
 have:=hU12.size
 try replace hW := hW.Zb hU12
 refine Wo 9 (tf 10 10) rfl ?_
 have hW : Upd No w11 w12 := hU12
 replace hp := hp.Zc hU12
 refine Xc [.int .i64 t.1, .int .i64 t.2.1, .int .i64 (t.2.2.1 + 1), .int .i64 t.2.2.2.1, .int .i64 t.2.2.2.2.1, .int .i64 (t.2.2.2.2.2.1 + x.2.2.1), .int .i64 (t.2.2.2.2.2.2 + x.2.2.2.1)] sizeOf3 rfl hp rfl rfl rfl rfl rfl ?_
 intro w13 hU13 hzz13 hp
 refine Za ?_
 intro w14 hS14
 refine bT (Upd No w14) ?_
 have hU14 := hS14.upd
 have:=hU14.size
 try replace hW := hW.Zb hU14
 refine Wd (nrm_end (v := .tuple #[]) rfl (res0 results19) ?_)
 exact ⟨_, rfl, rfl, (by rw [cb_0 hk]; exact (hp.Zc hU14)), ((((((((((((((HU.Zb hU1).Zb hU2).Zb hU3).Zb hU4).Zb hU5).Zr hU6).Zb hU7).Zr hU8).Zb hU9).Zr hU10).Zb hU11).Zb hU12).Zr hU13).Zb hU14)⟩
theorem adds_1 {pt : Nat} {t : T7} {x : BK} (w : World) (hp : Blk w pt [.int .i64 t.1, .int .i64 t.2.1, .int .i64 t.2.2.1, .int .i64 t.2.2.2.1, .int .i64 t.2.2.2.2.1, .int .i64 t.2.2.2.2.2.1, .int .i64 t.2.2.2.2.2.2]) (ht : tbd t 4000000000000000) (hx : smB x) (hk : x.2.1 = 1) :
  Calls Tryz.prog 19 #[.pointer (some ⟨pt, 0, none⟩), .agg #[.int .i64 x.1, .int .i64 x.2.1, .int .i64 x.2.2.1, .int .i64 x.2.2.2.1, .bool (decide (x.2.2.2.2 = true))]] w (Ret fun v w' => v = .tuple #[] ∧ Blk w' pt [.int .i64 ((cb t x).1), .int .i64 ((cb t x).2.1), .int .i64 ((cb t x).2.2.1), .int .i64 ((cb t x).2.2.2.1), .int .i64 ((cb t x).2.2.2.2.1), .int .i64 ((cb t x).2.2.2.2.2.1), .int .i64 ((cb t x).2.2.2.2.2.2)] ∧ Upd (Is pt) w w') := by
 have HU : Upd (fun b => b = pt) w w := Upd.refl _ _
 have hbl_hp := hp.lt
 obtain ⟨a1, a2, a3, a4, a5, a6, a7⟩ := ht
 obtain ⟨hx1, hx2, hx3⟩ := hx
 refine Zq func19 rfl ntmps19 (by simp) (Sn (Xb rfl ?_))
 intro B1 w1 hB1 hU1 hzz1 hb1
 refine Za (Zz (ZJ rfl (l0 := tf 0 12) (by kernel_rfl) (Tq rfl (Tq rfl (Tv rfl (fun _ _ => Zo underlying46 rfl sizeOf3 rfl rfl) (Tq rfl (Tq rfl (Tv rfl (fun _ _ => Zo underlying46 rfl sizeOf3 rfl rfl) (Tq rfl (Tq rfl (Tv rfl (fun _ _ => Zo underlying46 rfl sizeOf3 rfl rfl) (Tv rfl (v := .agg #[.pointer (some ⟨pt, 2, none⟩), .pointer (some ⟨pt, 3, none⟩), .pointer (some ⟨pt, 4, none⟩)]) (fun _ _ => YN (pv := [(0, .pointer (some ⟨pt, 2, none⟩)), (1, .pointer (some ⟨pt, 3, none⟩)), (2, .pointer (some ⟨pt, 4, none⟩))]) (cs := #[.pointer (some ⟨pt, 2, none⟩), .pointer (some ⟨pt, 3, none⟩), .pointer (some ⟨pt, 4, none⟩)]) zeroValue114 underlying114 sizeOf113) ?_))))))))))))
 intro w2 hU2
 have:=hU2.size
 refine Wo 10 (tf 11 12) rfl ?_
 have hW : Upd No w1 w2 := hU2
 refine ZB zeroValue114 rfl ?_
 intro B3 w3 hB3 hU3 hzz3 hb3
 try replace hW := hW.Zb hU3
 refine Za ?_
 intro w4 hS4
 have hX : Upd No w1 w4 := hW.Zb hS4.upd
 refine bF hX ?_
 have hU4 := hS4.upd
 have:=hU4.size
 try replace hW := hW.Zb hU4
 refine ZQ hX ?_
 intro w5 hU5
 have:=hU5.size
 try replace hW := hW.Zb hU5
 refine Wo 11 (tf 12 12) rfl ?_
 have hW : Upd No w4 w5 := hU5
 replace hb3 := (hb3.Zc hU4).Zc hU5
 refine Xa sizeOf114 rfl rfl rfl rfl hb3 rfl ?_
 intro w6 hU6 hzz6 hb3
 refine Za ?_
 intro w7 hS7
 refine bT (Upd No w7) ?_
 have hU7 := hS7.upd
 have:=hU7.size
 try replace hW := hW.Zb hU7
 refine Wd (Sn (Zf (Zo underlying40 rfl sizeOf38 rfl rfl) ?_))
 replace hb1 := (((((hb1.Zc hU2).Zc hU3).Zc hU4).Zc hU5).Zh hU6).Zc hU7
 refine Zk isAgg38 rfl hb1 rfl ?_
 rw [show (x.2.1 : Int) = 1 from hk]
 refine Zf (Z0 (len := 3) (i' := 1) (o' := 1) underlying114 sizeOf113 rfl rfl (by omega) (by omega) (by omega)) (Zk isAgg113 rfl (hb3.Zc hU7) rfl (Zf (Yj rfl) ?_))
 replace hp := ((((((hp.Zc hU1).Zc hU2).Zc hU3).Zc hU4).Zc hU5).Zh hU6).Zc hU7
 refine Zk isAgg3 rfl hp rfl (Xd rfl rfl (Zf (Yj rfl) (Xc [.int .i64 t.1, .int .i64 t.2.1, .int .i64 t.2.2.1, .int .i64 (t.2.2.2.1 + 1), .int .i64 t.2.2.2.2.1, .int .i64 t.2.2.2.2.2.1, .int .i64 t.2.2.2.2.2.2] sizeOf3 rfl hp rfl rfl rfl rfl rfl ?_)))
 intro w8 hU8 hzz8 hp
 refine Za (Zz (ZJ rfl (l0 := tf 0 10) (by kernel_rfl) (Tq rfl (Tq rfl (Tv rfl (fun _ _ => Zo underlying46 rfl sizeOf3 rfl rfl) (Tl rfl isAgg3 rfl hp rfl (Tv rfl (fun _ _ => Zo underlying40 rfl sizeOf3 rfl rfl) ?_)))))))
 replace hb1 := hb1.Zh hU8
 refine Tl rfl isAgg3 rfl hb1 rfl (Tv rfl (fun _ _ => Yf rfl rfl ZY) (Tq rfl (Tv rfl (fun _ _ => Zo underlying46 rfl sizeOf3 rfl rfl) ?_)))
 intro w9 hU9
 have:=hU9.size
 try replace hW := hW.Zb hU9
 refine Wo 9 (tf 10 10) rfl ?_
 have hW : Upd No w8 w9 := hU9
 replace hp := hp.Zc hU9
 refine Xc [.int .i64 t.1, .int .i64 t.2.1, .int .i64 t.2.2.1, .int .i64 (t.2.2.2.1 + 1), .int .i64 t.2.2.2.2.1, .int .i64 t.2.2.2.2.2.1, .int .i64 (t.2.2.2.2.2.2 + x.2.2.2.1)] sizeOf3 rfl hp rfl rfl rfl rfl rfl ?_
 intro w10 hU10 hzz10 hp
 refine Za ?_
 intro w11 hS11
 refine bT (Upd No w11) ?_
 have hU11 := hS11.upd
 have:=hU11.size
 try replace hW := hW.Zb hU11
 refine Wd (Sn (Zf (Zo underlying40 rfl sizeOf38 rfl rfl) ?_))
 replace hb1 := ((hb1.Zc hU9).Zh hU10).Zc hU11
 refine Zk isAgg38 rfl hb1 rfl ?_
 rw [show (x.2.1 : Int) = 1 from hk]
 refine Zf (v := .bool true) (Yh (a := 1) (b := 2) rfl rfl) (Za (Ct (ZJ rfl (l0 := tf 0 10) (by kernel_rfl) (Tq rfl (Tq rfl (Tv rfl (fun _ _ => Zo underlying46 rfl sizeOf3 rfl rfl) ?_))))))
 replace hp := hp.Zc hU11
 refine Tl rfl isAgg3 rfl hp rfl (Tv rfl (fun _ _ => Zo underlying40 rfl sizeOf3 rfl rfl) (Tl rfl isAgg3 rfl hb1 rfl (Tv rfl (fun _ _ => Yf rfl rfl ZY) (Tq rfl (Tv rfl (fun _ _ => Zo underlying46 rfl sizeOf3 rfl rfl) ?_)))))
 intro w12 hU12
 have:=hU12.size
 try replace hW := hW.Zb hU12
 refine Wo 9 (tf 10 10) rfl ?_
 have hW : Upd No w11 w12 := hU12
 replace hp := hp.Zc hU12
 refine Xc [.int .i64 t.1, .int .i64 t.2.1, .int .i64 t.2.2.1, .int .i64 (t.2.2.2.1 + 1), .int .i64 t.2.2.2.2.1, .int .i64 (t.2.2.2.2.2.1 + x.2.2.1), .int .i64 (t.2.2.2.2.2.2 + x.2.2.2.1)] sizeOf3 rfl hp rfl rfl rfl rfl rfl ?_
 intro w13 hU13 hzz13 hp
 refine Za ?_
 intro w14 hS14
 refine bT (Upd No w14) ?_
 have hU14 := hS14.upd
 have:=hU14.size
 try replace hW := hW.Zb hU14
 refine Wd (nrm_end (v := .tuple #[]) rfl (res0 results19) ?_)
 exact ⟨_, rfl, rfl, (by rw [cb_1 hk]; exact (hp.Zc hU14)), ((((((((((((((HU.Zb hU1).Zb hU2).Zb hU3).Zb hU4).Zb hU5).Zr hU6).Zb hU7).Zr hU8).Zb hU9).Zr hU10).Zb hU11).Zb hU12).Zr hU13).Zb hU14)⟩
theorem adds_2 {pt : Nat} {t : T7} {x : BK} (w : World) (hp : Blk w pt [.int .i64 t.1, .int .i64 t.2.1, .int .i64 t.2.2.1, .int .i64 t.2.2.2.1, .int .i64 t.2.2.2.2.1, .int .i64 t.2.2.2.2.2.1, .int .i64 t.2.2.2.2.2.2]) (ht : tbd t 4000000000000000) (hx : smB x) (hk : x.2.1 = 2) :
  Calls Tryz.prog 19 #[.pointer (some ⟨pt, 0, none⟩), .agg #[.int .i64 x.1, .int .i64 x.2.1, .int .i64 x.2.2.1, .int .i64 x.2.2.2.1, .bool (decide (x.2.2.2.2 = true))]] w (Ret fun v w' => v = .tuple #[] ∧ Blk w' pt [.int .i64 ((cb t x).1), .int .i64 ((cb t x).2.1), .int .i64 ((cb t x).2.2.1), .int .i64 ((cb t x).2.2.2.1), .int .i64 ((cb t x).2.2.2.2.1), .int .i64 ((cb t x).2.2.2.2.2.1), .int .i64 ((cb t x).2.2.2.2.2.2)] ∧ Upd (Is pt) w w') := by
 have HU : Upd (fun b => b = pt) w w := Upd.refl _ _
 have hbl_hp := hp.lt
 obtain ⟨a1, a2, a3, a4, a5, a6, a7⟩ := ht
 obtain ⟨hx1, hx2, hx3⟩ := hx
 refine Zq func19 rfl ntmps19 (by simp) (Sn (Xb rfl ?_))
 intro B1 w1 hB1 hU1 hzz1 hb1
 refine Za (Zz (ZJ rfl (l0 := tf 0 12) (by kernel_rfl) (Tq rfl (Tq rfl (Tv rfl (fun _ _ => Zo underlying46 rfl sizeOf3 rfl rfl) (Tq rfl (Tq rfl (Tv rfl (fun _ _ => Zo underlying46 rfl sizeOf3 rfl rfl) (Tq rfl (Tq rfl (Tv rfl (fun _ _ => Zo underlying46 rfl sizeOf3 rfl rfl) (Tv rfl (v := .agg #[.pointer (some ⟨pt, 2, none⟩), .pointer (some ⟨pt, 3, none⟩), .pointer (some ⟨pt, 4, none⟩)]) (fun _ _ => YN (pv := [(0, .pointer (some ⟨pt, 2, none⟩)), (1, .pointer (some ⟨pt, 3, none⟩)), (2, .pointer (some ⟨pt, 4, none⟩))]) (cs := #[.pointer (some ⟨pt, 2, none⟩), .pointer (some ⟨pt, 3, none⟩), .pointer (some ⟨pt, 4, none⟩)]) zeroValue114 underlying114 sizeOf113) ?_))))))))))))
 intro w2 hU2
 have:=hU2.size
 refine Wo 10 (tf 11 12) rfl ?_
 have hW : Upd No w1 w2 := hU2
 refine ZB zeroValue114 rfl ?_
 intro B3 w3 hB3 hU3 hzz3 hb3
 try replace hW := hW.Zb hU3
 refine Za ?_
 intro w4 hS4
 have hX : Upd No w1 w4 := hW.Zb hS4.upd
 refine bF hX ?_
 have hU4 := hS4.upd
 have:=hU4.size
 try replace hW := hW.Zb hU4
 refine ZQ hX ?_
 intro w5 hU5
 have:=hU5.size
 try replace hW := hW.Zb hU5
 refine Wo 11 (tf 12 12) rfl ?_
 have hW : Upd No w4 w5 := hU5
 replace hb3 := (hb3.Zc hU4).Zc hU5
 refine Xa sizeOf114 rfl rfl rfl rfl hb3 rfl ?_
 intro w6 hU6 hzz6 hb3
 refine Za ?_
 intro w7 hS7
 refine bT (Upd No w7) ?_
 have hU7 := hS7.upd
 have:=hU7.size
 try replace hW := hW.Zb hU7
 refine Wd (Sn (Zf (Zo underlying40 rfl sizeOf38 rfl rfl) ?_))
 replace hb1 := (((((hb1.Zc hU2).Zc hU3).Zc hU4).Zc hU5).Zh hU6).Zc hU7
 refine Zk isAgg38 rfl hb1 rfl ?_
 rw [show (x.2.1 : Int) = 2 from hk]
 refine Zf (Z0 (len := 3) (i' := 2) (o' := 2) underlying114 sizeOf113 rfl rfl (by omega) (by omega) (by omega)) (Zk isAgg113 rfl (hb3.Zc hU7) rfl (Zf (Yj rfl) ?_))
 replace hp := ((((((hp.Zc hU1).Zc hU2).Zc hU3).Zc hU4).Zc hU5).Zh hU6).Zc hU7
 refine Zk isAgg3 rfl hp rfl (Xd rfl rfl (Zf (Yj rfl) (Xc [.int .i64 t.1, .int .i64 t.2.1, .int .i64 t.2.2.1, .int .i64 t.2.2.2.1, .int .i64 (t.2.2.2.2.1 + 1), .int .i64 t.2.2.2.2.2.1, .int .i64 t.2.2.2.2.2.2] sizeOf3 rfl hp rfl rfl rfl rfl rfl ?_)))
 intro w8 hU8 hzz8 hp
 refine Za (Zz (ZJ rfl (l0 := tf 0 10) (by kernel_rfl) (Tq rfl (Tq rfl (Tv rfl (fun _ _ => Zo underlying46 rfl sizeOf3 rfl rfl) (Tl rfl isAgg3 rfl hp rfl (Tv rfl (fun _ _ => Zo underlying40 rfl sizeOf3 rfl rfl) ?_)))))))
 replace hb1 := hb1.Zh hU8
 refine Tl rfl isAgg3 rfl hb1 rfl (Tv rfl (fun _ _ => Yf rfl rfl ZY) (Tq rfl (Tv rfl (fun _ _ => Zo underlying46 rfl sizeOf3 rfl rfl) ?_)))
 intro w9 hU9
 have:=hU9.size
 try replace hW := hW.Zb hU9
 refine Wo 9 (tf 10 10) rfl ?_
 have hW : Upd No w8 w9 := hU9
 replace hp := hp.Zc hU9
 refine Xc [.int .i64 t.1, .int .i64 t.2.1, .int .i64 t.2.2.1, .int .i64 t.2.2.2.1, .int .i64 (t.2.2.2.2.1 + 1), .int .i64 t.2.2.2.2.2.1, .int .i64 (t.2.2.2.2.2.2 + x.2.2.2.1)] sizeOf3 rfl hp rfl rfl rfl rfl rfl ?_
 intro w10 hU10 hzz10 hp
 refine Za ?_
 intro w11 hS11
 refine bT (Upd No w11) ?_
 have hU11 := hS11.upd
 have:=hU11.size
 try replace hW := hW.Zb hU11
 refine Wd (Sn (Zf (Zo underlying40 rfl sizeOf38 rfl rfl) (Zk isAgg38 rfl (((hb1.Zc hU9).Zh hU10).Zc hU11) rfl ?_)))
 rw [show (x.2.1 : Int) = 2 from hk]
 refine Zf (v := .bool false) (Yh (a := 2) (b := 2) rfl rfl) (Za (Cf (Zi (nrm_end (v := .tuple #[]) rfl (res0 results19) ?_))))
 exact ⟨_, rfl, rfl, (by rw [cb_2 hk]; exact (hp.Zc hU11)), (((((((((((HU.Zb hU1).Zb hU2).Zb hU3).Zb hU4).Zb hU5).Zr hU6).Zb hU7).Zr hU8).Zb hU9).Zr hU10).Zb hU11)⟩
theorem adds_spec {pt : Nat} {t : T7} {x : BK} (w : World) (hp : Blk w pt [.int .i64 t.1, .int .i64 t.2.1, .int .i64 t.2.2.1, .int .i64 t.2.2.2.1, .int .i64 t.2.2.2.2.1, .int .i64 t.2.2.2.2.2.1, .int .i64 t.2.2.2.2.2.2]) (ht : tbd t 4000000000000000) (hx : smB x) :
  Calls Tryz.prog 19 #[.pointer (some ⟨pt, 0, none⟩), .agg #[.int .i64 x.1, .int .i64 x.2.1, .int .i64 x.2.2.1, .int .i64 x.2.2.2.1, .bool (decide (x.2.2.2.2 = true))]] w (Ret fun v w' => v = .tuple #[] ∧ Blk w' pt [.int .i64 ((cb t x).1), .int .i64 ((cb t x).2.1), .int .i64 ((cb t x).2.2.1), .int .i64 ((cb t x).2.2.2.1), .int .i64 ((cb t x).2.2.2.2.1), .int .i64 ((cb t x).2.2.2.2.2.1), .int .i64 ((cb t x).2.2.2.2.2.2)] ∧ Upd (Is pt) w w') := by
 rcases hx.1 with h | h | h
 ·exact adds_0 w hp ht hx h
 ·exact adds_1 w hp ht hx h
 exact adds_2 w hp ht hx h
theorem count_ok {a : Option Addr} {n c : Nat} {bs : List Int} (w : World) (hs : Sl w (fun g => g < w.heap.size) 1 (.slice a n c) n (ints .u8 bs)) (hb : Byt bs) (hm : n ≤ 100000) (he : (ga bs 0).2 = 0) :
  Calls Tryz.prog 10 #[.slice a n c] w (Ret fun v w' => v = .tuple #[.agg #[.int .i64 ((cnts (ga bs 0).1).1), .int .i64 ((cnts (ga bs 0).1).2.1), .int .i64 ((cnts (ga bs 0).1).2.2.1), .int .i64 ((cnts (ga bs 0).1).2.2.2.1), .int .i64 ((cnts (ga bs 0).1).2.2.2.2.1), .int .i64 ((cnts (ga bs 0).1).2.2.2.2.2.1), .int .i64 ((cnts (ga bs 0).1).2.2.2.2.2.2)], .int .i64 0] ∧ Upd No w w') := by
 have HU := Upd.Yo w
 have hl_hs := ZC hs
 have hc_hs := hs.cap.1
 refine Zq func10 rfl ntmps10 (by simp) (Sn (ZB zeroValue46 rfl ?_))
 intro B1 w1 hB1 hU1 hzz1 hb1
 refine Qs 1 rfl (Za (Sn (Qs 1 rfl (Zj (Zv rfl call5 rfl) (read_ok _ (hs.Zc hU1).any hb (by omega) (by omega)) ?_))))
 rintro v w2 ⟨a2, m2, c2, rfl, hT2, hU2⟩
 have:=hU2.size
 obtain ⟨vs3, hv3, hS3, hP3⟩ := hT2
 have hl_hS3 := Ya encP_len (by decide) hS3
 have hc_hS3 := hS3.cap.1
 have hlm3 : (ga bs 0).1.length = m2 := by rw [← hv3, List.length_map]; exact hl_hS3
 refine Qs 5 rfl (Za (Sm (Qs 1 rfl (Zf (v := .bool false) (Yh (a := 0) (b := 0) rfl rfl) (Za (Cf (Zi (Sm (Qs 1 rfl (Zf (ZM underlying24 rfl) (Qs 1 rfl (Za (Zs ?_)))))))))))))
 replace hb1 := hb1.Zc hU2
 refine ZS (fun mu ρ ds w' => ∃ (k : Nat), m2 - k = mu ∧ ds = [] ∧ Liv ρ [(2, .pointer (some ⟨B1, 0, none⟩)), (18, .slice a2 m2 c2), (19, .int .i64 m2), (20, .int .i64 k)] ∧ k ≤ m2 ∧ Blk w' B1 [.int .i64 ((((ga bs 0).1.take k).foldl cp t70).1), .int .i64 ((((ga bs 0).1.take k).foldl cp t70).2.1), .int .i64 ((((ga bs 0).1.take k).foldl cp t70).2.2.1), .int .i64 ((((ga bs 0).1.take k).foldl cp t70).2.2.2.1), .int .i64 ((((ga bs 0).1.take k).foldl cp t70).2.2.2.2.1), .int .i64 ((((ga bs 0).1.take k).foldl cp t70).2.2.2.2.2.1), .int .i64 ((((ga bs 0).1.take k).foldl cp t70).2.2.2.2.2.2)] ∧ Upd (Is B1) w2 w') _ ⟨0, rfl, rfl, ⟨rfl, rfl, rfl, (by first | rfl | exact Zt (by omega) | exact Zt (by simp)), trivial⟩, (by omega), (by exact hb1), Upd.refl _ _⟩ ?_
 rintro m4 ρ4 ds4 w4 ⟨k, rfl, rfl, hl4, hk, hb1, hU4⟩
 obtain ⟨ρ4x, rfl⟩ : ∃ ρx, ρ4 = upds ρx [(2, .pointer (some ⟨B1, 0, none⟩)), (18, .slice a2 m2 c2), (19, .int .i64 m2), (20, .int .i64 k)] := ⟨_, ZD hl4⟩
 replace HU := (HU.Zb hU1).Zb hU2
 clear hl4
 have:=hU4.size
 have htk := tbd_ga hb (by omega) k
 have hoks := (ga_okd hb (by omega) k).2
 have htk2 := htk
 obtain ⟨ha1, ha2, ha3, ha4, ha5, ha6, ha7⟩ := htk2
 have hgn := ga_len hb (by omega)
 have HL4 := hU4
 refine Sn (Qs 1 rfl (Za (Zz (W_if rfl (fun q1 => ?_) fun q1 => ?_))))
 ·refine Zi (Zz (Zs (Sn (Yg pv0 encP_len (by decide) underlying24 sizeOf37 rfl rfl (hS3.Zh hU4) (by omega) (by omega) ?_))))
  intro ib5 io5 hc5
  try rw [Int.toNat_natCast] at hc5
  obtain ⟨ba6, bm6, bc6, hbe6⟩ := gd_part (i := k) hv3
  rw [hbe6] at hc5
  have hB7 := hPget (hP3.Zh hU4) hbe6 (by omega)
  have hl_hB7 := Ya Y2 (by decide) hB7
  have hc_hB7 := hB7.cap.1
  refine Zf (YE (cs := [.int .i64 (((ga bs 0).1.getD k pt0).at_), .int .i64 (((ga bs 0).1.getD k pt0).sz), .bool (decide (((ga bs 0).1.getD k pt0).sk = true)), .int .i64 (((ga bs 0).1.getD k pt0).pl), .int .i64 (((ga bs 0).1.getD k pt0).hd.1), .int .i64 (((ga bs 0).1.getD k pt0).hd.2.1), .int .u32 (((ga bs 0).1.getD k pt0).hd.2.2.1), .bool (decide (((ga bs 0).1.getD k pt0).hd.2.2.2 = true)), .slice ba6 bm6 bc6, .int .u32 (((ga bs 0).1.getD k pt0).ck)]) isAgg37 sizeOf37 rfl rfl hc5) (ZB zeroValue37 rfl ?_)
  intro B8 w8 hB8 hU8 hzz8 hb8
  refine Xa sizeOf37 rfl rfl rfl rfl hb8 rfl ?_
  intro w9 hU9 hzz9 hb8
  refine Za (Sm (Zf (Zo underlying37 rfl sizeOf4 rfl rfl) (Zk isAgg4 rfl hb8 rfl (Za ?_))))
  replace hb1 := (hb1.Zc hU8).Zh hU9
  replace HL4 := (HL4.Zb hU8).Zr hU9
  refine W_if rfl (fun q2 => ?_) fun q2 => ?_
  ·refine Sn (Zf (Zo underlying46 rfl sizeOf3 rfl rfl) (Zk isAgg3 rfl hb1 rfl (Xd rfl rfl (Zf (Zo underlying46 rfl sizeOf3 rfl rfl) (Xc [.int .i64 ((((ga bs 0).1.take k).foldl cp t70).1), .int .i64 (((((ga bs 0).1.take k).foldl cp t70).2.1) + 1), .int .i64 ((((ga bs 0).1.take k).foldl cp t70).2.2.1), .int .i64 ((((ga bs 0).1.take k).foldl cp t70).2.2.2.1), .int .i64 ((((ga bs 0).1.take k).foldl cp t70).2.2.2.2.1), .int .i64 ((((ga bs 0).1.take k).foldl cp t70).2.2.2.2.2.1), .int .i64 ((((ga bs 0).1.take k).foldl cp t70).2.2.2.2.2.2)] sizeOf3 rfl hb1 rfl rfl rfl rfl rfl ?_)))))
   intro w10 hU10 hzz10 hb1
   refine Za (ZI (Zl (Xd rfl rfl (Qs 1 rfl (Za ?_)))))
   refine ⟨_, ?_, (k + 1), rfl, rfl, ⟨rfl, rfl, rfl, (by first | rfl | exact Zt (by omega) | exact Zt (by simp)), trivial⟩, (by omega), (by rw [cp_snoc (by omega), cp_skip q2]; exact hb1), (HL4.Zr hU10)⟩
   omega
  refine Zi (Sn (Zf (Zo underlying46 rfl sizeOf3 rfl rfl) (Zk isAgg3 rfl hb1 rfl (Xd rfl rfl (Zf (Zo underlying46 rfl sizeOf3 rfl rfl) (Xc [.int .i64 (((((ga bs 0).1.take k).foldl cp t70).1) + 1), .int .i64 ((((ga bs 0).1.take k).foldl cp t70).2.1), .int .i64 ((((ga bs 0).1.take k).foldl cp t70).2.2.1), .int .i64 ((((ga bs 0).1.take k).foldl cp t70).2.2.2.1), .int .i64 ((((ga bs 0).1.take k).foldl cp t70).2.2.2.2.1), .int .i64 ((((ga bs 0).1.take k).foldl cp t70).2.2.2.2.2.1), .int .i64 ((((ga bs 0).1.take k).foldl cp t70).2.2.2.2.2.2)] sizeOf3 rfl hb1 rfl rfl rfl rfl rfl ?_))))))
  intro w11 hU11 hzz11 hb1
  refine Za (Sn (Zf (Zo underlying37 rfl sizeOf35 rfl rfl) (Zk isAgg35 rfl (hb8.Zh hU11) rfl (Zf (ZM underlying35 rfl) (Qs 1 rfl (Za (Zs ?_)))))))
  refine ZS (fun mu ρ ds w' => ∃ (q : Nat), bm6 - q = mu ∧ ds = [] ∧ Liv ρ [(2, .pointer (some ⟨B1, 0, none⟩)), (18, .slice a2 m2 c2), (19, .int .i64 m2), (20, .int .i64 k), (35, .slice ba6 bm6 bc6), (36, .int .i64 bm6), (37, .int .i64 q)] ∧ q ≤ bm6 ∧ Blk w' B1 [.int .i64 (((((ga bs 0).1.getD k pt0).bl.take q).foldl cb ((((ga bs 0).1.take k).foldl cp t70).1 + 1, (((ga bs 0).1.take k).foldl cp t70).2)).1), .int .i64 (((((ga bs 0).1.getD k pt0).bl.take q).foldl cb ((((ga bs 0).1.take k).foldl cp t70).1 + 1, (((ga bs 0).1.take k).foldl cp t70).2)).2.1), .int .i64 (((((ga bs 0).1.getD k pt0).bl.take q).foldl cb ((((ga bs 0).1.take k).foldl cp t70).1 + 1, (((ga bs 0).1.take k).foldl cp t70).2)).2.2.1), .int .i64 (((((ga bs 0).1.getD k pt0).bl.take q).foldl cb ((((ga bs 0).1.take k).foldl cp t70).1 + 1, (((ga bs 0).1.take k).foldl cp t70).2)).2.2.2.1), .int .i64 (((((ga bs 0).1.getD k pt0).bl.take q).foldl cb ((((ga bs 0).1.take k).foldl cp t70).1 + 1, (((ga bs 0).1.take k).foldl cp t70).2)).2.2.2.2.1), .int .i64 (((((ga bs 0).1.getD k pt0).bl.take q).foldl cb ((((ga bs 0).1.take k).foldl cp t70).1 + 1, (((ga bs 0).1.take k).foldl cp t70).2)).2.2.2.2.2.1), .int .i64 (((((ga bs 0).1.getD k pt0).bl.take q).foldl cb ((((ga bs 0).1.take k).foldl cp t70).1 + 1, (((ga bs 0).1.take k).foldl cp t70).2)).2.2.2.2.2.2)] ∧ Upd (Is B1) w11 w') _ ⟨0, rfl, rfl, ⟨rfl, rfl, rfl, rfl, rfl, rfl, (by first | rfl | exact Zt (by omega) | exact Zt (by simp)), trivial⟩, (by omega), (by exact hb1), Upd.refl _ _⟩ ?_
  rintro m12 ρ12 ds12 w12 ⟨q, rfl, rfl, hl12, hq, hb1, hU12⟩
  obtain ⟨ρ12x, rfl⟩ : ∃ ρx, ρ12 = upds ρx [(2, .pointer (some ⟨B1, 0, none⟩)), (18, .slice a2 m2 c2), (19, .int .i64 m2), (20, .int .i64 k), (35, .slice ba6 bm6 bc6), (36, .int .i64 bm6), (37, .int .i64 q)] := ⟨_, ZD hl12⟩
  replace HU := HU.t1 hU4
  replace hB7 := ((hB7.Zc hU8).Zh hU9).Zh hU11
  replace HL4 := HL4.Zr hU11
  clear hl12
  have:=hU12.size
  have htq := tbd_in htk hoks q
  have hsq : smB (((ga bs 0).1.getD k pt0).bl.getD q (0, 0, 0, 0, false)) := smB_gd hoks.1 q
  have hbn := hoks.2
  have HL12 := hU12
  refine Sn (Qs 1 rfl (Za (Zz (W_if rfl (fun q3 => ?_) fun q3 => ?_))))
  ·refine Zi (Zz (Zs (Sn (Yg (0, 0, 0, 0, false) Y2 (by decide) underlying35 sizeOf40 rfl rfl (hB7.Zh hU12) (by omega) (by omega) ?_))))
   intro ib13 io13 hc13
   try rw [Int.toNat_natCast] at hc13
   refine Zf (YE (cs := [.int .i64 (((((ga bs 0).1.getD k pt0).bl).getD q (0, 0, 0, 0, false)).1), .int .i64 (((((ga bs 0).1.getD k pt0).bl).getD q (0, 0, 0, 0, false)).2.1), .int .i64 (((((ga bs 0).1.getD k pt0).bl).getD q (0, 0, 0, 0, false)).2.2.1), .int .i64 (((((ga bs 0).1.getD k pt0).bl).getD q (0, 0, 0, 0, false)).2.2.2.1), .bool (decide (((((ga bs 0).1.getD k pt0).bl).getD q (0, 0, 0, 0, false)).2.2.2.2 = true))]) isAgg40 sizeOf40 rfl rfl hc13) (ZB zeroValue40 rfl ?_)
   intro B14 w14 hB14 hU14 hzz14 hb14
   refine Xa sizeOf40 rfl rfl rfl rfl hb14 rfl ?_
   intro w15 hU15 hzz15 hb14
   refine Za (Zl (Xl isAgg40 sizeOf40 rfl hb14 rfl (Zj (Zy rfl call19 rfl rfl) (adds_spec _ ((hb1.Zc hU14).Zh hU15) htq hsq) ?_)))
   rintro v w16 ⟨rfl, hp16, hU16⟩
   have:=hU16.size
   have hbl_hp16 := hp16.lt
   refine Za (Zl (Xd rfl rfl (Qs 1 rfl (Za ?_))))
   refine ⟨_, ?_, (q + 1), rfl, rfl, ⟨rfl, rfl, rfl, rfl, rfl, rfl, (by first | rfl | exact Zt (by omega) | exact Zt (by simp)), trivial⟩, (by omega), (by rw [cb_snoc (by omega)]; exact hp16), (((HL12.Zb hU14).Zr hU15).Zr hU16)⟩
   omega
  refine ZI (Zl (Xd rfl rfl (Qs 1 rfl (Za ?_))))
  replace HL4 := HL4.Zr hU12
  refine ⟨_, ?_, (k + 1), rfl, rfl, ⟨rfl, rfl, rfl, (by first | rfl | exact Zt (by omega) | exact Zt (by simp)), trivial⟩, (by omega), (by rw [cp_snoc (by omega), cp_fr q2]; rw [show q = ((ga bs 0).1.getD k pt0).bl.length from by omega, List.take_length] at hb1; exact hb1), HL4⟩
  omega
 refine ZI (Sn (Xl isAgg46 sizeOf46 rfl hb1 rfl (Xa sizeOf46 rfl rfl rfl rfl hb1 rfl ?_)))
 intro w17 hU17 hzz17 hb1
 refine Qs 1 rfl (Za (Zn (Zg (v := .tuple #[.agg #[.int .i64 ((((ga bs 0).1.take k).foldl cp t70).1), .int .i64 ((((ga bs 0).1.take k).foldl cp t70).2.1), .int .i64 ((((ga bs 0).1.take k).foldl cp t70).2.2.1), .int .i64 ((((ga bs 0).1.take k).foldl cp t70).2.2.2.1), .int .i64 ((((ga bs 0).1.take k).foldl cp t70).2.2.2.2.1), .int .i64 ((((ga bs 0).1.take k).foldl cp t70).2.2.2.2.2.1), .int .i64 ((((ga bs 0).1.take k).foldl cp t70).2.2.2.2.2.2)], .int .i64 0]) rfl (YS results10 rfl rfl (Zu isAgg46 sizeOf46 rfl hb1)) ?_)))
 exact ⟨_, rfl, (Yx (by rw [show k = (ga bs 0).1.length from by omega, List.take_length]; rfl) rfl), ((HU.t1 hU4).t1 hU17)⟩
end Go.Proofs.YtbjjhfoeckkacaaGreatDoor
