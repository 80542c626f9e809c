/-
  Several texts of this project, put together.
-/
import Derived.Test.YtbjjhfoeckkacaaGreatDoorFZ
import Derived.Test.YtbjjhfoeckkacaaGreatDoorRows
import Derived.Test.YtbjjhfoeckkacaaGreatDoorFA
import Derived.Test.YtbjjhfoeckkacaaGreatDoorPA
set_option linter.unusedVariables false
set_option linter.unusedSimpArgs false
set_option maxRecDepth 100000
set_option maxHeartbeats 16000000
namespace Go.Proofs.YtbjjhfoeckkacaaGreatDoor
open Go.Fw _root_.Go.Proofs.Tryz
theorem clone_spec {a : Option Addr} {n c : Nat} {cs : List Value} (w : World) (hs : Sl w (fun g => g < w.heap.size) 1 (.slice a n c) n cs) (one : ∀ u ∈ cs, u.oneCell' = true) (hn : n ≤ 140737488355328) :
  Calls Tryz.prog 41 #[.slice a n c] w (Ret fun v w' => ∃ a' c', v = .slice a' n c' ∧ Own w' (Ge w.heap.size) 5 1 (.slice a' n c') n cs ∧ Upd No w w') := by
 have HU := Upd.Yo w
 refine Zq func41 rfl ntmps41 (by simp) (Sn (Qs 1 rfl (Za (Sm (Qs 1 rfl (Zf (r_eqsn underlying22 rfl rfl) (Za (W_if rfl (fun q1 => ?_) fun q1 => ?_))))))))
 ·refine Sn (Qs 1 rfl (Za (Zn (Zg (v := .slice none 0 0) rfl (Z9 results41 rfl) ?_))))
  obtain ⟨h0, h1⟩ := Sl.none_len (q1 ▸ hs)
  subst h0 h1
  exact ⟨_, rfl, none, 0, rfl, Own.nil _ _ _ _, HU⟩
 refine Zi (Sn (Wl_lit0 underlying22 sizeOf5 ?_))
 intro B1 w1 hB1 hU1 hzz1 hs1
 refine Qs 1 rfl (Wl_append underlying22 (ti := Tryz.t5) (z := .int .u8 0) (sz := 1) (by' := 1) rfl rfl rfl rfl rfl (by decide) rfl hs1 rfl (hs.Zc hU1) one (by simp only [maxLen]; omega) (by omega) ?_)
 replace HU := HU.Zb hU1
 clear hs1
 intro a2 c2 w2 hU2 hzz2 ho
 have:=hU2.size
 refine Qs 1 rfl (Za (Zn (Zg (v := .slice a2 (0 + n) c2) rfl (Z9 results41 rfl) ?_)))
 exact ⟨_, rfl, a2, c2, by simp, by simpa using ho.weak (R' := Ge w.heap.size) (by intro g hg; have h3 : ((g = B1) ∨ g = w1.heap.size) := hg; show _ ≤ _; omega), (HU.trans hU2)⟩
theorem at_spec {pb : Nat} {a : Option Addr} {n c : Nat} {at0 : Int} (w : World) (hp : Blk w pb [.slice a n c, .int .i64 at0]) (h0 : 0 ≤ at0) (h1 : at0 ≤ n) (hn : n ≤ 9223372036854775807) :
  Calls Tryz.prog 42 #[.pointer (some ⟨pb, 0, none⟩)] w (Ret fun v w' => v = .int .i64 at0 ∧ Upd No w w') := by
 have HU := Upd.Yo w
 exact Zq func42 rfl ntmps42 (by simp) (Sn (Qs 1 rfl (Za (Sm (Qs 1 rfl (Zf (YZ underlying77 rfl rfl) (Za (Cf (Zi (Sn (Qs 1 rfl (Zf (Yj rfl) (Zf (Zo underlying118 rfl sizeOf3 rfl rfl) (Zk isAgg3 rfl hp rfl (Qs 1 rfl (Za (Zn (Zg rfl (Z9 results42 rfl) ⟨_, rfl, rfl, HU⟩))))))))))))))))))
theorem left_spec {pb : Nat} {a : Option Addr} {n c : Nat} {at0 : Int} (w : World) (hp : Blk w pb [.slice a n c, .int .i64 at0]) (h0 : 0 ≤ at0) (h1 : at0 ≤ n) (hn : n ≤ 9223372036854775807) :
  Calls Tryz.prog 22 #[.pointer (some ⟨pb, 0, none⟩)] w (Ret fun v w' => v = .int .i64 (n - at0) ∧ Upd No w w') := by
 have HU := Upd.Yo w
 refine Zq func22 rfl ntmps22 (by simp) (Sn (Qs 1 rfl (Za (Sm (Qs 1 rfl (Zf (YZ underlying77 rfl rfl) (Za (Cf (Zi (Zz (ZJ rfl (l0 := tf 0 11) (by kernel_rfl) (Tq rfl (Tq rfl (Tv rfl (fun _ _ => Zo underlying118 rfl sizeOf22 rfl rfl) (Tl rfl isAgg22 rfl hp rfl (Tv rfl (fun _ _ => ZM underlying22 rfl) (Tq rfl (Tq rfl (Tv rfl (fun _ _ => Zo underlying118 rfl sizeOf3 rfl rfl) (Tl rfl isAgg3 rfl hp rfl (Tv rfl (fun _ _ => Y7 rfl rfl ZY) (Tq rfl ?_))))))))))))))))))))))
 intro w1 hU1
 have:=hU1.size
 exact Wd (Zn (Zg rfl (Z9 results22 rfl) ⟨_, rfl, rfl, (HU.Zb hU1)⟩))
theorem readdU64_ok {be bf bx bc pb : Nat} {x s : Value} {er at0 at1 : Int} (u : FrameMode) (w : World) (he : Blk w be [.int .i64 er]) (hf : Blk w bf [.int .i64 at0]) (hx : Blk w bx [x]) (hc : Blk w bc [.pointer (some ⟨pb, 0, none⟩)]) (hp : Blk w pb [s, .int .i64 at1]) (d1 : pb ≠ be ∧ pb ≠ bf ∧ pb ≠ bx ∧ pb ≠ bc ∧ bx ≠ be ∧ bx ≠ bf ∧ bx ≠ bc) (hq : er = 0) :
  CD Tryz.prog 120 #[.pointer (some ⟨be, 0, none⟩), .pointer (some ⟨bf, 0, none⟩), .pointer (some ⟨bx, 0, none⟩), .pointer (some ⟨bc, 0, none⟩)] u w (fun e u' w' => u' = u ∧ Ret (fun v w' => v = .tuple #[] ∧ Upd (fun b => False) w w') e w') := by
 have HU := Upd.Yo w
 refine CD_of_W func120 rfl ntmps120 (by simp) (Sn (Zk isAgg25 rfl he rfl (Qs 1 rfl (Za ?_))))
 have q1 : ¬ (er ≠ 0) := (by simp [hq])
 rw [decide_eq_false q1]
 refine Cf (Zi (cd_nrm (v := .tuple #[]) (res0 results120) ?_))
 exact ⟨_, rfl, rfl, HU⟩
theorem readdU64_err {be bf bx bc pb : Nat} {x s : Value} {er at0 at1 : Int} (u : FrameMode) (w : World) (he : Blk w be [.int .i64 er]) (hf : Blk w bf [.int .i64 at0]) (hx : Blk w bx [x]) (hc : Blk w bc [.pointer (some ⟨pb, 0, none⟩)]) (hp : Blk w pb [s, .int .i64 at1]) (d1 : pb ≠ be ∧ pb ≠ bf ∧ pb ≠ bx ∧ pb ≠ bc ∧ bx ≠ be ∧ bx ≠ bf ∧ bx ≠ bc) (hq : er ≠ 0) :
  CD Tryz.prog 120 #[.pointer (some ⟨be, 0, none⟩), .pointer (some ⟨bf, 0, none⟩), .pointer (some ⟨bx, 0, none⟩), .pointer (some ⟨bc, 0, none⟩)] u w (fun e u' w' => u' = u ∧ Ret (fun v w' => v = .tuple #[] ∧ Blk w' be [.int .i64 er] ∧ Blk w' bx [.int .u64 0] ∧ Blk w' pb [s, .int .i64 at0] ∧ Upd (fun b => b = pb ∨ b = bx) w w') e w') := by
 have HU : Upd (fun b => b = pb ∨ b = bx) w w := Upd.refl _ _
 refine CD_of_W func120 rfl ntmps120 (by simp) (Sn (Zk isAgg25 rfl he rfl (Qs 1 rfl (Za ?_))))
 have q1 : er ≠ 0 := hq
 rw [decide_eq_true q1]
 refine Ct (Sn (Qs 1 rfl (Za (Zl (Zk isAgg77 rfl hc rfl (Qs 1 rfl (Zk isAgg3 rfl hf rfl (Xc [.int .u64 0] sizeOf101 rfl hx rfl rfl rfl rfl rfl ?_))))))))
 intro w1 hU1 hzz1 hx
 replace he := he.Zh hU1
 replace hp := hp.Zh hU1
 replace HU := HU.Zr hU1
 refine Zf (Yj rfl) (Zf (Zo underlying118 rfl sizeOf3 rfl rfl) (Xc [s, .int .i64 at0] sizeOf3 rfl hp rfl rfl rfl rfl rfl ?_))
 intro w2 hU2 hzz2 hp
 replace he := he.Zh hU2
 replace hx := hx.Zh hU2
 replace HU := HU.Zr hU2
 refine Za (cd_nrm (v := .tuple #[]) (res0 results120) ?_)
 exact ⟨_, rfl, rfl, he, hx, hp, HU⟩
theorem readU64_spec {pb gf : Nat} {caps : Array Value} {s : Value} {at0 : Int} {Φ : Value → Int → Int → World → World → Prop} (w : World) (hp : Blk w pb [s, .int .i64 at0]) (hgf : ∀ ar w, (callFunc gf ar).run Tryz.prog w = .ok (.enter gf ar) w) (hget : ∀ w1, Upd No w w1 → Calls Tryz.prog gf caps w1 (Ret fun v w2 => ∃ x er, v = .tuple #[x, .int .i64 er] ∧ x.cells = #[x] ∧ x.oneCell' = true ∧ ∃ at1, Blk w2 pb [s, .int .i64 at1] ∧ Upd (Is pb) w1 w2 ∧ Φ x er at1 w1 w2)) :
  Calls Tryz.prog 98 #[.pointer (some ⟨pb, 0, none⟩), .func (.func gf) #[] caps] w (Ret fun v w' => ∃ x er at1 w1 w2, v = .tuple #[if er = 0 then x else .int .u64 0, .int .i64 er] ∧ Blk w' pb [s, .int .i64 (if er = 0 then at1 else at0)] ∧ Upd No w w1 ∧ Φ x er at1 w1 w2 ∧ Upd (fun b => b = pb ∨ (w.heap.size ≤ b ∧ b < w1.heap.size)) w2 w' ∧ Upd (Is pb) w w') := by
 have HU : Upd (fun b => b = pb) w w := Upd.refl _ _
 have HN : Upd No w w := Upd.refl _ _
 have hpl := hp.lt
 refine Zq func98 rfl ntmps98 (by simp) (Sn (Wl_box (v := .pointer (some ⟨pb, 0, none⟩)) (cs := [.pointer (some ⟨pb, 0, none⟩)]) rfl rfl ?_))
 intro B1 w1 hB1 hU1 hzz1 hb1
 refine ZB zeroValue101 rfl ?_
 intro B2 w2 hB2 hU2 hzz2 hb2
 refine ZB zeroValue25 rfl ?_
 intro B3 w3 hB3 hU3 hzz3 hb3
 refine Za (Sm ?_)
 replace hb1 := (hb1.Zc hU2).Zc hU3
 refine Zk isAgg77 rfl hb1 rfl (Zf (YZ underlying77 rfl rfl) (Za (Cf (Zi (Sn (Zk isAgg77 rfl hb1 rfl (Zf (Yj rfl) (Zf (Zo underlying118 rfl sizeOf3 rfl rfl) ?_))))))))
 replace hp := ((hp.Zc hU1).Zc hU2).Zc hU3
 refine Zk isAgg3 rfl hp rfl (ZB zeroValue3 rfl ?_)
 intro B4 w4 hB4 hU4 hzz4 hb4
 refine Xc [.int .i64 at0] sizeOf3 rfl hb4 rfl rfl rfl rfl rfl ?_
 intro w5 hU5 hzz5 hb4
 refine Za (Sn (Zf (r_mkf4 (v0 := .pointer (some ⟨B3, 0, none⟩)) (v1 := .pointer (some ⟨B4, 0, none⟩)) (v2 := .pointer (some ⟨B2, 0, none⟩)) (v3 := .pointer (some ⟨B1, 0, none⟩)) rfl rfl rfl rfl) (Wl_defer rfl (Za (Sn (Qs 1 rfl ?_))))))
 replace HN := ((((HN.Zb hU1).Zb hU2).Zb hU3).Zb hU4).Zr hU5
 refine Zj (Yz hgf rfl (by simp)) (hget w5 HN) ?_
 rintro v w6 ⟨x, er, rfl, hx1, hx2, at1, hpn, hU6, hΦ⟩
 have HP : Upd No w w5 := HN
 replace hp := (hp.Zc hU4).Zh hU5
 replace hp := hpn
 replace HU := ((((HU.Zb hU1).Zb hU2).Zb hU3).Zb hU4).Zr hU5
 replace hb2 := ((hb2.Zc hU3).Zc hU4).Zh hU5
 replace hb1 := (hb1.Zc hU4).Zh hU5
 replace hb3 := (hb3.Zc hU4).Zh hU5
 clear hpn
 have:=hU6.size
 have HX : Upd (fun b => b = pb ∨ (w.heap.size ≤ b ∧ b < w5.heap.size)) w6 w6 := Upd.refl _ _
 refine Zf (r_ext (v := x) rfl rfl) (Qs 1 rfl ?_)
 replace hb2 := hb2.Zh hU6
 refine Wl_store (v := x) (cs' := [x]) sizeOf101 rfl rfl hx1 hx2 hb2 rfl rfl ?_
 intro w7 hU7 hzz7 hb2
 replace hb3 := (hb3.Zh hU6).Zh hU7
 refine Xc [.int .i64 er] sizeOf25 rfl hb3 rfl rfl rfl rfl rfl ?_
 intro w8 hU8 hzz8 hb3
 refine Za (Zn (ret_ds rfl ?_))
 replace HU := ((HU.Zr hU6).Zr hU7).Zr hU8
 replace hb1 := ((hb1.Zh hU6).Zh hU7).Zh hU8
 replace hb4 := ((hb4.Zh hU6).Zh hU7).Zh hU8
 replace hp := (hp.Zh hU7).Zh hU8
 replace HX := (HX.Zr hU7).Zr hU8
 replace hb2 := hb2.Zh hU8
 by_cases hq : er = 0
 ·refine lv_call (by simp) call120 rfl (readdU64_ok _ _ hb3 hb4 hb2 hb1 hp (by omega) hq) ?_
  rintro e1 u1 w9 ⟨rfl, v1, rfl, rfl, hU9⟩
  have:=hU9.size
  refine lv_nil (v := .tuple #[x, .int .i64 er]) (resc2 results98 rfl rfl isAgg101 isAgg25 (hb2.Zc hU9) (hb3.Zc hU9)) ?_
  exact ⟨_, rfl, x, er, at1, w5, w6, by simp [hq], by simpa [hq] using (hp.Zc hU9), HP, hΦ, (HX.Zb hU9), (HU.Zb hU9)⟩
 refine lv_call (by simp) call120 rfl (readdU64_err _ _ hb3 hb4 hb2 hb1 hp (by omega) hq) ?_
 rintro e1 u1 w9 ⟨rfl, v1, rfl, rfl, hee, hxx, hpp, hU9⟩
 have:=hU9.size
 refine lv_nil (v := .tuple #[.int .u64 0, .int .i64 er]) (resc2 results98 rfl rfl isAgg101 isAgg25 hxx hee) ?_
 exact ⟨_, rfl, x, er, at1, w5, w6, by simp [hq], by simpa [hq] using hpp, HP, hΦ, (HX.trans hU9), (HU.trans hU9)⟩
theorem readdBs_ok {be bf bx bc pb : Nat} {x s : Value} {er at0 at1 : Int} (u : FrameMode) (w : World) (he : Blk w be [.int .i64 er]) (hf : Blk w bf [.int .i64 at0]) (hx : Blk w bx [x]) (hc : Blk w bc [.pointer (some ⟨pb, 0, none⟩)]) (hp : Blk w pb [s, .int .i64 at1]) (d1 : pb ≠ be ∧ pb ≠ bf ∧ pb ≠ bx ∧ pb ≠ bc ∧ bx ≠ be ∧ bx ≠ bf ∧ bx ≠ bc) (hq : er = 0) :
  CD Tryz.prog 118 #[.pointer (some ⟨be, 0, none⟩), .pointer (some ⟨bf, 0, none⟩), .pointer (some ⟨bx, 0, none⟩), .pointer (some ⟨bc, 0, none⟩)] u w (fun e u' w' => u' = u ∧ Ret (fun v w' => v = .tuple #[] ∧ Upd (fun b => False) w w') e w') := by
 have HU := Upd.Yo w
 refine CD_of_W func118 rfl ntmps118 (by simp) (Sn (Zk isAgg25 rfl he rfl (Qs 1 rfl (Za ?_))))
 have q1 : ¬ (er ≠ 0) := (by simp [hq])
 rw [decide_eq_false q1]
 refine Cf (Zi (cd_nrm (v := .tuple #[]) (res0 results118) ?_))
 exact ⟨_, rfl, rfl, HU⟩
theorem readdBs_err {be bf bx bc pb : Nat} {x s : Value} {er at0 at1 : Int} (u : FrameMode) (w : World) (he : Blk w be [.int .i64 er]) (hf : Blk w bf [.int .i64 at0]) (hx : Blk w bx [x]) (hc : Blk w bc [.pointer (some ⟨pb, 0, none⟩)]) (hp : Blk w pb [s, .int .i64 at1]) (d1 : pb ≠ be ∧ pb ≠ bf ∧ pb ≠ bx ∧ pb ≠ bc ∧ bx ≠ be ∧ bx ≠ bf ∧ bx ≠ bc) (hq : er ≠ 0) :
  CD Tryz.prog 118 #[.pointer (some ⟨be, 0, none⟩), .pointer (some ⟨bf, 0, none⟩), .pointer (some ⟨bx, 0, none⟩), .pointer (some ⟨bc, 0, none⟩)] u w (fun e u' w' => u' = u ∧ Ret (fun v w' => v = .tuple #[] ∧ Blk w' be [.int .i64 er] ∧ Blk w' bx [.slice none 0 0] ∧ Blk w' pb [s, .int .i64 at0] ∧ Upd (fun b => b = pb ∨ b = bx) w w') e w') := by
 have HU : Upd (fun b => b = pb ∨ b = bx) w w := Upd.refl _ _
 refine CD_of_W func118 rfl ntmps118 (by simp) (Sn (Zk isAgg25 rfl he rfl (Qs 1 rfl (Za ?_))))
 have q1 : er ≠ 0 := hq
 rw [decide_eq_true q1]
 refine Ct (Sn (Qs 1 rfl (Za (Zl (Zk isAgg77 rfl hc rfl (Qs 1 rfl (Zk isAgg3 rfl hf rfl (Xc [.slice none 0 0] sizeOf22 rfl hx rfl rfl rfl rfl rfl ?_))))))))
 intro w1 hU1 hzz1 hx
 replace he := he.Zh hU1
 replace hp := hp.Zh hU1
 replace HU := HU.Zr hU1
 refine Zf (Yj rfl) (Zf (Zo underlying118 rfl sizeOf3 rfl rfl) (Xc [s, .int .i64 at0] sizeOf3 rfl hp rfl rfl rfl rfl rfl ?_))
 intro w2 hU2 hzz2 hp
 replace he := he.Zh hU2
 replace hx := hx.Zh hU2
 replace HU := HU.Zr hU2
 refine Za (cd_nrm (v := .tuple #[]) (res0 results118) ?_)
 exact ⟨_, rfl, rfl, he, hx, hp, HU⟩
theorem readBs_spec {pb gf : Nat} {caps : Array Value} {s : Value} {at0 : Int} {Φ : Value → Int → Int → World → World → Prop} (w : World) (hp : Blk w pb [s, .int .i64 at0]) (hgf : ∀ ar w, (callFunc gf ar).run Tryz.prog w = .ok (.enter gf ar) w) (hget : ∀ w1, Upd No w w1 → Calls Tryz.prog gf caps w1 (Ret fun v w2 => ∃ x er, v = .tuple #[x, .int .i64 er] ∧ x.cells = #[x] ∧ x.oneCell' = true ∧ ∃ at1, Blk w2 pb [s, .int .i64 at1] ∧ Upd (Is pb) w1 w2 ∧ Φ x er at1 w1 w2)) :
  Calls Tryz.prog 94 #[.pointer (some ⟨pb, 0, none⟩), .func (.func gf) #[] caps] w (Ret fun v w' => ∃ x er at1 w1 w2, v = .tuple #[if er = 0 then x else .slice none 0 0, .int .i64 er] ∧ Blk w' pb [s, .int .i64 (if er = 0 then at1 else at0)] ∧ Upd No w w1 ∧ Φ x er at1 w1 w2 ∧ Upd (fun b => b = pb ∨ (w.heap.size ≤ b ∧ b < w1.heap.size)) w2 w' ∧ Upd (Is pb) w w') := by
 have HU : Upd (fun b => b = pb) w w := Upd.refl _ _
 have HN : Upd No w w := Upd.refl _ _
 have hpl := hp.lt
 refine Zq func94 rfl ntmps94 (by simp) (Sn (Wl_box (v := .pointer (some ⟨pb, 0, none⟩)) (cs := [.pointer (some ⟨pb, 0, none⟩)]) rfl rfl ?_))
 intro B1 w1 hB1 hU1 hzz1 hb1
 refine ZB zeroValue22 rfl ?_
 intro B2 w2 hB2 hU2 hzz2 hb2
 refine ZB zeroValue25 rfl ?_
 intro B3 w3 hB3 hU3 hzz3 hb3
 refine Za (Sm ?_)
 replace hb1 := (hb1.Zc hU2).Zc hU3
 refine Zk isAgg77 rfl hb1 rfl (Zf (YZ underlying77 rfl rfl) (Za (Cf (Zi (Sn (Zk isAgg77 rfl hb1 rfl (Zf (Yj rfl) (Zf (Zo underlying118 rfl sizeOf3 rfl rfl) ?_))))))))
 replace hp := ((hp.Zc hU1).Zc hU2).Zc hU3
 refine Zk isAgg3 rfl hp rfl (ZB zeroValue3 rfl ?_)
 intro B4 w4 hB4 hU4 hzz4 hb4
 refine Xc [.int .i64 at0] sizeOf3 rfl hb4 rfl rfl rfl rfl rfl ?_
 intro w5 hU5 hzz5 hb4
 refine Za (Sn (Zf (r_mkf4 (v0 := .pointer (some ⟨B3, 0, none⟩)) (v1 := .pointer (some ⟨B4, 0, none⟩)) (v2 := .pointer (some ⟨B2, 0, none⟩)) (v3 := .pointer (some ⟨B1, 0, none⟩)) rfl rfl rfl rfl) (Wl_defer rfl (Za (Sn (Qs 1 rfl ?_))))))
 replace HN := ((((HN.Zb hU1).Zb hU2).Zb hU3).Zb hU4).Zr hU5
 refine Zj (Yz hgf rfl (by simp)) (hget w5 HN) ?_
 rintro v w6 ⟨x, er, rfl, hx1, hx2, at1, hpn, hU6, hΦ⟩
 have HP : Upd No w w5 := HN
 replace hp := (hp.Zc hU4).Zh hU5
 replace hp := hpn
 replace HU := ((((HU.Zb hU1).Zb hU2).Zb hU3).Zb hU4).Zr hU5
 replace hb2 := ((hb2.Zc hU3).Zc hU4).Zh hU5
 replace hb1 := (hb1.Zc hU4).Zh hU5
 replace hb3 := (hb3.Zc hU4).Zh hU5
 clear hpn
 have:=hU6.size
 have HX : Upd (fun b => b = pb ∨ (w.heap.size ≤ b ∧ b < w5.heap.size)) w6 w6 := Upd.refl _ _
 refine Zf (r_ext (v := x) rfl rfl) (Qs 1 rfl ?_)
 replace hb2 := hb2.Zh hU6
 refine Wl_store (v := x) (cs' := [x]) sizeOf22 rfl rfl hx1 hx2 hb2 rfl rfl ?_
 intro w7 hU7 hzz7 hb2
 replace hb3 := (hb3.Zh hU6).Zh hU7
 refine Xc [.int .i64 er] sizeOf25 rfl hb3 rfl rfl rfl rfl rfl ?_
 intro w8 hU8 hzz8 hb3
 refine Za (Zn (ret_ds rfl ?_))
 replace HU := ((HU.Zr hU6).Zr hU7).Zr hU8
 replace hb1 := ((hb1.Zh hU6).Zh hU7).Zh hU8
 replace hb4 := ((hb4.Zh hU6).Zh hU7).Zh hU8
 replace hp := (hp.Zh hU7).Zh hU8
 replace HX := (HX.Zr hU7).Zr hU8
 replace hb2 := hb2.Zh hU8
 by_cases hq : er = 0
 ·refine lv_call (by simp) call118 rfl (readdBs_ok _ _ hb3 hb4 hb2 hb1 hp (by omega) hq) ?_
  rintro e1 u1 w9 ⟨rfl, v1, rfl, rfl, hU9⟩
  have:=hU9.size
  refine lv_nil (v := .tuple #[x, .int .i64 er]) (resc2 results94 rfl rfl isAgg22 isAgg25 (hb2.Zc hU9) (hb3.Zc hU9)) ?_
  exact ⟨_, rfl, x, er, at1, w5, w6, by simp [hq], by simpa [hq] using (hp.Zc hU9), HP, hΦ, (HX.Zb hU9), (HU.Zb hU9)⟩
 refine lv_call (by simp) call118 rfl (readdBs_err _ _ hb3 hb4 hb2 hb1 hp (by omega) hq) ?_
 rintro e1 u1 w9 ⟨rfl, v1, rfl, rfl, hee, hxx, hpp, hU9⟩
 have:=hU9.size
 refine lv_nil (v := .tuple #[.slice none 0 0, .int .i64 er]) (resc2 results94 rfl rfl isAgg22 isAgg25 hxx hee) ?_
 exact ⟨_, rfl, x, er, at1, w5, w6, by simp [hq], by simpa [hq] using hpp, HP, hΦ, (HX.trans hU9), (HU.trans hU9)⟩
theorem readdU32_ok {be bf bx bc pb : Nat} {x s : Value} {er at0 at1 : Int} (u : FrameMode) (w : World) (he : Blk w be [.int .i64 er]) (hf : Blk w bf [.int .i64 at0]) (hx : Blk w bx [x]) (hc : Blk w bc [.pointer (some ⟨pb, 0, none⟩)]) (hp : Blk w pb [s, .int .i64 at1]) (d1 : pb ≠ be ∧ pb ≠ bf ∧ pb ≠ bx ∧ pb ≠ bc ∧ bx ≠ be ∧ bx ≠ bf ∧ bx ≠ bc) (hq : er = 0) :
  CD Tryz.prog 100 #[.pointer (some ⟨be, 0, none⟩), .pointer (some ⟨bf, 0, none⟩), .pointer (some ⟨bx, 0, none⟩), .pointer (some ⟨bc, 0, none⟩)] u w (fun e u' w' => u' = u ∧ Ret (fun v w' => v = .tuple #[] ∧ Upd (fun b => False) w w') e w') := by
 have HU := Upd.Yo w
 refine CD_of_W func100 rfl ntmps100 (by simp) (Sn (Zk isAgg25 rfl he rfl (Qs 1 rfl (Za ?_))))
 have q1 : ¬ (er ≠ 0) := (by simp [hq])
 rw [decide_eq_false q1]
 refine Cf (Zi (cd_nrm (v := .tuple #[]) (res0 results100) ?_))
 exact ⟨_, rfl, rfl, HU⟩
theorem readdU32_err {be bf bx bc pb : Nat} {x s : Value} {er at0 at1 : Int} (u : FrameMode) (w : World) (he : Blk w be [.int .i64 er]) (hf : Blk w bf [.int .i64 at0]) (hx : Blk w bx [x]) (hc : Blk w bc [.pointer (some ⟨pb, 0, none⟩)]) (hp : Blk w pb [s, .int .i64 at1]) (d1 : pb ≠ be ∧ pb ≠ bf ∧ pb ≠ bx ∧ pb ≠ bc ∧ bx ≠ be ∧ bx ≠ bf ∧ bx ≠ bc) (hq : er ≠ 0) :
  CD Tryz.prog 100 #[.pointer (some ⟨be, 0, none⟩), .pointer (some ⟨bf, 0, none⟩), .pointer (some ⟨bx, 0, none⟩), .pointer (some ⟨bc, 0, none⟩)] u w (fun e u' w' => u' = u ∧ Ret (fun v w' => v = .tuple #[] ∧ Blk w' be [.int .i64 er] ∧ Blk w' bx [.int .u32 0] ∧ Blk w' pb [s, .int .i64 at0] ∧ Upd (fun b => b = pb ∨ b = bx) w w') e w') := by
 have HU : Upd (fun b => b = pb ∨ b = bx) w w := Upd.refl _ _
 refine CD_of_W func100 rfl ntmps100 (by simp) (Sn (Zk isAgg25 rfl he rfl (Qs 1 rfl (Za ?_))))
 have q1 : er ≠ 0 := hq
 rw [decide_eq_true q1]
 refine Ct (Sn (Qs 1 rfl (Za (Zl (Zk isAgg77 rfl hc rfl (Qs 1 rfl (Zk isAgg3 rfl hf rfl (Xc [.int .u32 0] sizeOf32 rfl hx rfl rfl rfl rfl rfl ?_))))))))
 intro w1 hU1 hzz1 hx
 replace he := he.Zh hU1
 replace hp := hp.Zh hU1
 replace HU := HU.Zr hU1
 refine Zf (Yj rfl) (Zf (Zo underlying118 rfl sizeOf3 rfl rfl) (Xc [s, .int .i64 at0] sizeOf3 rfl hp rfl rfl rfl rfl rfl ?_))
 intro w2 hU2 hzz2 hp
 replace he := he.Zh hU2
 replace hx := hx.Zh hU2
 replace HU := HU.Zr hU2
 refine Za (cd_nrm (v := .tuple #[]) (res0 results100) ?_)
 exact ⟨_, rfl, rfl, he, hx, hp, HU⟩
theorem readU32_spec {pb gf : Nat} {caps : Array Value} {s : Value} {at0 : Int} {Φ : Value → Int → Int → World → World → Prop} (w : World) (hp : Blk w pb [s, .int .i64 at0]) (hgf : ∀ ar w, (callFunc gf ar).run Tryz.prog w = .ok (.enter gf ar) w) (hget : ∀ w1, Upd No w w1 → Calls Tryz.prog gf caps w1 (Ret fun v w2 => ∃ x er, v = .tuple #[x, .int .i64 er] ∧ x.cells = #[x] ∧ x.oneCell' = true ∧ ∃ at1, Blk w2 pb [s, .int .i64 at1] ∧ Upd (Is pb) w1 w2 ∧ Φ x er at1 w1 w2)) :
  Calls Tryz.prog 84 #[.pointer (some ⟨pb, 0, none⟩), .func (.func gf) #[] caps] w (Ret fun v w' => ∃ x er at1 w1 w2, v = .tuple #[if er = 0 then x else .int .u32 0, .int .i64 er] ∧ Blk w' pb [s, .int .i64 (if er = 0 then at1 else at0)] ∧ Upd No w w1 ∧ Φ x er at1 w1 w2 ∧ Upd (fun b => b = pb ∨ (w.heap.size ≤ b ∧ b < w1.heap.size)) w2 w' ∧ Upd (Is pb) w w') := by
 have HU : Upd (fun b => b = pb) w w := Upd.refl _ _
 have HN : Upd No w w := Upd.refl _ _
 have hpl := hp.lt
 refine Zq func84 rfl ntmps84 (by simp) (Sn (Wl_box (v := .pointer (some ⟨pb, 0, none⟩)) (cs := [.pointer (some ⟨pb, 0, none⟩)]) rfl rfl ?_))
 intro B1 w1 hB1 hU1 hzz1 hb1
 refine ZB zeroValue32 rfl ?_
 intro B2 w2 hB2 hU2 hzz2 hb2
 refine ZB zeroValue25 rfl ?_
 intro B3 w3 hB3 hU3 hzz3 hb3
 refine Za (Sm ?_)
 replace hb1 := (hb1.Zc hU2).Zc hU3
 refine Zk isAgg77 rfl hb1 rfl (Zf (YZ underlying77 rfl rfl) (Za (Cf (Zi (Sn (Zk isAgg77 rfl hb1 rfl (Zf (Yj rfl) (Zf (Zo underlying118 rfl sizeOf3 rfl rfl) ?_))))))))
 replace hp := ((hp.Zc hU1).Zc hU2).Zc hU3
 refine Zk isAgg3 rfl hp rfl (ZB zeroValue3 rfl ?_)
 intro B4 w4 hB4 hU4 hzz4 hb4
 refine Xc [.int .i64 at0] sizeOf3 rfl hb4 rfl rfl rfl rfl rfl ?_
 intro w5 hU5 hzz5 hb4
 refine Za (Sn (Zf (r_mkf4 (v0 := .pointer (some ⟨B3, 0, none⟩)) (v1 := .pointer (some ⟨B4, 0, none⟩)) (v2 := .pointer (some ⟨B2, 0, none⟩)) (v3 := .pointer (some ⟨B1, 0, none⟩)) rfl rfl rfl rfl) (Wl_defer rfl (Za (Sn (Qs 1 rfl ?_))))))
 replace HN := ((((HN.Zb hU1).Zb hU2).Zb hU3).Zb hU4).Zr hU5
 refine Zj (Yz hgf rfl (by simp)) (hget w5 HN) ?_
 rintro v w6 ⟨x, er, rfl, hx1, hx2, at1, hpn, hU6, hΦ⟩
 have HP : Upd No w w5 := HN
 replace hp := (hp.Zc hU4).Zh hU5
 replace hp := hpn
 replace HU := ((((HU.Zb hU1).Zb hU2).Zb hU3).Zb hU4).Zr hU5
 replace hb2 := ((hb2.Zc hU3).Zc hU4).Zh hU5
 replace hb1 := (hb1.Zc hU4).Zh hU5
 replace hb3 := (hb3.Zc hU4).Zh hU5
 clear hpn
 have:=hU6.size
 have HX : Upd (fun b => b = pb ∨ (w.heap.size ≤ b ∧ b < w5.heap.size)) w6 w6 := Upd.refl _ _
 refine Zf (r_ext (v := x) rfl rfl) (Qs 1 rfl ?_)
 replace hb2 := hb2.Zh hU6
 refine Wl_store (v := x) (cs' := [x]) sizeOf32 rfl rfl hx1 hx2 hb2 rfl rfl ?_
 intro w7 hU7 hzz7 hb2
 replace hb3 := (hb3.Zh hU6).Zh hU7
 refine Xc [.int .i64 er] sizeOf25 rfl hb3 rfl rfl rfl rfl rfl ?_
 intro w8 hU8 hzz8 hb3
 refine Za (Zn (ret_ds rfl ?_))
 replace HU := ((HU.Zr hU6).Zr hU7).Zr hU8
 replace hb1 := ((hb1.Zh hU6).Zh hU7).Zh hU8
 replace hb4 := ((hb4.Zh hU6).Zh hU7).Zh hU8
 replace hp := (hp.Zh hU7).Zh hU8
 replace HX := (HX.Zr hU7).Zr hU8
 replace hb2 := hb2.Zh hU8
 by_cases hq : er = 0
 ·refine lv_call (by simp) call100 rfl (readdU32_ok _ _ hb3 hb4 hb2 hb1 hp (by omega) hq) ?_
  rintro e1 u1 w9 ⟨rfl, v1, rfl, rfl, hU9⟩
  have:=hU9.size
  refine lv_nil (v := .tuple #[x, .int .i64 er]) (resc2 results84 rfl rfl isAgg32 isAgg25 (hb2.Zc hU9) (hb3.Zc hU9)) ?_
  exact ⟨_, rfl, x, er, at1, w5, w6, by simp [hq], by simpa [hq] using (hp.Zc hU9), HP, hΦ, (HX.Zb hU9), (HU.Zb hU9)⟩
 refine lv_call (by simp) call100 rfl (readdU32_err _ _ hb3 hb4 hb2 hb1 hp (by omega) hq) ?_
 rintro e1 u1 w9 ⟨rfl, v1, rfl, rfl, hee, hxx, hpp, hU9⟩
 have:=hU9.size
 refine lv_nil (v := .tuple #[.int .u32 0, .int .i64 er]) (resc2 results84 rfl rfl isAgg32 isAgg25 hxx hee) ?_
 exact ⟨_, rfl, x, er, at1, w5, w6, by simp [hq], by simpa [hq] using hpp, HP, hΦ, (HX.trans hU9), (HU.trans hU9)⟩
theorem readdBy_ok {be bf bx bc pb : Nat} {x s : Value} {er at0 at1 : Int} (u : FrameMode) (w : World) (he : Blk w be [.int .i64 er]) (hf : Blk w bf [.int .i64 at0]) (hx : Blk w bx [x]) (hc : Blk w bc [.pointer (some ⟨pb, 0, none⟩)]) (hp : Blk w pb [s, .int .i64 at1]) (d1 : pb ≠ be ∧ pb ≠ bf ∧ pb ≠ bx ∧ pb ≠ bc ∧ bx ≠ be ∧ bx ≠ bf ∧ bx ≠ bc) (hq : er = 0) :
  CD Tryz.prog 119 #[.pointer (some ⟨be, 0, none⟩), .pointer (some ⟨bf, 0, none⟩), .pointer (some ⟨bx, 0, none⟩), .pointer (some ⟨bc, 0, none⟩)] u w (fun e u' w' => u' = u ∧ Ret (fun v w' => v = .tuple #[] ∧ Upd (fun b => False) w w') e w') := by
 have HU := Upd.Yo w
 refine CD_of_W func119 rfl ntmps119 (by simp) (Sn (Zk isAgg25 rfl he rfl (Qs 1 rfl (Za ?_))))
 have q1 : ¬ (er ≠ 0) := (by simp [hq])
 rw [decide_eq_false q1]
 refine Cf (Zi (cd_nrm (v := .tuple #[]) (res0 results119) ?_))
 exact ⟨_, rfl, rfl, HU⟩
theorem readdBy_err {be bf bx bc pb : Nat} {x s : Value} {er at0 at1 : Int} (u : FrameMode) (w : World) (he : Blk w be [.int .i64 er]) (hf : Blk w bf [.int .i64 at0]) (hx : Blk w bx [x]) (hc : Blk w bc [.pointer (some ⟨pb, 0, none⟩)]) (hp : Blk w pb [s, .int .i64 at1]) (d1 : pb ≠ be ∧ pb ≠ bf ∧ pb ≠ bx ∧ pb ≠ bc ∧ bx ≠ be ∧ bx ≠ bf ∧ bx ≠ bc) (hq : er ≠ 0) :
  CD Tryz.prog 119 #[.pointer (some ⟨be, 0, none⟩), .pointer (some ⟨bf, 0, none⟩), .pointer (some ⟨bx, 0, none⟩), .pointer (some ⟨bc, 0, none⟩)] u w (fun e u' w' => u' = u ∧ Ret (fun v w' => v = .tuple #[] ∧ Blk w' be [.int .i64 er] ∧ Blk w' bx [.int .u8 0] ∧ Blk w' pb [s, .int .i64 at0] ∧ Upd (fun b => b = pb ∨ b = bx) w w') e w') := by
 have HU : Upd (fun b => b = pb ∨ b = bx) w w := Upd.refl _ _
 refine CD_of_W func119 rfl ntmps119 (by simp) (Sn (Zk isAgg25 rfl he rfl (Qs 1 rfl (Za ?_))))
 have q1 : er ≠ 0 := hq
 rw [decide_eq_true q1]
 refine Ct (Sn (Qs 1 rfl (Za (Zl (Zk isAgg77 rfl hc rfl (Qs 1 rfl (Zk isAgg3 rfl hf rfl (Xc [.int .u8 0] sizeOf5 rfl hx rfl rfl rfl rfl rfl ?_))))))))
 intro w1 hU1 hzz1 hx
 replace he := he.Zh hU1
 replace hp := hp.Zh hU1
 replace HU := HU.Zr hU1
 refine Zf (Yj rfl) (Zf (Zo underlying118 rfl sizeOf3 rfl rfl) (Xc [s, .int .i64 at0] sizeOf3 rfl hp rfl rfl rfl rfl rfl ?_))
 intro w2 hU2 hzz2 hp
 replace he := he.Zh hU2
 replace hx := hx.Zh hU2
 replace HU := HU.Zr hU2
 refine Za (cd_nrm (v := .tuple #[]) (res0 results119) ?_)
 exact ⟨_, rfl, rfl, he, hx, hp, HU⟩
theorem readBy_spec {pb gf : Nat} {caps : Array Value} {s : Value} {at0 : Int} {Φ : Value → Int → Int → World → World → Prop} (w : World) (hp : Blk w pb [s, .int .i64 at0]) (hgf : ∀ ar w, (callFunc gf ar).run Tryz.prog w = .ok (.enter gf ar) w) (hget : ∀ w1, Upd No w w1 → Calls Tryz.prog gf caps w1 (Ret fun v w2 => ∃ x er, v = .tuple #[x, .int .i64 er] ∧ x.cells = #[x] ∧ x.oneCell' = true ∧ ∃ at1, Blk w2 pb [s, .int .i64 at1] ∧ Upd (Is pb) w1 w2 ∧ Φ x er at1 w1 w2)) :
  Calls Tryz.prog 96 #[.pointer (some ⟨pb, 0, none⟩), .func (.func gf) #[] caps] w (Ret fun v w' => ∃ x er at1 w1 w2, v = .tuple #[if er = 0 then x else .int .u8 0, .int .i64 er] ∧ Blk w' pb [s, .int .i64 (if er = 0 then at1 else at0)] ∧ Upd No w w1 ∧ Φ x er at1 w1 w2 ∧ Upd (fun b => b = pb ∨ (w.heap.size ≤ b ∧ b < w1.heap.size)) w2 w' ∧ Upd (Is pb) w w') := by
 have HU : Upd (fun b => b = pb) w w := Upd.refl _ _
 have HN : Upd No w w := Upd.refl _ _
 have hpl := hp.lt
 refine Zq func96 rfl ntmps96 (by simp) (Sn (Wl_box (v := .pointer (some ⟨pb, 0, none⟩)) (cs := [.pointer (some ⟨pb, 0, none⟩)]) rfl rfl ?_))
 intro B1 w1 hB1 hU1 hzz1 hb1
 refine ZB zeroValue5 rfl ?_
 intro B2 w2 hB2 hU2 hzz2 hb2
 refine ZB zeroValue25 rfl ?_
 intro B3 w3 hB3 hU3 hzz3 hb3
 refine Za (Sm ?_)
 replace hb1 := (hb1.Zc hU2).Zc hU3
 refine Zk isAgg77 rfl hb1 rfl (Zf (YZ underlying77 rfl rfl) (Za (Cf (Zi (Sn (Zk isAgg77 rfl hb1 rfl (Zf (Yj rfl) (Zf (Zo underlying118 rfl sizeOf3 rfl rfl) ?_))))))))
 replace hp := ((hp.Zc hU1).Zc hU2).Zc hU3
 refine Zk isAgg3 rfl hp rfl (ZB zeroValue3 rfl ?_)
 intro B4 w4 hB4 hU4 hzz4 hb4
 refine Xc [.int .i64 at0] sizeOf3 rfl hb4 rfl rfl rfl rfl rfl ?_
 intro w5 hU5 hzz5 hb4
 refine Za (Sn (Zf (r_mkf4 (v0 := .pointer (some ⟨B3, 0, none⟩)) (v1 := .pointer (some ⟨B4, 0, none⟩)) (v2 := .pointer (some ⟨B2, 0, none⟩)) (v3 := .pointer (some ⟨B1, 0, none⟩)) rfl rfl rfl rfl) (Wl_defer rfl (Za (Sn (Qs 1 rfl ?_))))))
 replace HN := ((((HN.Zb hU1).Zb hU2).Zb hU3).Zb hU4).Zr hU5
 refine Zj (Yz hgf rfl (by simp)) (hget w5 HN) ?_
 rintro v w6 ⟨x, er, rfl, hx1, hx2, at1, hpn, hU6, hΦ⟩
 have HP : Upd No w w5 := HN
 replace hp := (hp.Zc hU4).Zh hU5
 replace hp := hpn
 replace HU := ((((HU.Zb hU1).Zb hU2).Zb hU3).Zb hU4).Zr hU5
 replace hb2 := ((hb2.Zc hU3).Zc hU4).Zh hU5
 replace hb1 := (hb1.Zc hU4).Zh hU5
 replace hb3 := (hb3.Zc hU4).Zh hU5
 clear hpn
 have:=hU6.size
 have HX : Upd (fun b => b = pb ∨ (w.heap.size ≤ b ∧ b < w5.heap.size)) w6 w6 := Upd.refl _ _
 refine Zf (r_ext (v := x) rfl rfl) (Qs 1 rfl ?_)
 replace hb2 := hb2.Zh hU6
 refine Wl_store (v := x) (cs' := [x]) sizeOf5 rfl rfl hx1 hx2 hb2 rfl rfl ?_
 intro w7 hU7 hzz7 hb2
 replace hb3 := (hb3.Zh hU6).Zh hU7
 refine Xc [.int .i64 er] sizeOf25 rfl hb3 rfl rfl rfl rfl rfl ?_
 intro w8 hU8 hzz8 hb3
 refine Za (Zn (ret_ds rfl ?_))
 replace HU := ((HU.Zr hU6).Zr hU7).Zr hU8
 replace hb1 := ((hb1.Zh hU6).Zh hU7).Zh hU8
 replace hb4 := ((hb4.Zh hU6).Zh hU7).Zh hU8
 replace hp := (hp.Zh hU7).Zh hU8
 replace HX := (HX.Zr hU7).Zr hU8
 replace hb2 := hb2.Zh hU8
 by_cases hq : er = 0
 ·refine lv_call (by simp) call119 rfl (readdBy_ok _ _ hb3 hb4 hb2 hb1 hp (by omega) hq) ?_
  rintro e1 u1 w9 ⟨rfl, v1, rfl, rfl, hU9⟩
  have:=hU9.size
  refine lv_nil (v := .tuple #[x, .int .i64 er]) (resc2 results96 rfl rfl isAgg5 isAgg25 (hb2.Zc hU9) (hb3.Zc hU9)) ?_
  exact ⟨_, rfl, x, er, at1, w5, w6, by simp [hq], by simpa [hq] using (hp.Zc hU9), HP, hΦ, (HX.Zb hU9), (HU.Zb hU9)⟩
 refine lv_call (by simp) call119 rfl (readdBy_err _ _ hb3 hb4 hb2 hb1 hp (by omega) hq) ?_
 rintro e1 u1 w9 ⟨rfl, v1, rfl, rfl, hee, hxx, hpp, hU9⟩
 have:=hU9.size
 refine lv_nil (v := .tuple #[.int .u8 0, .int .i64 er]) (resc2 results96 rfl rfl isAgg5 isAgg25 hxx hee) ?_
 exact ⟨_, rfl, x, er, at1, w5, w6, by simp [hq], by simpa [hq] using hpp, HP, hΦ, (HX.trans hU9), (HU.trans hU9)⟩
theorem new_spec {a : Option Addr} {m c : Nat} {bs : List Int} (w : World) (hs : Sl w (fun g => g < w.heap.size) 1 (.slice a m c) m (ints .u8 bs)) (hm : m ≤ 140737488355328) :
  Calls Tryz.prog 21 #[.slice a m c] w (Ret fun v w' => ∃ pb a' c', v = .pointer (some ⟨pb, 0, none⟩) ∧ Blk w' pb [.slice a' m c', .int .i64 0] ∧ Own w' (fun g => w.heap.size ≤ g ∧ g ≠ pb) 5 1 (.slice a' m c') m (ints .u8 bs) ∧ w.heap.size ≤ pb ∧ Upd No w w') := by
 have HU := Upd.Yo w
 refine Zq func21 rfl ntmps21 (by simp) (Sn (Qs 1 rfl (Za (Sn (Qs 1 rfl (Zj (Zv rfl call41 rfl) (clone_spec _ hs one_ints (by omega)) ?_))))))
 rintro v w1 ⟨a1, c1, rfl, hO, hU1⟩
 have:=hU1.size
 refine Zf (ZF (pl := #[(0, 1), (1, 1)]) (pv := [(0, .slice a1 m c1)]) (cs := #[.slice a1 m c1, .int .i64 0]) zeroValue118 underlying118 (fun w => by kernel_rfl)) (Xb rfl ?_)
 intro B2 w2 hB2 hU2 hzz2 hb2
 refine Qs 1 rfl (Za (Zn (Zg (v := .pointer (some ⟨B2, 0, none⟩)) rfl (Z9 results21 rfl) ?_)))
 exact ⟨_, rfl, _, _, _, rfl, hb2, ((hO.tight).Zc hU2).weak, by omega, ((HU.Zb hU1).Zb hU2)⟩
theorem rgetword_spec {a : Option Addr} {n c p : Nat} {bs : List Int} (w : World) (hs : Sl w (fun g => g < w.heap.size) 1 (.slice a n c) n (ints .u8 bs)) (hb : Byt bs) (hpn : p ≤ n) (hn : n ≤ 140737488355328) :
  Calls Tryz.prog 28 #[.slice a n c, .int .i64 p] w (Ret fun v w' => v = .tuple #[.int .u32 (ZE bs p).1, .int .i64 ((ZE bs p).2.1 : Nat), .int .i64 (ZE bs p).2.2] ∧ Upd No w w') := by
 have HU := Upd.Yo w
 have hl := ZC hs
 have hcap := hs.cap.1
 refine Zq func28 rfl ntmps28 (by simp) (Sn (Qs 3 rfl (Za (Sm (Qs 1 rfl (Zf (ZM underlying22 rfl) (Qs 1 rfl (Xs rfl rfl (Qs 1 rfl (Za (W_if rfl (fun q1 => ?_) fun q1 => ?_)))))))))))
 ·refine Sn (Qs 4 rfl (Za (Zn (Zg (v := .tuple #[.int .u32 0, .int .i64 p, .int .i64 3]) rfl (Yr results28 rfl rfl rfl) ?_))))
  exact ⟨_, rfl, by simp [ZE, show bs.length < p + 4 from by omega], HU⟩
 refine Zi (Sn (Qs 1 rfl (Za (Sm (Qs 1 rfl (Za (Zs (ZS (fun mu ρ ds w' => ∃ (j : Nat), j = mu ∧ ds = [] ∧ Liv ρ [(0, .slice a n c), (1, .int .i64 p), (4, .int .u32 0), (5, .int .i64 0), (6, .int .i64 0), (7, .int .u32 (wval (((bs.drop p).take 4).drop j))), (8, .int .i64 ((j : Int) - 1))] ∧ j ≤ 4 ∧ Upd No w w') _ ⟨4, rfl, rfl, ⟨rfl, rfl, rfl, rfl, rfl, (Zt wval_end.symm), Zt, trivial⟩, (by omega), Upd.refl _ _⟩ ?_))))))))
 rintro m1 ρ1 ds1 w1 ⟨j, rfl, rfl, hl1, hj4, hU1⟩
 obtain ⟨ρ1x, rfl⟩ : ∃ ρx, ρ1 = upds ρx [(0, .slice a n c), (1, .int .i64 p), (4, .int .u32 0), (5, .int .i64 0), (6, .int .i64 0), (7, .int .u32 (wval (((bs.drop p).take 4).drop j))), (8, .int .i64 ((j : Int) - 1))] := ⟨_, ZD hl1⟩
 clear hl1
 have:=hU1.size
 have HL1 := hU1
 refine Sm (Qs 2 rfl (Za ?_))
 by_cases q2 : 0 ≤ ((j : Int) - 1)
 ·have hv := wval_next hb (p := p) (j := j) (by omega) (by omega) hj4
  have hx := Yi hb (p + (j - 1))
  rw [decide_eq_true q2]
  refine Ct (Zi (Zz (Zs (Zl (Qs 1 rfl (Zf (YM rfl rfl (wu32 (by omega) (by omega))) (Qs 3 rfl (Xd rfl rfl (Z7 underlying22 sizeOf5 rfl rfl (hs.Zc hU1) (by omega) (by omega) ?_)))))))))
  intro ib2 io2 hc2
  rw [show ((p : Int) + ((j : Int) - 1)).toNat = p + (j - 1) from by omega] at hc2
  refine ZH isAgg5 rfl hc2 (Zf (ZZ underlying5 underlying32 rfl (wu32 (by omega) (by omega))) (Zf (Yf rfl rfl (wu32 (by omega) (by omega))) (Qs 1 rfl (Za (Zl (Qs 1 rfl (Xs rfl rfl (Qs 1 rfl (Za ?_)))))))))
  refine ⟨_, ?_, (j - 1), rfl, rfl, ⟨rfl, rfl, rfl, rfl, rfl, Zt, Zt, trivial⟩, (by omega), HL1⟩
  omega
 rw [decide_eq_false q2]
 refine Cf (ZI (Sn (Qs 2 rfl (Xd rfl rfl (Qs 3 rfl (Za (Zn (Zg (v := .tuple #[.int .u32 (wval (((bs.drop p).take 4).drop j)), .int .i64 ((p : Int) + 4), .int .i64 0]) rfl (Yr results28 rfl rfl rfl) ?_))))))))
 have hj0 : j = 0 := by omega
 replace hs := hs.Zc hU1
 replace HU := HU.Zb hU1
 subst hj0
 exact ⟨_, rfl, by simp [ZE, show ¬ bs.length < p + 4 from by omega], HU⟩
theorem rget_spec {a : Option Addr} {n c p : Nat} {bs : List Int} (w : World) (hs : Sl w (fun g => g < w.heap.size) 1 (.slice a n c) n (ints .u8 bs)) (hb : Byt bs) (hpn : p ≤ n) (hn : n ≤ 140737488355328) :
  Calls Tryz.prog 55 #[.slice a n c, .int .i64 p] w (Ret fun v w' => v = .tuple #[.int .u64 (ZN bs p).1, .int .i64 ((ZN bs p).2.1 : Nat), .int .i64 (ZN bs p).2.2] ∧ Upd No w w') := by
 have HU := Upd.Yo w
 have hl := ZC hs
 have hcap := hs.cap.1
 refine Zq func55 rfl ntmps55 (by simp) (Sn (Qs 3 rfl (Za (Sn (Qs 1 rfl (Za (Zz (Zs (ZS (fun mu ρ ds w' => ∃ (k : Nat), 9 - k = mu ∧ ds = [] ∧ Liv ρ [(0, .slice a n c), (1, .int .i64 p), (4, .int .u64 0), (5, .int .i64 0), (6, .int .i64 0), (7, .int .i64 k)] ∧ k ≤ 9 ∧ p + k ≤ n ∧ (∀ i, i < k → 128 ≤ bs.getD (p + i) 0) ∧ Upd No w w') _ ⟨0, rfl, rfl, ⟨rfl, rfl, rfl, rfl, rfl, (by first | rfl | exact Zt (by omega) | exact Zt (by simp)), trivial⟩, (by omega), (by omega), (fun i hi => absurd hi (by omega)), Upd.refl _ _⟩ ?_)))))))))
 rintro m1 ρ1 ds1 w1 ⟨k, rfl, rfl, hl1, hk9, hpk, hall, hU1⟩
 obtain ⟨ρ1x, rfl⟩ : ∃ ρx, ρ1 = upds ρx [(0, .slice a n c), (1, .int .i64 p), (4, .int .u64 0), (5, .int .i64 0), (6, .int .i64 0), (7, .int .i64 k)] := ⟨_, ZD hl1⟩
 clear hl1
 have:=hU1.size
 have HL1 := hU1
 refine Sm (Qs 3 rfl ?_)
 replace HU := HU.Zb hU1
 by_cases q1 : (k : Int) < 9
 ·rw [decide_eq_true q1]
  refine Gt (Qs 1 rfl (Gt (Qs 1 rfl (Gt (Xd rfl rfl (Gt (Qs 1 rfl (Gt (Zf (ZM underlying22 rfl) (Gt (Qs 1 rfl (Zf (Zx (v := .bool (decide (((p : Int) + (k : Int)) < (n : Int)))) rfl rfl) (Qs 1 rfl ?_)))))))))))))
  by_cases q2 : ((p : Int) + (k : Int)) < (n : Int)
  ·rw [decide_eq_true q2]
   refine Gt (Qs 1 rfl (Gt (Qs 1 rfl (Gt (Qs 1 rfl (Gt (Xd rfl rfl (Gt ?_))))))))
   replace hs := hs.Zc hU1
   refine Z7 underlying22 sizeOf5 rfl rfl hs (by omega) (by omega) ?_
   intro ib2 io2 hc2
   rw [show ((p : Int) + (k : Int)).toNat = p + k from by omega] at hc2
   have hc2x := Yi hb (p + k)
   refine Gt (ZH isAgg5 rfl hc2 (Gt (Qs 1 rfl (Zf (Zx (v := .bool (decide (128 ≤ (bs.getD (p + k) 0)))) rfl rfl) (Za (W_if rfl (fun q3 => ?_) fun q3 => ?_))))))
   ·refine Zi (Zs (Zl (Qs 1 rfl (Xd rfl rfl (Qs 1 rfl (Za ?_))))))
    refine ⟨_, ?_, (k + 1), rfl, rfl, ⟨rfl, rfl, rfl, rfl, rfl, (by first | rfl | exact Zt (by omega) | exact Zt (by simp)), trivial⟩, (by omega), (by omega), (fun i hi => by rcases Nat.lt_or_ge i k with h | h; exact hall i h; rw [show i = k from by omega]; exact q3), HL1⟩
    omega
   refine ZI (Sm (Qs 2 rfl (Za ?_)))
   have q4 : ¬ ((k : Int) = 9) := (by omega)
   rw [decide_eq_false q4]
   refine Cf (Zi (Sm (Qs 2 rfl (Xd rfl rfl (Qs 1 rfl (Zf (ZM underlying22 rfl) (Qs 1 rfl (Za ?_))))))))
   have q5 : ¬ ((n : Int) ≤ ((p : Int) + (k : Int))) := (by omega)
   rw [decide_eq_false q5]
   refine Cf (Zi (Sm (Qs 3 rfl ?_)))
   by_cases q6 : 0 < (k : Int)
   ·rw [decide_eq_true q6]
    refine Gt (Qs 1 rfl (Gt (Qs 1 rfl (Gt (Qs 1 rfl (Gt (Xd rfl rfl (Gt (Z7 underlying22 sizeOf5 rfl rfl hs (by omega) (by omega) ?_)))))))))
    intro ib3 io3 hc3
    rw [show ((p : Int) + (k : Int)).toNat = p + k from by omega] at hc3
    have hc3x := Yi hb (p + k)
    refine Gt (ZH isAgg5 rfl hc3 (Gt (Qs 1 rfl (Zf (Zx (v := .bool (decide ((bs.getD (p + k) 0) = 0))) rfl rfl) (Za ?_)))))
    by_cases q7 : (bs.getD (p + k) 0) = 0
    ·have hg := gvar_min (p := p) (k := k) (by omega) (by omega) hall (by omega) q7
     rw [decide_eq_true q7]
     refine Ct (Sn (Qs 4 rfl (Za (Zn (Zg (v := .tuple #[.int .u64 0, .int .i64 p, .int .i64 5]) rfl (Yr results55 rfl rfl rfl) ?_)))))
     rw [hg]
     exact ⟨_, rfl, rfl, HU⟩
    have hg := gvar_else (p := p) (k := k) (by omega) (by omega) hall (by omega) (by omega)
    rw [decide_eq_false q7]
    refine Cf (Zi (Sn (Qs 1 rfl (Za (Sm (Qs 2 rfl (Za (Zs (ZS (fun mu ρ ds w' => ∃ (j : Nat), j = mu ∧ ds = [] ∧ Liv ρ [(0, .slice a n c), (1, .int .i64 p), (4, .int .u64 0), (5, .int .i64 0), (6, .int .i64 0), (7, .int .i64 k), (8, .int .u64 (val (((bs.drop p).take (k + 1)).drop j))), (9, .int .i64 ((j : Int) - 1))] ∧ j ≤ k + 1 ∧ Upd No w1 w') _ ⟨(k + 1), rfl, rfl, ⟨rfl, rfl, rfl, rfl, rfl, rfl, (Zt val_end.symm), Zt, trivial⟩, (by omega), Upd.refl _ _⟩ ?_)))))))))
    rintro m4 ρ4 ds4 w4 ⟨j, rfl, rfl, hl4, hj, hU4⟩
    obtain ⟨ρ4x, rfl⟩ : ∃ ρx, ρ4 = upds ρx [(0, .slice a n c), (1, .int .i64 p), (4, .int .u64 0), (5, .int .i64 0), (6, .int .i64 0), (7, .int .i64 k), (8, .int .u64 (val (((bs.drop p).take (k + 1)).drop j))), (9, .int .i64 ((j : Int) - 1))] := ⟨_, ZD hl4⟩
    clear hl4
    have:=hU4.size
    have HL4 := hU4
    refine Sm (Qs 2 rfl (Za ?_))
    by_cases q8 : 0 ≤ ((j : Int) - 1)
    ·have hv := val_next (bs := bs) (p := p) (k := k) (j := j) (by omega) (by omega) hj (by omega)
     rw [decide_eq_true q8]
     refine Ct (Zi (Zz (Zs (Zl (Qs 1 rfl (Zf (YM rfl rfl (wu64 (by omega) (by omega))) (Qs 3 rfl (Xd rfl rfl (Z7 underlying22 sizeOf5 rfl rfl (hs.Zc hU4) (by omega) (by omega) ?_)))))))))
     intro ib5 io5 hc5
     rw [show ((p : Int) + ((j : Int) - 1)).toNat = p + (j - 1) from by omega] at hc5
     have hc5x := Yi hb (p + (j - 1))
     refine ZH isAgg5 rfl hc5 (Zf (YW rfl rfl (by omega) (tr (by omega))) (Zf (ZZ underlying5 underlying101 rfl (wu64 (by omega) (by omega))) (Zf (Yf rfl rfl (wu64 (by omega) (by omega))) (Qs 1 rfl (Za (Zl (Qs 1 rfl (Xs rfl rfl (Qs 1 rfl (Za ?_))))))))))
     refine ⟨_, ?_, (j - 1), rfl, rfl, ⟨rfl, rfl, rfl, rfl, rfl, rfl, Zt, Zt, trivial⟩, (by omega), HL4⟩
     omega
    rw [decide_eq_false q8]
    have hj0 : j = 0 := by omega
    rw [hj0, List.drop_zero]
    refine Cf (ZI (Sm (Qs 2 rfl (Za ?_))))
    replace HU := HU.Zb hU4
    refine W_if rfl (fun q9 => ?_) fun q9 => ?_
    ·refine Sn (Qs 4 rfl (Za (Zn (Zg (v := .tuple #[.int .u64 0, .int .i64 p, .int .i64 18]) rfl (Yr results55 rfl rfl rfl) ?_))))
     rw [hg]
     rw [if_pos q9]
     exact ⟨_, rfl, rfl, HU⟩
    refine Zi (Sn (Qs 3 rfl (Xd rfl rfl (Xd rfl rfl (Qs 3 rfl (Za (Zn (Zg (v := .tuple #[.int .u64 (val ((bs.drop p).take (k + 1))), .int .i64 (((p : Int) + (k : Int)) + 1), .int .i64 0]) rfl (Yr results55 rfl rfl rfl) ?_))))))))
    rw [hg]
    rw [if_neg q9]
    exact ⟨_, rfl, rfl, HU⟩
   have hg := gvar_else (p := p) (k := k) (by omega) (by omega) hall (by omega) (by omega)
   rw [decide_eq_false q6]
   refine Gf (Gf (Gf (Gf (Gf (Gf (Gf (Zf (Zw (v := .bool false) rfl rfl) (Za (Cf (Zi (Sn (Qs 1 rfl (Za (Sm (Qs 2 rfl (Za (Zs (ZS (fun mu ρ ds w' => ∃ (j : Nat), j = mu ∧ ds = [] ∧ Liv ρ [(0, .slice a n c), (1, .int .i64 p), (4, .int .u64 0), (5, .int .i64 0), (6, .int .i64 0), (7, .int .i64 k), (8, .int .u64 (val (((bs.drop p).take (k + 1)).drop j))), (9, .int .i64 ((j : Int) - 1))] ∧ j ≤ k + 1 ∧ Upd No w1 w') _ ⟨(k + 1), rfl, rfl, ⟨rfl, rfl, rfl, rfl, rfl, rfl, (Zt val_end.symm), Zt, trivial⟩, (by omega), Upd.refl _ _⟩ ?_))))))))))))))))))
   rintro m6 ρ6 ds6 w6 ⟨j, rfl, rfl, hl6, hj, hU6⟩
   obtain ⟨ρ6x, rfl⟩ : ∃ ρx, ρ6 = upds ρx [(0, .slice a n c), (1, .int .i64 p), (4, .int .u64 0), (5, .int .i64 0), (6, .int .i64 0), (7, .int .i64 k), (8, .int .u64 (val (((bs.drop p).take (k + 1)).drop j))), (9, .int .i64 ((j : Int) - 1))] := ⟨_, ZD hl6⟩
   clear hl6
   have:=hU6.size
   have HL6 := hU6
   refine Sm (Qs 2 rfl (Za ?_))
   by_cases q10 : 0 ≤ ((j : Int) - 1)
   ·have hv := val_next (bs := bs) (p := p) (k := k) (j := j) (by omega) (by omega) hj (by omega)
    rw [decide_eq_true q10]
    refine Ct (Zi (Zz (Zs (Zl (Qs 1 rfl (Zf (YM rfl rfl (wu64 (by omega) (by omega))) (Qs 3 rfl (Xd rfl rfl (Z7 underlying22 sizeOf5 rfl rfl (hs.Zc hU6) (by omega) (by omega) ?_)))))))))
    intro ib7 io7 hc7
    rw [show ((p : Int) + ((j : Int) - 1)).toNat = p + (j - 1) from by omega] at hc7
    have hc7x := Yi hb (p + (j - 1))
    refine ZH isAgg5 rfl hc7 (Zf (YW rfl rfl (by omega) (tr (by omega))) (Zf (ZZ underlying5 underlying101 rfl (wu64 (by omega) (by omega))) (Zf (Yf rfl rfl (wu64 (by omega) (by omega))) (Qs 1 rfl (Za (Zl (Qs 1 rfl (Xs rfl rfl (Qs 1 rfl (Za ?_))))))))))
    refine ⟨_, ?_, (j - 1), rfl, rfl, ⟨rfl, rfl, rfl, rfl, rfl, rfl, Zt, Zt, trivial⟩, (by omega), HL6⟩
    omega
   rw [decide_eq_false q10]
   have hj0 : j = 0 := by omega
   rw [hj0, List.drop_zero]
   refine Cf (ZI (Sm (Qs 2 rfl (Za ?_))))
   replace HU := HU.Zb hU6
   refine W_if rfl (fun q11 => ?_) fun q11 => ?_
   ·refine Sn (Qs 4 rfl (Za (Zn (Zg (v := .tuple #[.int .u64 0, .int .i64 p, .int .i64 18]) rfl (Yr results55 rfl rfl rfl) ?_))))
    rw [hg]
    rw [if_pos q11]
    exact ⟨_, rfl, rfl, HU⟩
   refine Zi (Sn (Qs 3 rfl (Xd rfl rfl (Xd rfl rfl (Qs 3 rfl (Za (Zn (Zg (v := .tuple #[.int .u64 (val ((bs.drop p).take (k + 1))), .int .i64 (((p : Int) + (k : Int)) + 1), .int .i64 0]) rfl (Yr results55 rfl rfl rfl) ?_))))))))
   rw [hg]
   rw [if_neg q11]
   exact ⟨_, rfl, rfl, HU⟩
  have hg := gvar_short (p := p) (k := k) (by omega) (by omega) hall
  rw [decide_eq_false q2]
  refine Gf (Gf (Gf (Gf (Gf (Gf (Gf (Zf (Zw (v := .bool false) rfl rfl) (Za (Cf (ZI (Sm (Qs 2 rfl (Za ?_)))))))))))))
  have q12 : ¬ ((k : Int) = 9) := (by omega)
  rw [decide_eq_false q12]
  refine Cf (Zi (Sm (Qs 2 rfl (Xd rfl rfl (Qs 1 rfl (Zf (ZM underlying22 rfl) (Qs 1 rfl (Za ?_))))))))
  have q13 : (n : Int) ≤ ((p : Int) + (k : Int)) := (by omega)
  rw [decide_eq_true q13]
  refine Ct (Sn (Qs 4 rfl (Za (Zn (Zg (v := .tuple #[.int .u64 0, .int .i64 p, .int .i64 3]) rfl (Yr results55 rfl rfl rfl) ?_)))))
  rw [hg]
  exact ⟨_, rfl, rfl, HU⟩
 have hg := gvar_long (p := p) (k := k) (by omega) hk9 hall (by omega)
 rw [decide_eq_false q1]
 refine Gf (Gf (Gf (Gf (Gf (Gf (Zf (Zw (v := .bool false) rfl rfl) (Qs 1 rfl (Gf (Gf (Gf (Gf (Gf (Gf (Gf (Zf (Zw (v := .bool false) rfl rfl) (Za (Cf (ZI (Sm (Qs 2 rfl (Za ?_)))))))))))))))))))))
 have q14 : (k : Int) = 9 := (by omega)
 rw [decide_eq_true q14]
 refine Ct (Sn (Qs 4 rfl (Za (Zn (Zg (v := .tuple #[.int .u64 0, .int .i64 p, .int .i64 18]) rfl (Yr results55 rfl rfl rfl) ?_)))))
 rw [hg]
 exact ⟨_, rfl, rfl, HU⟩
theorem rbytes_spec {a : Option Addr} {n c p : Nat} {bs : List Int} {k : Int} {R : Nat → Prop} (w : World) (hs : Sl w R 1 (.slice a n c) n (ints .u8 bs)) (hb : Byt bs) (hpn : p ≤ n) (hn : n ≤ 140737488355328) :
  Calls Tryz.prog 29 #[.slice a n c, .int .i64 p, .int .i64 k] w (Ret fun v w' => ∃ a' m' c', v = .tuple #[.slice a' m' c', .int .i64 ((ZW bs p k).2.1 : Nat), .int .i64 (ZW bs p k).2.2] ∧ Sl w' R 1 (.slice a' m' c') m' (ints .u8 (ZW bs p k).1) ∧ (ZW bs p k).1.length = m' ∧ Upd No w w') := by
 have HU := Upd.Yo w
 have hl := ZC hs
 have hcap := hs.cap.1
 refine Zq func29 rfl ntmps29 (by simp) (Sn (Qs 3 rfl (Za (Sm (Qs 2 rfl (Za (W_if rfl (fun q1 => ?_) fun q1 => ?_)))))))
 ·refine Sn (Qs 4 rfl (Za (Zn (Zg (v := .tuple #[.slice none 0 0, .int .i64 p, .int .i64 2]) rfl (Yr results29 rfl rfl rfl) ?_))))
  rw [gbytes_neg (by omega)]
  exact ⟨_, rfl, none, 0, 0, rfl, Sl.nil _ _ _, rfl, HU⟩
 refine Zi (Sm (Qs 2 rfl (Zf (ZM underlying22 rfl) (Qs 1 rfl (Xs rfl rfl (Qs 1 rfl (Za (W_if rfl (fun q2 => ?_) fun q2 => ?_))))))))
 ·refine Sn (Qs 4 rfl (Za (Zn (Zg (v := .tuple #[.slice none 0 0, .int .i64 p, .int .i64 3]) rfl (Yr results29 rfl rfl rfl) ?_))))
  rw [YP (by omega) (by omega)]
  exact ⟨_, rfl, none, 0, 0, rfl, Sl.nil _ _ _, rfl, HU⟩
 refine Zi (Sn (Qs 4 rfl (Xd rfl rfl (Zf (YY (l' := p) (h' := p + k.toNat) (n' := k.toNat) underlying22 sizeOf5 rfl rfl rfl (by omega) (by omega) (by omega) (by omega) (by omega)) (Qs 2 rfl (Xd rfl rfl (Qs 3 rfl (Za (Zn (Zg (v := .tuple #[.slice (if c = p then a else a.map (·.add (p * 1))) k.toNat (c - p), .int .i64 ((p : Int) + k), .int .i64 0]) rfl (Yr results29 rfl rfl rfl) ?_))))))))))
 rw [YR (by omega) (by omega)]
 exact ⟨_, rfl, _, _, _, Y6 rfl (Zt (by dsimp only; omega)) rfl, hs.cutn (by omega), by rw [List.length_take, List.length_drop]; omega, HU⟩
theorem rnumber_spec {a : Option Addr} {n c p : Nat} {bs : List Int} {most : Int} (w : World) (hs : Sl w (fun g => g < w.heap.size) 1 (.slice a n c) n (ints .u8 bs)) (hb : Byt bs) (hpn : p ≤ n) (hn : n ≤ 140737488355328) (hm : -9223372036854775808 ≤ most ∧ most ≤ 9223372036854775807) :
  Calls Tryz.prog 121 #[.slice a n c, .int .i64 p, .int .i64 most] w (Ret fun v w' => v = .tuple #[.int .i64 (gnum bs p most).1, .int .i64 ((gnum bs p most).2.1 : Nat), .int .i64 (gnum bs p most).2.2] ∧ Upd No w w') := by
 have HU := Upd.Yo w
 have hl := ZC hs
 have hcap := hs.cap.1
 refine Zq func121 rfl ntmps121 (by simp) (Sn (Qs 3 rfl (Za (Sn (Qs 2 rfl (Zj (Zy rfl call55 rfl rfl) (rget_spec _ hs hb hpn hn) ?_))))))
 rintro v w1 ⟨rfl, hU1⟩
 have:=hU1.size
 have hg := Yw bs p (by omega)
 refine Qs 7 rfl (Za (Sm (Qs 2 rfl (Za ?_))))
 replace HU := HU.Zb hU1
 by_cases q1 : ((ZN bs p).2.2) ≠ 0
 ·have hq := q1
  rw [decide_eq_true q1]
  refine Ct (Sn (Qs 5 rfl (Za (Zn (Zg (v := .tuple #[.int .i64 0, .int .i64 p, .int .i64 ((ZN bs p).2.2)]) rfl (Yr results121 rfl rfl rfl) ?_)))))
  exact ⟨_, rfl, by rw [gnum_err hq], HU⟩
 rw [decide_eq_false q1]
 refine Cf (Zi (Sm (Qs 3 rfl ?_)))
 by_cases q2 : 0 < ((ZN bs p).1)
 ·rw [decide_eq_true q2]
  refine Gt (Qs 1 rfl (Gt (Qs 1 rfl (Gt (Qs 1 rfl ?_)))))
  by_cases q3 : most < 0
  ·rw [decide_eq_true q3]
   refine Gf (Gf (Gf (Gf (Gt (Zf (Zx (v := .bool true) rfl rfl) (Zf (Zx (v := .bool true) rfl rfl) (Za (Ct (Sn (Qs 4 rfl (Za (Zn (Zg (v := .tuple #[.int .i64 0, .int .i64 p, .int .i64 18]) rfl (Yr results121 rfl rfl rfl) ?_)))))))))))))
   exact ⟨_, rfl, by rw [gnum_lim (by omega) (by omega)], HU⟩
  rw [decide_eq_false q3]
  refine Gt (Qs 1 rfl (Gt (Qs 1 rfl (Gt (Zf (ZZ underlying3 underlying101 rfl (wu64 (by omega) (by omega))) (Gt (Qs 1 rfl (Gt (Zf (Zw (v := .bool (decide (most < ((ZN bs p).1)))) rfl rfl) (Zf (Zx (v := .bool (decide (most < ((ZN bs p).1)))) rfl rfl) (Za (W_if rfl (fun q4 => ?_) fun q4 => ?_))))))))))))
  ·refine Sn (Qs 4 rfl (Za (Zn (Zg (v := .tuple #[.int .i64 0, .int .i64 p, .int .i64 18]) rfl (Yr results121 rfl rfl rfl) ?_))))
   exact ⟨_, rfl, by rw [gnum_lim (by omega) (by omega)], HU⟩
  refine Zi (Sn (Qs 1 rfl (Zf (ZZ underlying101 underlying3 rfl ZY) (Qs 4 rfl (Za (Zn (Zg (v := .tuple #[.int .i64 ((ZN bs p).1), .int .i64 ((ZN bs p).2.1 : Nat), .int .i64 0]) rfl (Yr results121 rfl rfl rfl) ?_)))))))
  exact ⟨_, rfl, by rw [gnum_ok (by omega) (by omega)]; exact Y6 rfl rfl Zt, HU⟩
 rw [decide_eq_false q2]
 refine Gf (Gf (Gf (Z6 rfl (Z6 rfl (Z6 rfl (Z6 rfl (Gf (Zf (Zw (v := .bool false) rfl rfl) (Za (Cf (Zi (Sn (Qs 1 rfl (Zf (ZZ underlying101 underlying3 rfl ZY) (Qs 4 rfl (Za (Zn (Zg (v := .tuple #[.int .i64 ((ZN bs p).1), .int .i64 ((ZN bs p).2.1 : Nat), .int .i64 0]) rfl (Yr results121 rfl rfl rfl) ?_))))))))))))))))))
 exact ⟨_, rfl, by rw [gnum_ok (by omega) (by omega)]; exact Y6 rfl rfl Zt, HU⟩
theorem peek_spec {pb : Nat} {a : Option Addr} {n c p : Nat} {bs : List Int} {k : Int} {t : Nat} (w : World) (hp : Blk w pb [.slice a n c, .int .i64 p]) (hs : Sl w (fun g => g < w.heap.size ∧ g ≠ pb) 1 (.slice a n c) n (ints .u8 bs)) (hb : Byt bs) (hpn : p ≤ n) (hn : n ≤ 140737488355328) (ht : (t : Int) = min (max k 0) ((n : Int) - (p : Int))) :
  Calls Tryz.prog 74 #[.pointer (some ⟨pb, 0, none⟩), .int .i64 k] w (Ret fun v w' => ∃ a' c', v = .slice a' t c' ∧ Own w' (Ge w.heap.size) 5 1 (.slice a' t c') t (ints .u8 ((bs.drop p).take t)) ∧ Upd No w w') := by
 have HU := Upd.Yo w
 have hl := ZC hs
 have hcap := hs.cap.1
 have hpl := hp.lt
 refine Zq func74 rfl ntmps74 (by simp) (Sn (Qs 1 rfl (Za (Sm (Qs 1 rfl (Zf (YZ underlying77 rfl rfl) (Za (Cf (Zi (Sn (Qs 1 rfl (Zf (r_max rfl rfl) (Qs 1 rfl (Zj (Zv rfl call22 rfl) (left_spec _ hp (by omega) (by omega) (by omega)) ?_))))))))))))))
 rintro v w1 ⟨rfl, hU1⟩
 have:=hU1.size
 refine Zf (r_min rfl rfl) (Qs 1 rfl ?_)
 rw [← ht]
 refine Za (Zz (ZJ rfl (l0 := tf 0 17) (by kernel_rfl) (Tq rfl (Tq rfl (Tv rfl (fun _ _ => Zo underlying118 rfl sizeOf22 rfl rfl) ?_)))))
 replace hp := hp.Zc hU1
 refine Tl rfl isAgg22 rfl hp rfl (Tq rfl (Tq rfl (Tv rfl (fun _ _ => Zo underlying118 rfl sizeOf3 rfl rfl) (Tl rfl isAgg3 rfl hp rfl (Tq rfl (Tq rfl (Tv rfl (fun _ _ => Zo underlying118 rfl sizeOf3 rfl rfl) (Tl rfl isAgg3 rfl hp rfl (Tq rfl (Tv rfl (fun _ _ => Yf rfl rfl ZY) (Tv rfl (fun _ _ => YY (l' := p) (h' := p + t) (n' := t) underlying22 sizeOf5 rfl rfl rfl (by omega) (by omega) (by omega) (by omega) (by omega)) ?_)))))))))))
 intro w2 hU2
 have:=hU2.size
 refine Wo 15 (tf 16 17) rfl ?_
 have hW : Upd No w1 w2 := hU2
 refine Zj (Zv rfl call41 rfl) (clone_spec _ (((hs.Zc hU1).Zc hU2).cutn (l := p) (n := t) (by omega)).any one_ints (by omega)) ?_
 rintro v w3 ⟨a_hO, c_hO, rfl, hO, hU3⟩
 have:=hU3.size
 try replace hW := hW.Zb hU3
 refine Za ?_
 intro w4 hS4
 refine bT (Upd No w4) ?_
 have hU4 := hS4.upd
 have:=hU4.size
 try replace hW := hW.Zb hU4
 refine ZQ (Upd.refl _ _) (Tq rfl ?_)
 intro w5 hU5
 have:=hU5.size
 try replace hW := hW.Zb hU5
 refine Wd (Zn (Zg (v := .slice a_hO t c_hO) rfl (Z9 results74 rfl) ?_))
 exact ⟨_, rfl, _, _, rfl, (((hO.tight).Zc hU4).Zc hU5).weak (R' := Ge w.heap.size) (by intro g hg; have h3 : ((w2.heap.size ≤ g) ∧ g < w3.heap.size) := hg; show _ ≤ _; omega), (((((HU.Zb hU1).Zb hU2).Zb hU3).Zb hU4).Zb hU5)⟩
theorem byte_clo {Bc : Nat} {pb : Nat} {a : Option Addr} {n c p : Nat} {bs : List Int} (w : World) (hc : Blk w Bc [.pointer (some ⟨pb, 0, none⟩)]) (hBc : Bc ≠ pb) (hp : Blk w pb [.slice a n c, .int .i64 p]) (hs : Sl w (fun g => g < w.heap.size ∧ g ≠ pb) 1 (.slice a n c) n (ints .u8 bs)) (hb : Byt bs) (hpn : p ≤ n) (hn : n ≤ 140737488355328) :
  Calls Tryz.prog 97 #[.pointer (some ⟨Bc, 0, none⟩)] w (Ret fun v w' => ∃ x er, v = .tuple #[x, .int .i64 er] ∧ x.cells = #[x] ∧ x.oneCell' = true ∧ ∃ at1, Blk w' pb [.slice a n c, .int .i64 at1] ∧ Upd (Is pb) w w' ∧ x = .int .u8 (YJ bs p).1 ∧ er = (YJ bs p).2.2 ∧ at1 = (((YJ bs p).2.1 : Nat) : Int)) := by
 have HU : Upd (fun b => b = pb) w w := Upd.refl _ _
 have hl := ZC hs
 have hcap := hs.cap.1
 have hpl := hp.lt
 refine Zq func97 rfl ntmps97 (by simp) (Sn (Qs 2 rfl (Za (Sm (Zk isAgg77 rfl hc rfl (Zj (Zv rfl call22 rfl) (left_spec _ hp (by omega) (by omega) (by omega)) ?_))))))
 rintro v w1 ⟨rfl, hU1⟩
 have:=hU1.size
 refine Qs 1 rfl (Za ?_)
 replace hp := hp.Zc hU1
 replace HU := HU.Zb hU1
 by_cases q1 : ((n : Int) - (p : Int)) = 0
 ·rw [decide_eq_true q1]
  refine Ct (Sn (Qs 2 rfl (Za (Zn (Zg (v := .tuple #[.int .u8 0, .int .i64 3]) rfl (Z2 results97 rfl rfl) ?_)))))
  rw [YJ, if_neg (by omega)]
  exact ⟨_, rfl, _, _, rfl, rfl, rfl, _, hp, HU, by first | rfl | exact Zt (by dsimp only; omega), by first | rfl | (dsimp only; omega), by first | rfl | (dsimp only; omega)⟩
 obtain ⟨ib, io, ha, hib, hcell⟩ := (hs.Zc hU1).iat (i := p) (by omega)
 replace hib : ib < w.heap.size ∧ ib ≠ pb := hib
 rw [decide_eq_false q1]
 refine Cf (Zi (Sn ?_))
 replace hc := hc.Zc hU1
 refine Zk isAgg77 rfl hc rfl (Zf (Yj rfl) (Zf (Zo underlying118 rfl sizeOf3 rfl rfl) (Zk isAgg3 rfl hp rfl (Xd rfl rfl (Zf (Yj rfl) (Zf (Zo underlying118 rfl sizeOf3 rfl rfl) (Xc [.slice a n c, .int .i64 ((p : Int) + 1)] sizeOf3 rfl hp rfl rfl rfl rfl rfl ?_)))))))
 intro w2 hU2 hzz2 hp
 replace hcell := cell_upd1 hU2 hcell (by show ib ≠ pb; omega)
 refine Za (Zz (ZJ rfl (l0 := tf 0 13) (by kernel_rfl) ?_))
 replace hc := hc.Zh hU2
 refine Tl rfl isAgg77 rfl hc rfl (Tq rfl (Tv rfl (fun _ _ => Zo underlying118 rfl sizeOf22 rfl rfl) (Tl rfl isAgg22 rfl hp rfl (Tl rfl isAgg77 rfl hc rfl (Tq rfl (Tv rfl (fun _ _ => Zo underlying118 rfl sizeOf3 rfl rfl) (Tl rfl isAgg3 rfl hp rfl (Tv rfl (fun _ _ => Y7 rfl rfl ZY) (Tv rfl (fun _ _ => Yl (b := ib) (off := io) (m := n) (c := c) (o' := io + p) underlying22 sizeOf5 (by rw [← ha]; rfl) rfl (by omega) (by omega) (by omega)) (Tv rfl (v := .int .u8 (bs.getD p 0)) (fun w' hw' => Yd isAgg5 rfl (hw'.Y8 hcell)) (Tq rfl (Tq rfl ?_))))))))))))
 intro w3 hU3
 have:=hU3.size
 replace hcell := ZG hU3 hcell
 refine Wd (Zn (Zg (v := .tuple #[.int .u8 (bs.getD p 0), .int .i64 0]) rfl (Z2 results97 rfl rfl) ?_))
 rw [YJ, if_pos (by omega)]
 exact ⟨_, rfl, _, _, rfl, rfl, rfl, _, (hp.Zc hU3), ((HU.Zr hU2).Zb hU3), by first | rfl | exact Zt (by dsimp only; omega), by first | rfl | (dsimp only; omega), by first | rfl | (dsimp only; omega)⟩
theorem byte_spec {pb : Nat} {a : Option Addr} {n c p : Nat} {bs : List Int} (w : World) (hp : Blk w pb [.slice a n c, .int .i64 p]) (hs : Sl w (fun g => g < w.heap.size ∧ g ≠ pb) 1 (.slice a n c) n (ints .u8 bs)) (hb : Byt bs) (hpn : p ≤ n) (hn : n ≤ 140737488355328) :
  Calls Tryz.prog 77 #[.pointer (some ⟨pb, 0, none⟩)] w (Ret fun v w' => v = .tuple #[.int .u8 (YJ bs p).1, .int .i64 (YJ bs p).2.2] ∧ Blk w' pb [.slice a n c, .int .i64 (((YJ bs p).2.1 : Nat) : Int)] ∧ Upd (Is pb) w w') := by
 have HU : Upd (fun b => b = pb) w w := Upd.refl _ _
 have hl := ZC hs
 have hcap := hs.cap.1
 have hpl := hp.lt
 refine Zq func77 rfl ntmps77 (by simp) (Sn (Wl_box (v := .pointer (some ⟨pb, 0, none⟩)) (cs := [.pointer (some ⟨pb, 0, none⟩)]) rfl rfl ?_))
 intro B1 w1 hB1 hU1 hzz1 hb1
 refine Qs 2 rfl (Za (Sn (Zk isAgg77 rfl hb1 rfl (Zf (r_mkf1 (v0 := .pointer (some ⟨B1, 0, none⟩)) rfl) ?_))))
 replace hp := hp.Zc hU1
 refine Zj (Zy rfl call96 rfl rfl) (readBy_spec (Φ := fun x er at1 _ _ => x = .int .u8 (YJ bs p).1 ∧ er = (YJ bs p).2.2 ∧ at1 = (((YJ bs p).2.1 : Nat) : Int)) _ hp call97 (fun w1 hN => (byte_clo w1 (hb1.Zc hN) (by omega) (hp.Zc hN) (((hs.Zc hU1).Zc hN).cur (show ¬ ((pb < w.heap.size ∧ pb ≠ pb)) by omega)) hb hpn hn))) ?_
 rintro v w2 ⟨x, er, at1, wa, wb, rfl, hpn2, hN, ⟨rfl, rfl, rfl⟩, _, hU2⟩
 have:=hU2.size
 refine Zf (r_ext (v := if (YJ bs p).2.2 = 0 then .int .u8 (YJ bs p).1 else .int .u8 0) rfl rfl) (Qs 1 rfl (Was (if (YJ bs p).2.2 = 0 then .int .u8 (YJ bs p).1 else .int .u8 0) (Qs 1 rfl (Za (Zn (Zg (v := .tuple #[if (YJ bs p).2.2 = 0 then .int .u8 (YJ bs p).1 else .int .u8 0, .int .i64 ((YJ bs p).2.2)]) rfl (Z2 results77 rfl rfl) ?_))))))
 have he : (YJ bs p).2.2 ≠ 0 → (YJ bs p).1 = 0 ∧ (YJ bs p).2.1 = p := gbyte_err
 refine ⟨_, rfl, ?_, ?_, ((HU.Zb hU1).Zr hU2)⟩
 ·by_cases h : (YJ bs p).2.2 = 0
  ·rw [if_pos h]
  rw [if_neg h, (he h).1]
 by_cases h : (YJ bs p).2.2 = 0
 ·simpa [h] using hpn2
 rw [(he h).2]; simpa [h] using hpn2
theorem bytes_clo {Bk : Nat} {k : Int} {Bc : Nat} {pb : Nat} {a : Option Addr} {n c p : Nat} {bs : List Int} (w : World) (hk : Blk w Bk [.int .i64 k]) (hBk : Bk ≠ pb) (hc : Blk w Bc [.pointer (some ⟨pb, 0, none⟩)]) (hBc : Bc ≠ pb) (hp : Blk w pb [.slice a n c, .int .i64 p]) (hs : Sl w (fun g => g < w.heap.size ∧ g ≠ pb) 1 (.slice a n c) n (ints .u8 bs)) (hb : Byt bs) (hpn : p ≤ n) (hn : n ≤ 140737488355328) :
  Calls Tryz.prog 95 #[.pointer (some ⟨Bk, 0, none⟩), .pointer (some ⟨Bc, 0, none⟩)] w (Ret fun v w' => ∃ x er, v = .tuple #[x, .int .i64 er] ∧ x.cells = #[x] ∧ x.oneCell' = true ∧ ∃ at1, Blk w' pb [.slice a n c, .int .i64 at1] ∧ Upd (Is pb) w w' ∧ ∃ a' m' c', x = .slice a' m' c' ∧ Own w' (Ge w.heap.size) 5 1 (.slice a' m' c') m' (ints .u8 (ZW bs p k).1) ∧ (ZW bs p k).1.length = m' ∧ er = (ZW bs p k).2.2 ∧ at1 = (((ZW bs p k).2.1 : Nat) : Int)) := by
 have HU : Upd (fun b => b = pb) w w := Upd.refl _ _
 have hl := ZC hs
 have hcap := hs.cap.1
 have hpl := hp.lt
 refine Zq func95 rfl ntmps95 (by simp) (Sn (Qs 2 rfl (Za (Zz (Zs (Sn (Zk isAgg3 rfl hk rfl (Qs 2 rfl (Za (W_if rfl (fun q1 => ?_) fun q1 => ?_))))))))))
 ·refine Sn (Qs 2 rfl (Za (Zn (Zg (v := .tuple #[.slice none 0 0, .int .i64 2]) rfl (Z2 results95 rfl rfl) ?_))))
  rw [gbytes_neg (by omega)]
  exact ⟨_, rfl, _, _, rfl, rfl, rfl, _, hp, HU, none, 0, 0, rfl, Own.nil _ _ _ _, rfl, rfl, rfl⟩
 refine Zz (ZJ rfl (l0 := tf 0 5) (by kernel_rfl) (Tl rfl isAgg3 rfl hk rfl (Tl rfl isAgg77 rfl hc rfl ?_)))
 intro w1 hU1
 have:=hU1.size
 refine Wo 2 (tf 3 5) rfl ?_
 have hW : Upd No w w1 := hU1
 replace hp := hp.Zc hU1
 refine Zj (Zv rfl call22 rfl) (left_spec _ hp (by omega) (by omega) (by omega)) ?_
 rintro v w2 ⟨rfl, hU2⟩
 have:=hU2.size
 try replace hW := hW.Zb hU2
 refine Za ?_
 intro w3 hS3
 have hX : Upd No w w3 := hW.Zb hS3.upd
 refine bF hX ?_
 have hU3 := hS3.upd
 have:=hU3.size
 try replace hW := hW.Zb hU3
 refine ZQ hX (Tq rfl (Tq rfl ?_))
 intro w4 hU4
 have:=hU4.size
 try replace hW := hW.Zb hU4
 refine Wd ?_
 replace HU := (((HU.Zb hU1).Zb hU2).Zb hU3).Zb hU4
 replace hp := ((hp.Zc hU2).Zc hU3).Zc hU4
 refine W_if rfl (fun q2 => ?_) fun q2 => ?_
 ·refine Sn (Qs 2 rfl (Za (Zn (Zg (v := .tuple #[.slice none 0 0, .int .i64 3]) rfl (Z2 results95 rfl rfl) ?_))))
  rw [YP (by omega) (by omega)]
  exact ⟨_, rfl, _, _, rfl, rfl, rfl, _, hp, HU, none, 0, 0, rfl, Own.nil _ _ _ _, rfl, rfl, rfl⟩
 refine Zi (Zz (ZJ rfl (l0 := tf 0 9) (by kernel_rfl) ?_))
 replace hc := (((hc.Zc hU1).Zc hU2).Zc hU3).Zc hU4
 refine Tl rfl isAgg77 rfl hc rfl (Tq rfl (Tv rfl (fun _ _ => Zo underlying118 rfl sizeOf3 rfl rfl) (Tl rfl isAgg3 rfl hp rfl ?_)))
 replace hk := (((hk.Zc hU1).Zc hU2).Zc hU3).Zc hU4
 refine Tl rfl isAgg3 rfl hk rfl (Tv rfl (fun _ _ => Yf rfl rfl ZY) (Tq rfl (Tv rfl (fun _ _ => Zo underlying118 rfl sizeOf3 rfl rfl) ?_)))
 intro w5 hU5
 have:=hU5.size
 try replace hW := hW.Zb hU5
 refine Wo 8 (tf 9 9) rfl ?_
 have hW : Upd No w4 w5 := hU5
 replace hp := hp.Zc hU5
 refine Xc [.slice a n c, .int .i64 ((p : Int) + k)] sizeOf3 rfl hp rfl rfl rfl rfl rfl ?_
 intro w6 hU6 hzz6 hp
 refine Za ?_
 intro w7 hS7
 refine bT (Upd No w7) ?_
 have hU7 := hS7.upd
 have:=hU7.size
 try replace hW := hW.Zb hU7
 refine Wd (Zz (ZJ rfl (l0 := tf 0 18) (by kernel_rfl) ?_))
 replace hc := ((hc.Zc hU5).Zh hU6).Zc hU7
 refine Tl rfl isAgg77 rfl hc rfl (Tq rfl (Tv rfl (fun _ _ => Zo underlying118 rfl sizeOf22 rfl rfl) ?_))
 replace hp := hp.Zc hU7
 refine Tl rfl isAgg22 rfl hp rfl (Tl rfl isAgg77 rfl hc rfl (Tq rfl (Tv rfl (fun _ _ => Zo underlying118 rfl sizeOf3 rfl rfl) (Tl rfl isAgg3 rfl hp rfl (Tl rfl isAgg3 rfl (((hk.Zc hU5).Zh hU6).Zc hU7) rfl (Tv rfl (fun _ _ => Y7 rfl rfl ZY) (Tl rfl isAgg77 rfl hc rfl (Tq rfl (Tv rfl (fun _ _ => Zo underlying118 rfl sizeOf3 rfl rfl) (Tl rfl isAgg3 rfl hp rfl (Tv rfl (fun _ _ => YY (l' := p) (h' := p + k.toNat) (n' := k.toNat) underlying22 sizeOf5 rfl rfl rfl (by omega) (by omega) (by omega) (by omega) (by omega)) ?_)))))))))))
 intro w8 hU8
 have:=hU8.size
 try replace hW := hW.Zb hU8
 refine Wo 15 (tf 16 18) rfl ?_
 have hW : Upd No w7 w8 := hU8
 refine Zj (Zv rfl call41 rfl) (clone_spec _ (((((((((hs.Zc hU1).Zc hU2).Zc hU3).Zc hU4).Zc hU5).Zh hU6).Zc hU7).Zc hU8).cutn (l := p) (n := k.toNat) (by omega)).any one_ints (by omega)) ?_
 rintro v w9 ⟨a_hO, c_hO, rfl, hO, hU9⟩
 have:=hU9.size
 try replace hW := hW.Zb hU9
 refine Za ?_
 intro w10 hS10
 refine bT (Upd No w10) ?_
 have hU10 := hS10.upd
 have:=hU10.size
 try replace hW := hW.Zb hU10
 refine ZQ (Upd.refl _ _) (Tq rfl (Tq rfl ?_))
 intro w11 hU11
 have:=hU11.size
 try replace hW := hW.Zb hU11
 refine Wd (Zn (Zg (v := .tuple #[.slice a_hO k.toNat c_hO, .int .i64 0]) rfl (Z2 results95 rfl rfl) ?_))
 rw [YR (by omega) (by omega)]
 exact ⟨_, rfl, _, _, rfl, rfl, rfl, _, ((((hp.Zc hU8).Zc hU9).Zc hU10).Zc hU11), (((((((HU.Zb hU5).Zr hU6).Zb hU7).Zb hU8).Zb hU9).Zb hU10).Zb hU11), _, _, _, rfl, (((hO.tight).Zc hU10).Zc hU11).weak (R' := Ge w.heap.size) (by intro g hg; have h3 : ((w8.heap.size ≤ g) ∧ g < w9.heap.size) := hg; show _ ≤ _; omega), by dsimp only; rw [List.length_take, List.length_drop]; omega, rfl, by dsimp only; omega⟩
theorem bytes_spec {pb : Nat} {a : Option Addr} {n c p : Nat} {bs : List Int} {k : Int} (w : World) (hp : Blk w pb [.slice a n c, .int .i64 p]) (hs : Sl w (fun g => g < w.heap.size ∧ g ≠ pb) 1 (.slice a n c) n (ints .u8 bs)) (hb : Byt bs) (hpn : p ≤ n) (hn : n ≤ 140737488355328) :
  Calls Tryz.prog 75 #[.pointer (some ⟨pb, 0, none⟩), .int .i64 k] w (Ret fun v w' => ∃ a' m' c', v = .tuple #[.slice a' m' c', .int .i64 (ZW bs p k).2.2] ∧ Blk w' pb [.slice a n c, .int .i64 (((ZW bs p k).2.1 : Nat) : Int)] ∧ Own w' (Ge w.heap.size) 5 1 (.slice a' m' c') m' (ints .u8 (ZW bs p k).1) ∧ (ZW bs p k).1.length = m' ∧ Upd (Is pb) w w') := by
 have HU : Upd (fun b => b = pb) w w := Upd.refl _ _
 have hl := ZC hs
 have hcap := hs.cap.1
 have hpl := hp.lt
 refine Zq func75 rfl ntmps75 (by simp) (Sn (Wl_box (v := .pointer (some ⟨pb, 0, none⟩)) (cs := [.pointer (some ⟨pb, 0, none⟩)]) rfl rfl ?_))
 intro B1 w1 hB1 hU1 hzz1 hb1
 refine Wl_box (v := .int .i64 k) (cs := [.int .i64 k]) rfl rfl ?_
 intro B2 w2 hB2 hU2 hzz2 hb2
 refine Qs 2 rfl (Za (Sn ?_))
 replace hb1 := hb1.Zc hU2
 refine Zk isAgg77 rfl hb1 rfl (Zf (r_mkf2 (v0 := .pointer (some ⟨B2, 0, none⟩)) (v1 := .pointer (some ⟨B1, 0, none⟩)) rfl rfl) ?_)
 replace hp := (hp.Zc hU1).Zc hU2
 refine Zj (Zy rfl call94 rfl rfl) (readBs_spec (Φ := fun x er at1 w1 w2 => ∃ a' m' c', x = .slice a' m' c' ∧ Own w2 (Ge w1.heap.size) 5 1 (.slice a' m' c') m' (ints .u8 (ZW bs p k).1) ∧ (ZW bs p k).1.length = m' ∧ er = (ZW bs p k).2.2 ∧ at1 = (((ZW bs p k).2.1 : Nat) : Int)) _ hp call95 (fun w1 hN => bytes_clo w1 (hb2.Zc hN) (by omega) (hb1.Zc hN) (by omega) (hp.Zc hN) ((((hs.Zc hU1).Zc hU2).Zc hN).cur (show ¬ ((pb < w.heap.size ∧ pb ≠ pb)) by omega)) hb hpn hn)) ?_
 rintro v w3 ⟨x, er, at1, wa, wb, rfl, hpn2, hN, ⟨a', m', c', rfl, hO, hlen, rfl, rfl⟩, hX, hU3⟩
 have hNs := hN.size
 have:=hU3.size
 refine Zf (r_ext (v := if (ZW bs p k).2.2 = 0 then .slice a' m' c' else .slice none 0 0) rfl rfl) (Qs 1 rfl (Was (if (ZW bs p k).2.2 = 0 then .slice a' m' c' else .slice none 0 0) (Qs 1 rfl (Za (Zn (Zg (v := .tuple #[if (ZW bs p k).2.2 = 0 then .slice a' m' c' else .slice none 0 0, .int .i64 ((ZW bs p k).2.2)]) rfl (Z2 results75 rfl rfl) ?_))))))
 replace HU := ((HU.Zb hU1).Zb hU2).Zr hU3
 by_cases h : (ZW bs p k).2.2 = 0
 ·refine ⟨_, rfl, a', m', c', by rw [if_pos h], by simpa [h] using hpn2, (hO.upd hX).weak (R' := Ge w.heap.size) (by intro g hg; have h3 : wa.heap.size ≤ g := hg; show _ ≤ _; omega), hlen, HU⟩
 have he := gbytes_err h
 rw [he.1] at hlen
 refine ⟨_, rfl, none, 0, 0, by rw [if_neg h], by rw [he.2]; simpa [h] using hpn2, ?_, ?_, HU⟩
 ·rw [he.1]; exact Own.nil _ _ _ _
 rw [he.1]; rfl
theorem backward1_spec {l B m c : Nat} {a : Option Addr} {xs : List Int} {J : Nat → World → Prop} {Jx : World → Prop} {Sb R : Nat → Prop} (w : World) (hB : Blk w B [.slice a m c]) (hs : Sl w R 1 (.slice a m c) m (ints .u8 xs)) (hm : m ≤ 140737488355328) (hSB : ¬ Sb B) (hSR : ∀ g, R g → ¬ Sb g) (hJ0 : J 0 w) (hy : ∀ j w, j < m → J j w → YieldC Tryz.prog l #[.int .i64 ((m : Int) - 1 - (j : Int)), .int .u8 (xs.getD (m - 1 - j) 0)] w (fun e w' => (e = .returned (.bool true) ∧ (Upd Sb w w' ∧ J (j + 1) w')) ∨ (e = .returned (.bool false) ∧ Jx w'))) :
  Calls Tryz.prog 101 #[.func (.yield l) #[] #[], .pointer (some ⟨B, 0, none⟩)] w (Ret fun v w' => J m w' ∨ Jx w') := by
 have HU := Upd.Yo w
 refine Zq func101 rfl ntmps101 (by simp) (Sn (Zk isAgg22 rfl hB rfl (Zf (ZM underlying22 rfl) (Xs rfl rfl (Qs 1 rfl (Za (Zs (ZS (fun mu ρ ds w' => ∃ (j : Nat), m - j = mu ∧ ds = [] ∧ Liv ρ [(0, .func (.yield l) #[] #[]), (1, .pointer (some ⟨B, 0, none⟩)), (3, .int .i64 ((m : Int) - 1 - (j : Int)))] ∧ j ≤ m ∧ Blk w' B [.slice a m c] ∧ Sl w' R 1 (.slice a m c) m (ints .u8 xs) ∧ J j w') _ ⟨0, rfl, rfl, ⟨rfl, rfl, Zt, trivial⟩, (by omega), hB, hs, hJ0⟩ ?_))))))))
 rintro m1 ρ1 ds1 w1 ⟨j, rfl, rfl, hl1, hj, hB, hs, hJ0⟩
 obtain ⟨ρ1x, rfl⟩ : ∃ ρx, ρ1 = upds ρx [(0, .func (.yield l) #[] #[]), (1, .pointer (some ⟨B, 0, none⟩)), (3, .int .i64 ((m : Int) - 1 - (j : Int)))] := ⟨_, ZD hl1⟩
 clear hl1
 refine Sm (Qs 2 rfl (Za (W_if rfl (fun q1 => ?_) fun q1 => ?_)))
 ·refine Zi (Zz (Zs (Sn (Qs 2 rfl (Zk isAgg22 rfl hB rfl (Qs 1 rfl (Z7 underlying22 sizeOf5 rfl rfl hs (by omega) (by omega) ?_)))))))
  intro ib2 io2 hc2
  rw [show ((m : Int) - 1 - (j : Int)).toNat = m - 1 - j from by omega] at hc2
  refine ZH isAgg5 rfl hc2 ?_
  refine Wl_yield2 rfl rfl rfl (hy j _ (by omega) hJ0) ?_ ?_
  ·rintro w3 ⟨hU3, hJn⟩
   replace hJ0 := hJn
   refine Zf (YX (b := true) rfl) (Za (Cf (Zi (Zl (Qs 1 rfl (Xs rfl rfl (Qs 1 rfl (Za ?_))))))))
   refine ⟨_, ?_, (j + 1), rfl, rfl, ⟨rfl, rfl, Zt, trivial⟩, (by omega), (hB.upd hU3 hSB), (hs.upd hU3 hSR), hJ0⟩
   omega
  rintro w4 hJx
  exact Zf (YX (b := false) rfl) (Za (Ct (Zn (Zg rfl (res0 results101) ⟨_, rfl, Or.inr hJx⟩))))
 refine ZI (nrm_end (v := .tuple #[]) rfl (res0 results101) ?_)
 obtain hjm : j = m := by omega
 exact ⟨_, rfl, Or.inl (by rw [← hjm]; exact hJ0)⟩
theorem backward_spec {a : Option Addr} {m c : Nat} (w : World)  :
  Calls Tryz.prog 86 #[.slice a m c] w (Ret fun v w' => ∃ B, v = .func (.func 101) #[] #[.pointer (some ⟨B, 0, none⟩)] ∧ Blk w' B [.slice a m c] ∧ w.heap.size ≤ B ∧ Upd No w w') := by
 have HU := Upd.Yo w
 refine Zq func86 rfl ntmps86 (by simp) (Sn (Wl_box (v := .slice a m c) (cs := [.slice a m c]) rfl rfl ?_))
 intro B1 w1 hB1 hU1 hzz1 hb1
 refine Was (.nilFunc) (Za (Sn (Zf (r_mkf1 (v0 := .pointer (some ⟨B1, 0, none⟩)) rfl) (Qs 1 rfl (Za (Zn (Zg (v := .func (.func 101) #[] #[.pointer (some ⟨B1, 0, none⟩)]) rfl (Z9 results86 rfl) ?_)))))))
 exact ⟨_, rfl, B1, rfl, hb1, by omega, (HU.Zb hU1)⟩
theorem cword_clo {Bc : Nat} {pb : Nat} {a : Option Addr} {n c p : Nat} {bs : List Int} (w : World) (hc : Blk w Bc [.pointer (some ⟨pb, 0, none⟩)]) (hBc : Bc ≠ pb) (hp : Blk w pb [.slice a n c, .int .i64 p]) (hs : Sl w (fun g => g < w.heap.size ∧ g ≠ pb) 1 (.slice a n c) n (ints .u8 bs)) (hb : Byt bs) (hpn : p ≤ n) (hn : n ≤ 140737488355328) :
  Calls Tryz.prog 85 #[.pointer (some ⟨Bc, 0, none⟩)] w (Ret fun v w' => ∃ x er, v = .tuple #[x, .int .i64 er] ∧ x.cells = #[x] ∧ x.oneCell' = true ∧ ∃ at1, Blk w' pb [.slice a n c, .int .i64 at1] ∧ Upd (Is pb) w w' ∧ x = .int .u32 (ZE bs p).1 ∧ er = (ZE bs p).2.2 ∧ at1 = (((ZE bs p).2.1 : Nat) : Int)) := by
 have HU : Upd (fun b => b = pb) w w := Upd.refl _ _
 have hl := ZC hs
 have hcap := hs.cap.1
 have hpl := hp.lt
 have hcl := hc.lt
 refine Zq func85 rfl ntmps85 (by simp) (Sn (Qs 2 rfl (Za (Sn (Zk isAgg77 rfl hc rfl (Zj (Zy rfl call75 rfl rfl) (bytes_spec _ hp (hs.cur (by intro h1; have h3 : (pb < w.heap.size ∧ pb ≠ pb) := h1; first | omega | simp at h3)) hb (by omega) (by omega)) ?_))))))
 rintro v w1 ⟨a1, m1, c1, rfl, hp1, hO1, hm_1, hU1⟩
 have:=hU1.size
 have hbl_hp1 := hp1.lt
 replace hO1 := hO1.tight
 have hl_hO1 := ZC hO1.sl
 have hc_hO1 := hO1.sl.cap.1
 have hlen := gbytes_len (bs := bs) (p := p) (k := 4)
 have h4 : (4 : Int).toNat = 4 := rfl
 refine Qs 5 rfl (Za (Sn (ZB zeroValue32 rfl ?_)))
 intro B2 w2 hB2 hU2 hzz2 hb2
 refine Xc [.int .u32 0] sizeOf32 rfl hb2 rfl rfl rfl rfl rfl ?_
 intro w3 hU3 hzz3 hb2
 refine Za (Sm (Qs 1 rfl (Zj (Zv rfl call86 rfl) (backward_spec _ ) ?_)))
 rintro v w4 ⟨B4, rfl, hB4, hBg_4, hU4⟩
 have:=hU4.size
 have hbl_hB4 := hB4.lt
 refine Za (Zs (W_range (gf := 101) (ar := fun y => #[y, .pointer (some ⟨B4, 0, none⟩)]) rfl call101 (fun y => by simp) ?_))
 intro D5 fn5 w5 hD5 hU5 hzz5 hdf5 hrc50
 have:=hU5.size
 obtain ⟨r5, hr5, hrc5⟩ : ∃ r, r = _ ∧ Rec w5 (D5 + 1) r := ⟨_, rfl, hrc50⟩
 replace HU := ((((HU.Zr hU1).Zb hU2).Zr hU3).Zb hU4).Zb hU5
 replace hp1 := (((hp1.Zc hU2).Zh hU3).Zc hU4).Zc hU5
 replace hO1 := (((hO1.Zc hU2).Zh hU3).Zc hU4).Zc hU5
 replace hb2 := (hb2.Zc hU4).Zc hU5
 replace hB4 := hB4.Zc hU5
 clear hrc50
 obtain ⟨J5, hJ5⟩ : ∃ J : Nat → World → Prop, ∀ i w', J i w' ↔ (Rec w' (D5 + 1) r5 ∧ Dfr w' D5 ∧ Blk w' B2 [.int .u32 (wval ((ZW bs p 4).1.drop (m1 - i)))] ∧ Blk w' pb [.slice a n c, .int .i64 (((ZW bs p 4).2.1 : Nat) : Int)] ∧ Upd (Is pb) w w') := ⟨_, fun _ _ => Iff.rfl⟩
 obtain ⟨Jx5, hJx5⟩ : ∃ Jx : World → Prop, ∀ w', Jx w' ↔ (False) := ⟨_, fun _ => Iff.rfl⟩
 refine (backward1_spec (l := (D5 + 1)) (J := J5) (Jx := Jx5) (Sb := (fun g => g = B2 ∨ g = D5 + 1)) (R := fun g => ((w.heap.size ≤ g) ∧ g < w1.heap.size)) w5 hB4 hO1.sl (by omega) (by show ¬ (_ ∨ _); omega) (by intro g h1 h2; have h3 : ((w.heap.size ≤ g) ∧ g < w1.heap.size) := h1; have h4 : g = B2 ∨ g = D5 + 1 := h2; omega) ?_ ?_).mono ?_
 ·exact (hJ5 _ _).2 ⟨hrc5, hdf5, (by rw [List.drop_eq_nil_of_le (by omega)]; exact hb2), hp1, HU⟩
 ·intro i6 w6 hi6 hh
  obtain ⟨hrc5, hdf5, hb2, hp1, HU⟩ := (hJ5 _ _).1 hh
  have hrl5 := hrc5.lt
  have hw_ := wval_back (gbytes_byt (p := p) (k := 4) hb) (m := m1) (j := i6) hm_1 (by omega) hi6
  have HB5 : Upd (fun g => g = B2 ∨ g = D5 + 1) w6 w6 := Upd.refl _ _
  refine yieldC_of_W (R := fun b c w' => (b = true ∧ Upd (fun g => g = B2 ∨ g = D5 + 1) w6 w' ∧ J5 (i6 + 1) w') ∨ (b = false ∧ Jx5 w')) hrc5 (by rw [hr5]; rfl) (by rw [hr5]; exact zip2 _ _ _ _ _ _) ?_ ?_
  ·rw [hr5]
   refine Zl (Qs 1 rfl (Za ?_))
   refine ⟨rfl, _, hrc5, (by rw [hr5]), ?_⟩
   intro w7 hU7 hzz7 hrc5b
   replace hdf5 := hdf5.Zh hU7
   replace hb2 := hb2.Zh hU7
   replace hp1 := hp1.Zh hU7
   replace HU := HU.Zr hU7
   replace HB5 := HB5.Zr hU7
   clear hrc5
   have hrc5 := hrc5b
   clear hrc5b
   refine Zs (Zl (Zk isAgg32 rfl hb2 rfl (Zf (r_shl rfl rfl (by decide) (shl8 (by omega) (by omega))) (Qs 1 rfl (Zf (ZZ underlying5 underlying32 rfl (wu32 (by omega) (by omega))) (Zf (r_or rfl rfl (or8 (by omega) (by omega) (by omega) (by omega))) (Xc [.int .u32 (256 * (wval ((ZW bs p 4).1.drop (m1 - i6))) + (ZW bs p 4).1.getD (m1 - 1 - i6) 0)] sizeOf32 rfl hb2 rfl rfl rfl rfl rfl ?_)))))))
   intro w8 hU8 hzz8 hb2
   refine Za ?_
   refine ⟨rfl, _, (hrc5.Zh hU8), ?_⟩
   intro w9 hU9 hzz9 hrz
   replace hdf5 := (hdf5.Zh hU8).Zh hU9
   replace hp1 := (hp1.Zh hU8).Zh hU9
   replace HU := (HU.Zr hU8).Zr hU9
   replace HB5 := (HB5.Zr hU8).Zr hU9
   replace hb2 := hb2.Zh hU9
   exact Or.inl ⟨rfl, HB5, (hJ5 _ _).2 ⟨(by rw [hr5]; rw [hr5] at hrz; exact hrz), hdf5, (by rw [hw_.1]; exact hb2), hp1, HU⟩⟩
  rintro b c w9 (⟨rfl, h1, h2⟩ | ⟨rfl, h1⟩)
  ·exact Or.inl ⟨rfl, h1, h2⟩
  exact Or.inr ⟨rfl, h1⟩
 rintro e w10 ⟨v, rfl, hh | hh⟩
 ·obtain ⟨hrc5, hdf5, hb2, hp1, HU⟩ := (hJ5 _ _).1 hh
  have hrl5 := hrc5.lt
  refine ⟨r5, hrc5, (by rw [hr5]; simp), ?_⟩
  intro w11 hU11 hzz11
  have:=hU11.size
  rw [hr5]
  skip
  refine Sn (Zk isAgg32 rfl (hb2.Zh hU11) rfl (Qs 3 rfl (Za (Zn (ret_ds rfl (lv_mark (by simp) (hdf5.Zh hU11) ?_))))))
  intro w12 hU12 hzz12
  have:=hU12.size
  refine lv_nil (v := .tuple #[.int .u32 (wval ((ZW bs p 4).1.drop (m1 - m1))), .int .i64 ((ZW bs p 4).2.2)]) (Z2 results85 rfl rfl) ?_
  rw [gword_of (by omega)]
  rw [Nat.sub_self, List.drop_zero]
  exact ⟨_, rfl, _, _, rfl, rfl, rfl, _, ((hp1.Zh hU11).Zh hU12), ((HU.Zr hU11).Zr hU12), rfl, rfl, rfl⟩
 exact ((hJx5 _).1 hh).elim
theorem cword_spec {pb : Nat} {a : Option Addr} {n c p : Nat} {bs : List Int} (w : World) (hp : Blk w pb [.slice a n c, .int .i64 p]) (hs : Sl w (fun g => g < w.heap.size ∧ g ≠ pb) 1 (.slice a n c) n (ints .u8 bs)) (hb : Byt bs) (hpn : p ≤ n) (hn : n ≤ 140737488355328) :
  Calls Tryz.prog 51 #[.pointer (some ⟨pb, 0, none⟩)] w (Ret fun v w' => v = .tuple #[.int .u32 (ZE bs p).1, .int .i64 (ZE bs p).2.2] ∧ Blk w' pb [.slice a n c, .int .i64 (((ZE bs p).2.1 : Nat) : Int)] ∧ Upd (Is pb) w w') := by
 have HU : Upd (fun b => b = pb) w w := Upd.refl _ _
 have hl := ZC hs
 have hcap := hs.cap.1
 have hpl := hp.lt
 refine Zq func51 rfl ntmps51 (by simp) (Sn (Wl_box (v := .pointer (some ⟨pb, 0, none⟩)) (cs := [.pointer (some ⟨pb, 0, none⟩)]) rfl rfl ?_))
 intro B1 w1 hB1 hU1 hzz1 hb1
 refine Qs 2 rfl (Za (Sn (Zk isAgg77 rfl hb1 rfl (Zf (r_mkf1 (v0 := .pointer (some ⟨B1, 0, none⟩)) rfl) ?_))))
 replace hp := hp.Zc hU1
 refine Zj (Zy rfl call84 rfl rfl) (readU32_spec (Φ := fun x er at1 _ _ => x = .int .u32 (ZE bs p).1 ∧ er = (ZE bs p).2.2 ∧ at1 = (((ZE bs p).2.1 : Nat) : Int)) _ hp call85 (fun w1 hN => (cword_clo w1 (hb1.Zc hN) (by omega) (hp.Zc hN) (((hs.Zc hU1).Zc hN).cur (show ¬ ((pb < w.heap.size ∧ pb ≠ pb)) by omega)) hb hpn hn))) ?_
 rintro v w2 ⟨x, er, at1, wa, wb, rfl, hpn2, hN, ⟨rfl, rfl, rfl⟩, _, hU2⟩
 have:=hU2.size
 refine Zf (r_ext (v := if (ZE bs p).2.2 = 0 then .int .u32 (ZE bs p).1 else .int .u32 0) rfl rfl) (Qs 1 rfl (Was (if (ZE bs p).2.2 = 0 then .int .u32 (ZE bs p).1 else .int .u32 0) (Qs 1 rfl (Za (Zn (Zg (v := .tuple #[if (ZE bs p).2.2 = 0 then .int .u32 (ZE bs p).1 else .int .u32 0, .int .i64 ((ZE bs p).2.2)]) rfl (Z2 results51 rfl rfl) ?_))))))
 have he : (ZE bs p).2.2 ≠ 0 → (ZE bs p).1 = 0 ∧ (ZE bs p).2.1 = p := gword_err
 refine ⟨_, rfl, ?_, ?_, ((HU.Zb hU1).Zr hU2)⟩
 ·by_cases h : (ZE bs p).2.2 = 0
  ·rw [if_pos h]
  rw [if_neg h, (he h).1]
 by_cases h : (ZE bs p).2.2 = 0
 ·simpa [h] using hpn2
 rw [(he h).2]; simpa [h] using hpn2
theorem byte_in {pb : Nat} {a : Option Addr} {n c p : Nat} {bs : List Int} (w : World) (hp : Blk w pb [.slice a n c, .int .i64 p]) (hs : Sl w (fun g => g < w.heap.size ∧ g ≠ pb) 1 (.slice a n c) n (ints .u8 bs)) (hb : Byt bs) (hpn : p ≤ n) (hn : n ≤ 140737488355328) (hlt : p < n) :
  Calls Tryz.prog 77 #[.pointer (some ⟨pb, 0, none⟩)] w (Ret fun v w' => v = .tuple #[.int .u8 (bs.getD p 0), .int .i64 0] ∧ Blk w' pb [.slice a n c, .int .i64 ((p + 1 : Nat) : Int)] ∧ Upd (Is pb) w w') := by
 have h := byte_spec w hp hs hb hpn hn
 rw [gbyte_in (by rw [ZC hs]; exact hlt)] at h
 exact h
theorem byte_end {pb : Nat} {a : Option Addr} {n c p : Nat} {bs : List Int} (w : World) (hp : Blk w pb [.slice a n c, .int .i64 p]) (hs : Sl w (fun g => g < w.heap.size ∧ g ≠ pb) 1 (.slice a n c) n (ints .u8 bs)) (hb : Byt bs) (hpn : p ≤ n) (hn : n ≤ 140737488355328) (hlt : ¬ p < n) :
  Calls Tryz.prog 77 #[.pointer (some ⟨pb, 0, none⟩)] w (Ret fun v w' => v = .tuple #[.int .u8 0, .int .i64 3] ∧ Blk w' pb [.slice a n c, .int .i64 p] ∧ Upd (Is pb) w w') := by
 have h := byte_spec w hp hs hb hpn hn
 rw [gbyte_end (by rw [ZC hs]; exact hlt)] at h
 exact h
theorem cvarint_clo {Bc : Nat} {pb : Nat} {a : Option Addr} {n c p : Nat} {bs : List Int} (w : World) (hc : Blk w Bc [.pointer (some ⟨pb, 0, none⟩)]) (hBc : Bc ≠ pb) (hp : Blk w pb [.slice a n c, .int .i64 p]) (hs : Sl w (fun g => g < w.heap.size ∧ g ≠ pb) 1 (.slice a n c) n (ints .u8 bs)) (hb : Byt bs) (hpn : p ≤ n) (hn : n ≤ 140737488355328) :
  Calls Tryz.prog 99 #[.pointer (some ⟨Bc, 0, none⟩)] w (Ret fun v w' => ∃ x er, v = .tuple #[x, .int .i64 er] ∧ x.cells = #[x] ∧ x.oneCell' = true ∧ ∃ at1, Blk w' pb [.slice a n c, .int .i64 at1] ∧ Upd (Is pb) w w' ∧ er = (ZN bs p).2.2 ∧ ((ZN bs p).2.2 = 0 → x = .int .u64 (ZN bs p).1 ∧ at1 = (((ZN bs p).2.1 : Nat) : Int))) := by
 have HU : Upd (fun b => b = pb) w w := Upd.refl _ _
 have hl := ZC hs
 have hcap := hs.cap.1
 have hpl := hp.lt
 have hcl := hc.lt
 refine Zq func99 rfl ntmps99 (by simp) (Sn (Qs 2 rfl (Za (Sn (Qs 1 rfl (Za (Sm (Qs 1 rfl (Za (Zs (ZS (fun mu ρ ds w' => ∃ (k : Nat), 9 - k = mu ∧ ds = [] ∧ Liv ρ [(0, .pointer (some ⟨Bc, 0, none⟩)), (3, .int .u64 (val ((bs.drop p).take k))), (7, .int .i64 k)] ∧ k ≤ 9 ∧ p + k ≤ n ∧ (∀ i, i < k → 128 ≤ bs.getD (p + i) 0) ∧ Blk w' pb [.slice a n c, .int .i64 ((p + k : Nat) : Int)] ∧ Upd (Is pb) w w') _ ⟨0, rfl, rfl, ⟨rfl, (Zt (by simp [val])), Zt, trivial⟩, (by omega), (by omega), (fun i hi => absurd hi (by omega)), hp, Upd.refl _ _⟩ ?_)))))))))))
 rintro m1 ρ1 ds1 w1 ⟨k, rfl, rfl, hl1, hk9, hpk, hall, hp, hU1⟩
 obtain ⟨ρ1x, rfl⟩ : ∃ ρx, ρ1 = upds ρx [(0, .pointer (some ⟨Bc, 0, none⟩)), (3, .int .u64 (val ((bs.drop p).take k))), (7, .int .i64 k)] := ⟨_, ZD hl1⟩
 clear hl1
 have:=hU1.size
 have HL1 := hU1
 refine Sn (Qs 1 rfl (Za (Zz ?_)))
 replace HU := HU.Zr hU1
 by_cases q1 : (k : Int) < 9
 ·have hvt := val_take (bs := bs) (p := p) (k := k) (by omega)
  rw [decide_eq_true q1]
  refine Ct (Zi (Zz (Zs (Sn (Qs 2 rfl (Za (Sn (Zk isAgg77 rfl (hc.Zh hU1) rfl ?_))))))))
  replace hs := hs.Zh hU1
  by_cases q2 : p + k < n
  ·have hgb := Yi hb (p + k)
   refine Zj (Zv rfl call77 rfl) (byte_in _ hp (hs.cur (by intro h1; have h3 : (pb < w.heap.size ∧ pb ≠ pb) := h1; first | omega | simp at h3)) hb (by omega) (by omega) (by omega)) ?_
   rintro v w2 ⟨rfl, hp2, hU2⟩
   have:=hU2.size
   have hbl_hp2 := hp2.lt
   refine Qs 5 rfl (Za (Sm (Qs 1 rfl (Zf (v := .bool false) (Yh (a := 0) (b := 0) rfl rfl) (Za (Cf (Zi (Sn (Qs 2 rfl (Zf (r_and rfl rfl and127) (Zf (ZZ underlying5 underlying101 rfl (wu64 (by omega) (by omega))) (Qs 1 rfl (Zf (YM rfl rfl ZY) (Zf (r_shl rfl rfl (by omega) (shl7 (by omega) (by omega) (by omega))) (Zf (r_or rfl rfl (or7 (by omega) hvt.2 (by omega) (by omega) (by omega))) ?_)))))))))))))))
   have hvm := val_more (bs := bs) (p := p) (k := k) (by omega)
   rw [show (val ((bs.drop p).take k) + bs.getD (p + k) 0 % 128 * 128 ^ k : Int) = val ((bs.drop p).take (k + 1)) from hvm.symm]
   refine Qs 1 rfl (Za (Zz (Zs (Sn (Qs 3 rfl (Za (W_if rfl (fun q3 => ?_) fun q3 => ?_)))))))
   ·refine ZI (Zl (Xd rfl rfl (Qs 1 rfl (Za ?_))))
    refine ⟨_, ?_, (k + 1), rfl, rfl, ⟨rfl, (by first | rfl | exact Zt (by omega) | exact Zt (by simp)), Zt, trivial⟩, (by omega), (by omega), (fun i hi => by rcases Nat.lt_or_ge i k with h | h; exact hall i h; rw [show i = k from by omega]; exact q3), hp2, (HL1.Zr hU2)⟩
    omega
   refine Sn (Qs 3 rfl ?_)
   replace HU := HU.Zr hU2
   by_cases q4 : (bs.getD (p + k) 0) = 0
   ·rw [decide_eq_true q4]
    refine Gt (Qs 1 rfl (Gt (Qs 1 rfl (Zf (Zx (v := .bool (decide (0 < (k : Int)))) rfl rfl) (Qs 1 rfl (Za (W_if rfl (fun q5 => ?_) fun q5 => ?_)))))))
    ·refine Sn (Qs 2 rfl (Za (Zn (Zg (v := .tuple #[.int .u64 0, .int .i64 5]) rfl (Z2 results99 rfl rfl) ?_))))
     rw [show ZN bs p = (0, p, 5) from gvar_min (k := k) (by omega) (by omega) hall (by omega) (by omega)]
     exact ⟨_, rfl, _, _, rfl, rfl, rfl, _, hp2, HU, rfl, fun h => absurd h (by simp)⟩
    refine Sn (Qs 3 rfl (Za (W_if rfl (fun q6 => ?_) fun q6 => ?_)))
    ·refine Sn (Qs 2 rfl (Za (Zn (Zg (v := .tuple #[.int .u64 0, .int .i64 18]) rfl (Z2 results99 rfl rfl) ?_))))
     rw [show ZN bs p = (0, p, 18) from by rw [gvar_else (k := k) (by omega) (by omega) hall (by omega) (by omega), if_pos (by omega)]]
     exact ⟨_, rfl, _, _, rfl, rfl, rfl, _, hp2, HU, rfl, fun h => absurd h (by simp)⟩
    refine Zi (Sn (Qs 3 rfl (Za (Zn (Zg (v := .tuple #[.int .u64 (val ((bs.drop p).take (k + 1))), .int .i64 0]) rfl (Z2 results99 rfl rfl) ?_)))))
    rw [show ZN bs p = (val ((bs.drop p).take (k + 1)), p + k + 1, 0) from by rw [gvar_else (k := k) (by omega) (by omega) hall (by omega) (by omega), if_neg (by omega)]]
    exact ⟨_, rfl, _, _, rfl, rfl, rfl, _, hp2, HU, rfl, fun _ => ⟨rfl, rfl⟩⟩
   rw [decide_eq_false q4]
   refine Gf (Gf (Zf (Zw (v := .bool false) rfl rfl) (Qs 1 rfl (Za (Cf (Sn (Qs 3 rfl (Za (W_if rfl (fun q7 => ?_) fun q7 => ?_)))))))))
   ·refine Sn (Qs 2 rfl (Za (Zn (Zg (v := .tuple #[.int .u64 0, .int .i64 18]) rfl (Z2 results99 rfl rfl) ?_))))
    rw [show ZN bs p = (0, p, 18) from by rw [gvar_else (k := k) (by omega) (by omega) hall (by omega) (by omega), if_pos (by omega)]]
    exact ⟨_, rfl, _, _, rfl, rfl, rfl, _, hp2, HU, rfl, fun h => absurd h (by simp)⟩
   refine Zi (Sn (Qs 3 rfl (Za (Zn (Zg (v := .tuple #[.int .u64 (val ((bs.drop p).take (k + 1))), .int .i64 0]) rfl (Z2 results99 rfl rfl) ?_)))))
   rw [show ZN bs p = (val ((bs.drop p).take (k + 1)), p + k + 1, 0) from by rw [gvar_else (k := k) (by omega) (by omega) hall (by omega) (by omega), if_neg (by omega)]]
   exact ⟨_, rfl, _, _, rfl, rfl, rfl, _, hp2, HU, rfl, fun _ => ⟨rfl, rfl⟩⟩
  have hgb := Yi hb (p + k)
  refine Zj (Zv rfl call77 rfl) (byte_end _ hp (hs.cur (by intro h1; have h3 : (pb < w.heap.size ∧ pb ≠ pb) := h1; first | omega | simp at h3)) hb (by omega) (by omega) (by omega)) ?_
  rintro v w3 ⟨rfl, hp3, hU3⟩
  have:=hU3.size
  have hbl_hp3 := hp3.lt
  refine Qs 5 rfl (Za (Sm (Qs 1 rfl (Zf (v := .bool true) (Yh (a := 3) (b := 0) rfl rfl) (Za (Ct (Sn (Qs 3 rfl (Za (Zn (Zg (v := .tuple #[.int .u64 0, .int .i64 3]) rfl (Z2 results99 rfl rfl) ?_)))))))))))
  rw [show ZN bs p = (0, p, 3) from gvar_short (k := k) (by omega) (by omega) hall]
  exact ⟨_, rfl, _, _, rfl, rfl, rfl, _, hp3, (HU.Zr hU3), rfl, fun h => absurd h (by simp)⟩
 rw [decide_eq_false q1]
 refine Cf (ZI (Sn (Qs 2 rfl (Za (Zn (Zg (v := .tuple #[.int .u64 0, .int .i64 18]) rfl (Z2 results99 rfl rfl) ?_))))))
 rw [show ZN bs p = (0, p, 18) from gvar_long (k := k) (by omega) (by omega) hall (by omega)]
 exact ⟨_, rfl, _, _, rfl, rfl, rfl, _, hp, HU, rfl, fun h => absurd h (by simp)⟩
theorem cvarint_spec {pb : Nat} {a : Option Addr} {n c p : Nat} {bs : List Int} (w : World) (hp : Blk w pb [.slice a n c, .int .i64 p]) (hs : Sl w (fun g => g < w.heap.size ∧ g ≠ pb) 1 (.slice a n c) n (ints .u8 bs)) (hb : Byt bs) (hpn : p ≤ n) (hn : n ≤ 140737488355328) :
  Calls Tryz.prog 82 #[.pointer (some ⟨pb, 0, none⟩)] w (Ret fun v w' => v = .tuple #[.int .u64 (ZN bs p).1, .int .i64 (ZN bs p).2.2] ∧ Blk w' pb [.slice a n c, .int .i64 (((ZN bs p).2.1 : Nat) : Int)] ∧ Upd (Is pb) w w') := by
 have HU : Upd (fun b => b = pb) w w := Upd.refl _ _
 have hl := ZC hs
 have hcap := hs.cap.1
 have hpl := hp.lt
 refine Zq func82 rfl ntmps82 (by simp) (Sn (Wl_box (v := .pointer (some ⟨pb, 0, none⟩)) (cs := [.pointer (some ⟨pb, 0, none⟩)]) rfl rfl ?_))
 intro B1 w1 hB1 hU1 hzz1 hb1
 refine Qs 2 rfl (Za (Sn (Zk isAgg77 rfl hb1 rfl (Zf (r_mkf1 (v0 := .pointer (some ⟨B1, 0, none⟩)) rfl) ?_))))
 replace hp := hp.Zc hU1
 refine Zj (Zy rfl call98 rfl rfl) (readU64_spec (Φ := fun x er at1 _ _ => er = (ZN bs p).2.2 ∧ ((ZN bs p).2.2 = 0 → x = .int .u64 (ZN bs p).1 ∧ at1 = (((ZN bs p).2.1 : Nat) : Int))) _ hp call99 (fun w1 hN => cvarint_clo w1 (hb1.Zc hN) (by omega) (hp.Zc hN) (((hs.Zc hU1).Zc hN).cur (show ¬ ((pb < w.heap.size ∧ pb ≠ pb)) by omega)) hb hpn hn)) ?_
 rintro v w2 ⟨x, er, at1, wa, wb, rfl, hpn2, hN, ⟨rfl, hat⟩, _, hU2⟩
 have:=hU2.size
 refine Zf (r_ext (v := if (ZN bs p).2.2 = 0 then x else .int .u64 0) rfl rfl) (Qs 1 rfl (Was (if (ZN bs p).2.2 = 0 then x else .int .u64 0) (Qs 1 rfl (Za (Zn (Zg (v := .tuple #[if (ZN bs p).2.2 = 0 then x else .int .u64 0, .int .i64 ((ZN bs p).2.2)]) rfl (Z2 results82 rfl rfl) ?_))))))
 have he : (ZN bs p).2.2 ≠ 0 → (ZN bs p).1 = 0 ∧ (ZN bs p).2.1 = p := fun h => (Yw bs p (by omega)).2.2.2.2.2.2 h
 refine ⟨_, rfl, ?_, ?_, ((HU.Zb hU1).Zr hU2)⟩
 ·by_cases h : (ZN bs p).2.2 = 0
  ·rw [if_pos h, (hat h).1]
  rw [if_neg h, (he h).1]
 by_cases h : (ZN bs p).2.2 = 0
 ·rw [if_pos h, (hat h).2] at hpn2; exact hpn2
 rw [if_neg h] at hpn2; rw [(he h).2]; exact hpn2
end Go.Proofs.YtbjjhfoeckkacaaGreatDoor
