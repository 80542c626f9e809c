/-
  Several texts of this project, put together.
-/
import Derived.Test.YtbjjhfoeckkacaaGreatDoorFZ
import Derived.Test.YtbjjhfoeckkacaaGreatDoorHA
import Derived.Test.YtbjjhfoeckkacaaGreatDoorFB
set_option linter.unusedVariables false
set_option linter.unusedSimpArgs false
set_option maxRecDepth 100000
set_option maxHeartbeats 16000000
namespace Go.Proofs.YtbjjhfoeckkacaaGreatDoor
open Go.Fw _root_.Go.Proofs.Tryz
theorem YD {bs : List Int} {q : Nat} (h : (ZE bs q).2.2 = 0) : q + 4 ≤ bs.length ∧ (ZE bs q).2.1 = q + 4 := by
 unfold ZE at h ⊢
 by_cases h1 : bs.length < q + 4
 ·rw [if_pos h1] at h; simp at h
 rw [if_neg h1]; exact ⟨by omega, rfl⟩
theorem gword_cut0 {bs : List Int} {p q q' : Nat} {t : Nat} (hq : q + 4 ≤ t) (h : (ZE bs (p + q)).2.2 = 0) (hq' : q' = q + 4) : ZE ((bs.drop p).take t) q = ((ZE bs (p + q)).1, q', 0) := by
 rw [gword_cut hq, if_pos h, h, (YD h).2, hq', show p + q + 4 - p = q + 4 from by omega]
theorem gword_cutE {bs : List Int} {p q : Nat} {t : Nat} (hq : q + 4 ≤ t) (h : ¬ (ZE bs (p + q)).2.2 = 0) : ZE ((bs.drop p).take t) q = ((ZE bs (p + q)).1, q, (ZE bs (p + q)).2.2) := by
 rw [gword_cut hq, if_neg h]
theorem gvar_cut0 {bs : List Int} {p q : Nat} {t : Nat} (hq : q + 9 ≤ t) (h : (ZN bs (p + q)).2.2 = 0) : ZN ((bs.drop p).take t) q = ((ZN bs (p + q)).1, (ZN bs (p + q)).2.1 - p, 0) := by
 rw [gvar_cut hq, if_pos h, h]
theorem gvar_cutE {bs : List Int} {p q : Nat} {t : Nat} (hq : q + 9 ≤ t) (h : ¬ (ZN bs (p + q)).2.2 = 0) : ZN ((bs.drop p).take t) q = ((ZN bs (p + q)).1, q, (ZN bs (p + q)).2.2) := by
 rw [gvar_cut hq, if_neg h]
theorem gvar_9 (bs : List Int) (q : Nat) : (ZN bs q).2.1 ≤ q + 9 := by
 have h9 := run_le 9 (bs.drop q)
 unfold ZN
 simp only
 split
 ·exact Nat.le_add_right _ _
 split
 ·exact Nat.le_add_right _ _
 split
 ·exact Nat.le_add_right _ _
 split
 ·exact Nat.le_add_right _ _
 show q + _ + 1 ≤ _; omega
theorem hdict_skip {bs : List Int} {p : Nat} (h : ¬ bs.getD (p + 4) 0 / 4 = 1) : ZV bs p = (0, p + 6, 0) := if_neg h
theorem Y0 {bs : List Int} {p : Nat} (h : bs.getD (p + 4) 0 / 4 = 1) : ZV bs p = ZE bs (p + 6) := if_pos h
theorem hsize_skip {bs : List Int} {p q : Nat} (h : ¬ bs.getD (p + 4) 0 % 2 = 1) : Yu bs p q = (-1, q, 0) := if_neg h
theorem hsize_do {bs : List Int} {p q : Nat} (h : bs.getD (p + 4) 0 % 2 = 1) : Yu bs p q = ZN bs q := if_pos h
theorem Hm_len {bs : List Int} {p : Nat} (h : Hm bs p) : ¬ bs.length < p + 4 := fun h2 => by have := hmk_short h2; have := h.1; simp_all
theorem get_spec {pb : Nat} {a : Option Addr} {n c p : Nat} {bs : List Int} (w : World) (hp : Blk w pb [.slice a n c, .int .i64 p]) (hs : Sl w (fun g => g < w.heap.size ∧ g ≠ pb) 1 (.slice a n c) n (ints .u8 bs)) (hb : Byt bs) (hpn : p ≤ n) (hn : n ≤ 140737488355328) :
  Calls Tryz.prog 48 #[.pointer (some ⟨pb, 0, none⟩)] w (Ret fun v w' => v = .tuple #[.agg #[.int .i64 ((ZA bs p).1.1), .int .i64 ((ZA bs p).1.2.1), .int .u32 ((ZA bs p).1.2.2.1), .bool (decide ((ZA bs p).1.2.2.2 = true))], .int .i64 ((ZA bs p).2.2)] ∧ Blk w' pb [.slice a n c, .int .i64 (((ZA bs p).2.1 : Nat) : Int)] ∧ Upd (Is pb) w w') := by
 have HU : Upd (fun b => b = pb) w w := Upd.refl _ _
 have hbl_hp := hp.lt
 have hl_hs := ZC hs
 have hc_hs := hs.cap.1
 obtain ⟨t, ht⟩ : ∃ t, t = min 19 (n - p) := ⟨_, rfl⟩
 refine Zq func48 rfl ntmps48 (by simp) (Sn (ZB zeroValue34 rfl ?_))
 intro B1 w1 hB1 hU1 hzz1 hb1
 refine Qs 1 rfl (Za (W_scope (Sn (Qs 1 rfl ?_))))
 replace hp := hp.Zc hU1
 replace hs := hs.Zc hU1
 refine Zj (Zv rfl call44 rfl) (isf_spec _ hp (hs.cur (by intro h1; have h3 : (pb < w.heap.size ∧ pb ≠ pb) := h1; first | omega | simp at h3)) hb (by omega) (by omega)) ?_
 rintro v w2 ⟨rfl, hU2⟩
 have:=hU2.size
 refine Qs 5 rfl (Za (Sm (Qs 3 rfl ?_)))
 replace HU := (HU.Zb hU1).Zb hU2
 replace hp := hp.Zc hU2
 replace hb1 := hb1.Zc hU2
 by_cases q1 : ((hmk bs p).2) = 0
 ·rw [decide_eq_true q1]
  refine Gt (Qs 1 rfl (Gt (Zf (YX rfl) (Zf (Zx (v := .bool (!decide ((hmk bs p).1 = 1))) rfl rfl) (Za ?_)))))
  by_cases q2 : (hmk bs p).1 = 1
  ·have HM : Hm bs p := ⟨q1, q2⟩
   have hml := Hm_len HM
   have hq4_ := Yi hb (p + 4)
   have hq5_ := Yi hb (p + 5)
   rw [decide_eq_true q2]
   simp only [Bool.not_true, Bool.not_false]
   refine Cf (Zi (Sm (Qs 2 rfl (Za ?_))))
   have q3 : ¬ (((hmk bs p).2) ≠ 0) := (fun h2 => h2 q1)
   rw [decide_eq_false q3]
   refine Cf (Zi (Sn (Qs 1 rfl ?_)))
   replace hs := hs.Zc hU2
   refine Zj (Zy rfl call74 rfl rfl) (peek_k (t := t) (K := 19) _ hp (hs.cur (by intro h1; have h3 : (pb < w.heap.size ∧ pb ≠ pb) := h1; first | omega | simp at h3)) hb (by omega) (by omega) ht) ?_
   rintro v w3 ⟨a3, c3, rfl, hO3, hU3⟩
   have:=hU3.size
   replace hO3 := hO3.tight
   have hl_hO3 := ZC hO3.sl
   have hc_hO3 := hO3.sl.cap.1
   refine Zj (Zv rfl call21 rfl) (new_spec _ hO3.sl.any (by omega)) ?_
   rintro v w4 ⟨pb4, a4, c4, rfl, hp4, hO4, hpg_4, hU4⟩
   have:=hU4.size
   have hbl_hp4 := hp4.lt
   replace hO4 := hO4.tight
   have hl_hO4 := ZC hO4.sl
   have hc_hO4 := hO4.sl.cap.1
   refine ZB zeroValue77 rfl ?_
   intro B5 w5 hB5 hU5 hzz5 hb5
   refine Xc [.pointer (some ⟨pb4, 0, none⟩)] sizeOf77 rfl hb5 rfl rfl rfl rfl rfl ?_
   intro w6 hU6 hzz6 hb5
   refine Za (Sn (Zk isAgg77 rfl hb5 rfl ?_))
   replace hp4 := (hp4.Zc hU5).Zh hU6
   replace hO4 := (hO4.Zc hU5).Zh hU6
   refine Zj (Zy rfl call75 rfl rfl) (cbytes_k (K := 4) (p := 0) _ hp4 (hO4.sl.cur (by intro h1; have h3 : ((w3.heap.size ≤ pb4 ∧ pb4 ≠ pb4) ∧ pb4 < w4.heap.size) := h1; first | omega | simp at h3)) (ZU (ZL hb _) _) (by omega) (by omega) (by omega)) ?_
   rintro v w7 ⟨a7, c7, rfl, hp7, hO7, hU7⟩
   have:=hU7.size
   have hbl_hp7 := hp7.lt
   replace hO7 := hO7.tight
   have hl_hO7 := ZC hO7.sl
   have hc_hO7 := hO7.sl.cap.1
   replace hp7 : Blk w7 pb4 [.slice a4 t c4, .int .i64 ((4 : Nat) : Int)] := hp7
   refine Za (Sn (Zf (ZF (pl := #[(0, 1), (1, 1), (2, 1), (3, 1)]) (pv := [(1, .int .i64 (-1))]) (cs := #[.int .i64 0, .int .i64 (-1), .int .u32 0, .bool false]) zeroValue34 underlying34 (fun w => by kernel_rfl)) (ZB zeroValue34 rfl ?_)))
   intro B8 w8 hB8 hU8 hzz8 hb8
   refine Xa sizeOf34 rfl rfl rfl rfl hb8 rfl ?_
   intro w9 hU9 hzz9 hb8
   refine Za (Sn (ZB zeroValue5 rfl ?_))
   intro B10 w10 hB10 hU10 hzz10 hb10
   refine Za (Sn (Zf (r_mkf2 (v0 := .pointer (some ⟨B5, 0, none⟩)) (v1 := .pointer (some ⟨B10, 0, none⟩)) rfl rfl) (Zf (r_mkf2 (v0 := .pointer (some ⟨B5, 0, none⟩)) (v1 := .pointer (some ⟨B8, 0, none⟩)) rfl rfl) (Zf (r_mkf3 (v0 := .pointer (some ⟨B10, 0, none⟩)) (v1 := .pointer (some ⟨B5, 0, none⟩)) (v2 := .pointer (some ⟨B8, 0, none⟩)) rfl rfl rfl) (Zf (r_mkf3 (v0 := .pointer (some ⟨B10, 0, none⟩)) (v1 := .pointer (some ⟨B5, 0, none⟩)) (v2 := .pointer (some ⟨B8, 0, none⟩)) rfl rfl rfl) ?_)))))
   refine Xz [.func (.func 76) #[] #[.pointer (some ⟨B5, 0, none⟩), .pointer (some ⟨B10, 0, none⟩)], .func (.func 78) #[] #[.pointer (some ⟨B5, 0, none⟩), .pointer (some ⟨B8, 0, none⟩)], .func (.func 80) #[] #[.pointer (some ⟨B10, 0, none⟩), .pointer (some ⟨B5, 0, none⟩), .pointer (some ⟨B8, 0, none⟩)], .func (.func 81) #[] #[.pointer (some ⟨B10, 0, none⟩), .pointer (some ⟨B5, 0, none⟩), .pointer (some ⟨B8, 0, none⟩)]] underlying158 sizeOf153 zeroValue153 ?_
   intro B11 w11 hB11 hU11 hzz11 hs11
   refine Qs 1 rfl (Za (Zz (W_label (Sm (Qs 1 rfl (Zf (ZM underlying158 rfl) (Qs 1 rfl (Za (Zs (W_unroll 5 (ZX (Sn (Zf (v := .bool true) (YL (a := 0) (b := 4) rfl rfl) (Za (Zz (Ct (Zi (Zz (Zs (Sn ?_))))))))))))))))))))
   have hc12 : w11.cell? ⟨B11, 0, none⟩ = some (.func (.func 76) #[] #[.pointer (some ⟨B5, 0, none⟩), .pointer (some ⟨B10, 0, none⟩)]) := hs11.cellc (i := 0) (by decide)
   refine Zf (Yl (b := B11) (off := 0) (m := 4) (c := 4) (o' := 0) underlying158 sizeOf153 rfl rfl (by omega) (by omega) (by omega)) (ZH isAgg153 rfl hc12 (Qs 1 rfl (Za (Sn (Qs 1 rfl ?_)))))
   replace hp := ((((((((hp.Zc hU3).Zc hU4).Zc hU5).Zh hU6).Zh hU7).Zc hU8).Zh hU9).Zc hU10).Zc hU11
   replace HU := ((((((((HU.Zb hU3).Zb hU4).Zb hU5).Zr hU6).Zr hU7).Zb hU8).Zr hU9).Zb hU10).Zb hU11
   replace hb1 := ((((((((hb1.Zc hU3).Zc hU4).Zc hU5).Zh hU6).Zh hU7).Zc hU8).Zh hU9).Zc hU10).Zc hU11
   replace hO4 := ((((hO4.Zh hU7).Zc hU8).Zh hU9).Zc hU10).Zc hU11
   replace hb5 := ((((hb5.Zh hU7).Zc hU8).Zh hU9).Zc hU10).Zc hU11
   replace hp7 := (((hp7.Zc hU8).Zh hU9).Zc hU10).Zc hU11
   replace hb10 := hb10.Zc hU11
   by_cases q4 : n < p + 5
   ·refine Zj (Yz call76 rfl  (by first | (simp; done) | (simp; rfl))) (get1_end _ hb5 hb10 hp7 (hO4.sl.cur (by intro h1; have h3 : ((w3.heap.size ≤ pb4 ∧ pb4 ≠ pb4) ∧ pb4 < w4.heap.size) := h1; first | omega | simp at h3)) (ZU (ZL hb _) _) (by omega) (by omega) (by omega) (by omega)) ?_
    rintro v w13 ⟨rfl, hbb13, hp13, hU13⟩
    have:=hU13.size
    have hbl_hbb13 := hbb13.lt
    have hbl_hp13 := hp13.lt
    refine Qs 1 rfl (Za (Sn (Qs 1 rfl (Zf (v := .bool true) (Yh (a := 3) (b := 0) rfl rfl) (Za (Ct (ZI (Sm (Qs 1 rfl (Zf (v := .bool true) (Yh (a := 3) (b := 0) rfl rfl) (Za (Ct (Sn (Zf (ZF (pl := #[(0, 1), (1, 1), (2, 1), (3, 1)]) (pv := []) (cs := #[.int .i64 0, .int .i64 0, .int .u32 0, .bool false]) zeroValue34 underlying34 (fun w => by kernel_rfl)) (Qs 1 rfl ?_)))))))))))))))
    replace hb1 := hb1.upd hU13
    refine Xa sizeOf34 rfl rfl rfl rfl hb1 rfl ?_
    intro w14 hU14 hzz14 hb1
    refine Qs 1 rfl (Za (Zn (Zg (v := .tuple #[.agg #[.int .i64 0, .int .i64 0, .int .u32 0, .bool false], .int .i64 3]) rfl (YS results48 rfl rfl (Zu isAgg34 sizeOf34 rfl hb1)) ?_)))
    have HG := gh_5 HM (by omega)
    replace hp := (hp.upd hU13).Zh hU14
    exact ⟨_, rfl, (Yx (by first | (rw [HG]; rfl) | (rw [HG, show (decide ((bs.getD (p + 4) 0) / 2 % 2 * 2 ≠ 0)) = decide ((bs.getD (p + 4) 0) / 2 % 2 = 1) from by rw [decide_eq_decide]; omega]; simp) | (rw [HG]; simp)) (by simp [HG])), (by rw [HG]; first | (simpa using hp) | (dsimp only; rw [show (ZN bs (p + 6)).2.1 = p + ((ZN bs (p + 6)).2.1 - p) from by omega]; exact hp) | (dsimp only; rw [show (ZN bs (p + 10)).2.1 = p + ((ZN bs (p + 10)).2.1 - p) from by omega]; exact hp)), ((HU.trans hU13).Zr hU14)⟩
   by_cases q5 : 7 < bs.getD (p + 4) 0
   ·refine Zj (Yz call76 rfl  (by first | (simp; done) | (simp; rfl))) (get1_bad (b := bs.getD (p + 4) 0) _ hb5 hb10 hp7 (hO4.sl.cur (by intro h1; have h3 : ((w3.heap.size ≤ pb4 ∧ pb4 ≠ pb4) ∧ pb4 < w4.heap.size) := h1; first | omega | simp at h3)) (ZU (ZL hb _) _) (by omega) (by omega) (by omega) (by omega) (gd_cut (by omega)) (by omega)) ?_
    rintro v w15 ⟨rfl, hbb15, hp15, hU15⟩
    have:=hU15.size
    have hbl_hbb15 := hbb15.lt
    have hbl_hp15 := hp15.lt
    refine Qs 1 rfl (Za (Sn (Qs 1 rfl (Zf (v := .bool true) (Yh (a := 7) (b := 0) rfl rfl) (Za (Ct (ZI (Sm (Qs 1 rfl (Zf (v := .bool true) (Yh (a := 7) (b := 0) rfl rfl) (Za (Ct (Sn (Zf (ZF (pl := #[(0, 1), (1, 1), (2, 1), (3, 1)]) (pv := []) (cs := #[.int .i64 0, .int .i64 0, .int .u32 0, .bool false]) zeroValue34 underlying34 (fun w => by kernel_rfl)) (Qs 1 rfl ?_)))))))))))))))
    replace hb1 := hb1.upd hU15
    refine Xa sizeOf34 rfl rfl rfl rfl hb1 rfl ?_
    intro w16 hU16 hzz16 hb1
    refine Qs 1 rfl (Za (Zn (Zg (v := .tuple #[.agg #[.int .i64 0, .int .i64 0, .int .u32 0, .bool false], .int .i64 7]) rfl (YS results48 rfl rfl (Zu isAgg34 sizeOf34 rfl hb1)) ?_)))
    have HG := gh_bits HM (by omega) (by omega)
    replace hp := (hp.upd hU15).Zh hU16
    exact ⟨_, rfl, (Yx (by first | (rw [HG]; rfl) | (rw [HG, show (decide ((bs.getD (p + 4) 0) / 2 % 2 * 2 ≠ 0)) = decide ((bs.getD (p + 4) 0) / 2 % 2 = 1) from by rw [decide_eq_decide]; omega]; simp) | (rw [HG]; simp)) (by simp [HG])), (by rw [HG]; first | (simpa using hp) | (dsimp only; rw [show (ZN bs (p + 6)).2.1 = p + ((ZN bs (p + 6)).2.1 - p) from by omega]; exact hp) | (dsimp only; rw [show (ZN bs (p + 10)).2.1 = p + ((ZN bs (p + 10)).2.1 - p) from by omega]; exact hp)), ((HU.trans hU15).Zr hU16)⟩
   refine Zj (Yz call76 rfl  (by first | (simp; done) | (simp; rfl))) (get1_ok (b := bs.getD (p + 4) 0) _ hb5 hb10 hp7 (hO4.sl.cur (by intro h1; have h3 : ((w3.heap.size ≤ pb4 ∧ pb4 ≠ pb4) ∧ pb4 < w4.heap.size) := h1; first | omega | simp at h3)) (ZU (ZL hb _) _) (by omega) (by omega) (by omega) (by omega) (gd_cut (by omega)) (by omega)) ?_
   rintro v w17 ⟨rfl, hbb17, hp17, hU17⟩
   have:=hU17.size
   have hbl_hbb17 := hbb17.lt
   have hbl_hp17 := hp17.lt
   refine Qs 1 rfl (Za (Sn (Qs 1 rfl (Zf (v := .bool false) (Yh (a := 0) (b := 0) rfl rfl) (Za (Cf (Zi (Zl (Zf (Yf rfl rfl (show _ = (1 : Int) from by decide)) (Qs 1 rfl (Za (ZX (Sn (Zf (v := .bool true) (YL (a := 1) (b := 4) rfl rfl) (Za (Zz (Ct (Zi (Zz (Zs (Sn ?_)))))))))))))))))))))
   replace hs11 := hs11.upd hU17
   have hc18 : w17.cell? ⟨B11, 1, none⟩ = some (.func (.func 78) #[] #[.pointer (some ⟨B5, 0, none⟩), .pointer (some ⟨B8, 0, none⟩)]) := hs11.cellc (i := 1) (by decide)
   refine Zf (Yl (b := B11) (off := 0) (m := 4) (c := 4) (o' := 1) underlying158 sizeOf153 rfl rfl (by omega) (by omega) (by omega)) (ZH isAgg153 rfl hc18 (Qs 1 rfl (Za (Sn (Qs 1 rfl ?_)))))
   replace hb8 := ((hb8.Zc hU10).Zc hU11).upd hU17
   replace hp := hp.upd hU17
   replace HU := HU.trans hU17
   replace hb1 := hb1.upd hU17
   replace hO4 := hO4.upd hU17
   replace hb5 := hb5.upd hU17
   by_cases q6 : n < p + 6
   ·refine Zj (Yz call78 rfl  (by first | (simp; done) | (simp; rfl))) (get2_end _ hb5 hb8 hp17 (hO4.sl.cur (by intro h1; have h3 : ((w3.heap.size ≤ pb4 ∧ pb4 ≠ pb4) ∧ pb4 < w4.heap.size) := h1; first | omega | simp at h3)) (ZU (ZL hb _) _) (by omega) (by omega) (by omega) (by omega)) ?_
    rintro v w19 ⟨rfl, hh19, hp19, hU19⟩
    have:=hU19.size
    have hbl_hh19 := hh19.lt
    have hbl_hp19 := hp19.lt
    refine Qs 1 rfl (Za (Sn (Qs 1 rfl (Zf (v := .bool true) (Yh (a := 3) (b := 0) rfl rfl) (Za (Ct (ZI (Sm (Qs 1 rfl (Zf (v := .bool true) (Yh (a := 3) (b := 0) rfl rfl) (Za (Ct (Sn (Zf (ZF (pl := #[(0, 1), (1, 1), (2, 1), (3, 1)]) (pv := []) (cs := #[.int .i64 0, .int .i64 0, .int .u32 0, .bool false]) zeroValue34 underlying34 (fun w => by kernel_rfl)) (Qs 1 rfl ?_)))))))))))))))
    replace hb1 := hb1.upd hU19
    refine Xa sizeOf34 rfl rfl rfl rfl hb1 rfl ?_
    intro w20 hU20 hzz20 hb1
    refine Qs 1 rfl (Za (Zn (Zg (v := .tuple #[.agg #[.int .i64 0, .int .i64 0, .int .u32 0, .bool false], .int .i64 3]) rfl (YS results48 rfl rfl (Zu isAgg34 sizeOf34 rfl hb1)) ?_)))
    have HG := gh_6 HM (by omega) (by omega) (by omega)
    replace hp := (hp.upd hU19).Zh hU20
    exact ⟨_, rfl, (Yx (by first | (rw [HG]; rfl) | (rw [HG, show (decide ((bs.getD (p + 4) 0) / 2 % 2 * 2 ≠ 0)) = decide ((bs.getD (p + 4) 0) / 2 % 2 = 1) from by rw [decide_eq_decide]; omega]; simp) | (rw [HG]; simp)) (by simp [HG])), (by rw [HG]; first | (simpa using hp) | (dsimp only; rw [show (ZN bs (p + 6)).2.1 = p + ((ZN bs (p + 6)).2.1 - p) from by omega]; exact hp) | (dsimp only; rw [show (ZN bs (p + 10)).2.1 = p + ((ZN bs (p + 10)).2.1 - p) from by omega]; exact hp)), ((HU.trans hU19).Zr hU20)⟩
   by_cases q7 : 136 < bs.getD (p + 5) 0
   ·have hww := hw_outI q7 hq5_.2
    refine Zj (Yz call78 rfl  (by first | (simp; done) | (simp; rfl))) (get2_bad (b := bs.getD (p + 5) 0) _ hb5 hb8 hp17 (hO4.sl.cur (by intro h1; have h3 : ((w3.heap.size ≤ pb4 ∧ pb4 ≠ pb4) ∧ pb4 < w4.heap.size) := h1; first | omega | simp at h3)) (ZU (ZL hb _) _) (by omega) (by omega) (by omega) (by omega) (gd_cut (by omega)) (by omega)) ?_
    rintro v w21 ⟨rfl, hh21, hp21, hU21⟩
    have:=hU21.size
    have hbl_hh21 := hh21.lt
    have hbl_hp21 := hp21.lt
    refine Qs 1 rfl (Za (Sn (Qs 1 rfl (Zf (v := .bool true) (Yh (a := 7) (b := 0) rfl rfl) (Za (Ct (ZI (Sm (Qs 1 rfl (Zf (v := .bool true) (Yh (a := 7) (b := 0) rfl rfl) (Za (Ct (Sn (Zf (ZF (pl := #[(0, 1), (1, 1), (2, 1), (3, 1)]) (pv := []) (cs := #[.int .i64 0, .int .i64 0, .int .u32 0, .bool false]) zeroValue34 underlying34 (fun w => by kernel_rfl)) (Qs 1 rfl ?_)))))))))))))))
    replace hb1 := hb1.upd hU21
    refine Xa sizeOf34 rfl rfl rfl rfl hb1 rfl ?_
    intro w22 hU22 hzz22 hb1
    refine Qs 1 rfl (Za (Zn (Zg (v := .tuple #[.agg #[.int .i64 0, .int .i64 0, .int .u32 0, .bool false], .int .i64 7]) rfl (YS results48 rfl rfl (Zu isAgg34 sizeOf34 rfl hb1)) ?_)))
    have HG := gh_win HM (by omega) (by omega) (by omega) hww.1
    replace hp := (hp.upd hU21).Zh hU22
    exact ⟨_, rfl, (Yx (by first | (rw [HG]; rfl) | (rw [HG, show (decide ((bs.getD (p + 4) 0) / 2 % 2 * 2 ≠ 0)) = decide ((bs.getD (p + 4) 0) / 2 % 2 = 1) from by rw [decide_eq_decide]; omega]; simp) | (rw [HG]; simp)) (by simp [HG])), (by rw [HG]; first | (simpa using hp) | (dsimp only; rw [show (ZN bs (p + 6)).2.1 = p + ((ZN bs (p + 6)).2.1 - p) from by omega]; exact hp) | (dsimp only; rw [show (ZN bs (p + 10)).2.1 = p + ((ZN bs (p + 10)).2.1 - p) from by omega]; exact hp)), ((HU.trans hU21).Zr hU22)⟩
   have hww := hw_inI hq5_.1 (by omega)
   refine Zj (Yz call78 rfl  (by first | (simp; done) | (simp; rfl))) (get2_ok (b := bs.getD (p + 5) 0) _ hb5 hb8 hp17 (hO4.sl.cur (by intro h1; have h3 : ((w3.heap.size ≤ pb4 ∧ pb4 ≠ pb4) ∧ pb4 < w4.heap.size) := h1; first | omega | simp at h3)) (ZU (ZL hb _) _) (by omega) (by omega) (by omega) (by omega) (gd_cut (by omega)) (by omega)) ?_
   rintro v w23 ⟨rfl, hh23, hp23, hU23⟩
   have:=hU23.size
   have hbl_hh23 := hh23.lt
   have hbl_hp23 := hp23.lt
   refine Qs 1 rfl (Za (Sn (Qs 1 rfl (Zf (v := .bool false) (Yh (a := 0) (b := 0) rfl rfl) (Za (Cf (Zi (Zl (Zf (Yf rfl rfl (show _ = (2 : Int) from by decide)) (Qs 1 rfl (Za (ZX (Sn (Zf (v := .bool true) (YL (a := 2) (b := 4) rfl rfl) (Za (Zz (Ct (Zi (Zz (Zs (Sn ?_)))))))))))))))))))))
   replace hs11 := hs11.upd hU23
   have hc24 : w23.cell? ⟨B11, 2, none⟩ = some (.func (.func 80) #[] #[.pointer (some ⟨B10, 0, none⟩), .pointer (some ⟨B5, 0, none⟩), .pointer (some ⟨B8, 0, none⟩)]) := hs11.cellc (i := 2) (by decide)
   refine Zf (Yl (b := B11) (off := 0) (m := 4) (c := 4) (o' := 2) underlying158 sizeOf153 rfl rfl (by omega) (by omega) (by omega)) (ZH isAgg153 rfl hc24 (Qs 1 rfl (Za (Sn (Qs 1 rfl ?_)))))
   replace hs := ((((((((((hs.Zc hU3).Zc hU4).Zc hU5).Zh hU6).Zh hU7).Zc hU8).Zh hU9).Zc hU10).Zc hU11).upd hU17).upd hU23
   replace hp := hp.upd hU23
   replace HU := HU.trans hU23
   replace hb1 := hb1.upd hU23
   replace hO4 := hO4.upd hU23
   replace hb5 := hb5.upd hU23
   replace hbb17 := hbb17.upd hU23
   by_cases q8 : bs.getD (p + 4) 0 / 4 = 1
   ·by_cases q9 : (ZE bs (p + 6)).2.2 = 0
    ·by_cases q10 : (ZE bs (p + 6)).1 = 0
     ·refine Zj (Yz call80 rfl  (by first | (simp; done) | (simp; rfl))) (get3_zero (dv := (ZE bs (p + 6)).1) (q := 10) (er := 0) (b := bs.getD (p + 4) 0) _ hb5 hbb17 hh23 hp23 (hO4.sl.cur (by intro h1; have h3 : ((w3.heap.size ≤ pb4 ∧ pb4 ≠ pb4) ∧ pb4 < w4.heap.size) := h1; first | omega | simp at h3)) (ZU (ZL hb _) _) (by omega) (by omega) (by omega) (by omega) (by omega) (gword_cut0 (by omega) q9 rfl) ⟨rfl, q10⟩) ?_
      rintro v w25 ⟨rfl, hh25, hp25, hU25⟩
      have:=hU25.size
      have hbl_hh25 := hh25.lt
      have hbl_hp25 := hp25.lt
      refine Qs 1 rfl (Za (Sn (Qs 1 rfl (Zf (v := .bool true) (Yh (a := 7) (b := 0) rfl rfl) (Za (Ct (ZI (Sm (Qs 1 rfl (Zf (v := .bool true) (Yh (a := 7) (b := 0) rfl rfl) (Za (Ct (Sn (Zf (ZF (pl := #[(0, 1), (1, 1), (2, 1), (3, 1)]) (pv := []) (cs := #[.int .i64 0, .int .i64 0, .int .u32 0, .bool false]) zeroValue34 underlying34 (fun w => by kernel_rfl)) (Qs 1 rfl ?_)))))))))))))))
      replace hb1 := hb1.upd hU25
      refine Xa sizeOf34 rfl rfl rfl rfl hb1 rfl ?_
      intro w26 hU26 hzz26 hb1
      refine Qs 1 rfl (Za (Zn (Zg (v := .tuple #[.agg #[.int .i64 0, .int .i64 0, .int .u32 0, .bool false], .int .i64 7]) rfl (YS results48 rfl rfl (Zu isAgg34 sizeOf34 rfl hb1)) ?_)))
      have HD := Y0 q8
      have HG := gh_zero HM (by omega) (by omega) (by omega) (by rw [HD]; exact q9) ⟨q8, by rw [HD]; exact q10⟩
      replace hp := (hp.upd hU25).Zh hU26
      exact ⟨_, rfl, (Yx (by first | (rw [HG]; rfl) | (rw [HG, show (decide ((bs.getD (p + 4) 0) / 2 % 2 * 2 ≠ 0)) = decide ((bs.getD (p + 4) 0) / 2 % 2 = 1) from by rw [decide_eq_decide]; omega]; simp) | (rw [HG]; simp)) (by simp [HG])), (by rw [HG]; first | (simpa using hp) | (dsimp only; rw [show (ZN bs (p + 6)).2.1 = p + ((ZN bs (p + 6)).2.1 - p) from by omega]; exact hp) | (dsimp only; rw [show (ZN bs (p + 10)).2.1 = p + ((ZN bs (p + 10)).2.1 - p) from by omega]; exact hp)), ((HU.trans hU25).Zr hU26)⟩
     refine Zj (Yz call80 rfl  (by first | (simp; done) | (simp; rfl))) (get3_ok (dv := (ZE bs (p + 6)).1) (q := 10) (er := 0) (b := bs.getD (p + 4) 0) _ hb5 hbb17 hh23 hp23 (hO4.sl.cur (by intro h1; have h3 : ((w3.heap.size ≤ pb4 ∧ pb4 ≠ pb4) ∧ pb4 < w4.heap.size) := h1; first | omega | simp at h3)) (ZU (ZL hb _) _) (by omega) (by omega) (by omega) (by omega) (by omega) (gword_cut0 (by omega) q9 rfl) ⟨rfl, q10⟩) ?_
     rintro v w27 ⟨rfl, hh27, hp27, hU27⟩
     have:=hU27.size
     have hbl_hh27 := hh27.lt
     have hbl_hp27 := hp27.lt
     refine Qs 1 rfl (Za (Sn (Qs 1 rfl (Zf (v := .bool false) (Yh (a := 0) (b := 0) rfl rfl) (Za (Cf (Zi (Zl (Zf (Yf rfl rfl (show _ = (3 : Int) from by decide)) (Qs 1 rfl (Za (ZX (Sn (Zf (v := .bool true) (YL (a := 3) (b := 4) rfl rfl) (Za (Zz (Ct (Zi (Zz (Zs (Sn ?_)))))))))))))))))))))
     have hc28 : w27.cell? ⟨B11, 3, none⟩ = some (.func (.func 81) #[] #[.pointer (some ⟨B10, 0, none⟩), .pointer (some ⟨B5, 0, none⟩), .pointer (some ⟨B8, 0, none⟩)]) := (hs11.upd hU27).cellc (i := 3) (by decide)
     refine Zf (Yl (b := B11) (off := 0) (m := 4) (c := 4) (o' := 3) underlying158 sizeOf153 rfl rfl (by omega) (by omega) (by omega)) (ZH isAgg153 rfl hc28 (Qs 1 rfl (Za (Sn (Qs 1 rfl ?_)))))
     replace hp := hp.upd hU27
     replace hs := hs.upd hU27
     replace HU := HU.trans hU27
     replace hb1 := hb1.upd hU27
     replace hO4 := hO4.upd hU27
     replace hb5 := hb5.upd hU27
     replace hbb17 := hbb17.upd hU27
     by_cases q11 : bs.getD (p + 4) 0 % 2 = 1
     ·have hgi := YD (bs := bs) q9
      have hgp := Yw bs (p + 10) (by omega)
      have hg9 := gvar_9 bs (p + 10)
      by_cases q12 : (ZN bs (p + 10)).2.2 = 0
      ·refine Zj (Yz call81 rfl  (by first | (simp; done) | (simp; rfl))) (get4_do (nv := (ZN bs (p + 10)).1) (q := (ZN bs (p + 10)).2.1 - p) (er := 0) (b := bs.getD (p + 4) 0) (dv := (ZE bs (p + 6)).1) _ hb5 hbb17 hh27 hp27 (hO4.sl.cur (by intro h1; have h3 : ((w3.heap.size ≤ pb4 ∧ pb4 ≠ pb4) ∧ pb4 < w4.heap.size) := h1; first | omega | simp at h3)) (ZU (ZL hb _) _) (by omega) (by omega) (by omega) (by omega) (by omega) (gvar_cut0 (by omega) q12) (by omega)) ?_
       rintro v w29 ⟨rfl, hh29, hp29, hU29⟩
       have:=hU29.size
       have hbl_hh29 := hh29.lt
       have hbl_hp29 := hp29.lt
       refine Qs 1 rfl (Za (Sn (Qs 1 rfl (Zf (v := .bool false) (Yh (a := 0) (b := 0) rfl rfl) (Za (Cf (Zi (Zl (Zf (Yf rfl rfl (show _ = (4 : Int) from by decide)) (Qs 1 rfl (Za (ZX (Sn (Zf (v := .bool false) (YL (a := 4) (b := 4) rfl rfl) (Za (Zz (Cf (ZI (Sm (Qs 1 rfl (Zf (v := .bool false) (Yh (a := 0) (b := 0) rfl rfl) (Za (Cf (Zi (Sn (Zk isAgg5 rfl (hbb17.upd hU29) rfl (Zf (r_and rfl rfl (and2 (by omega) (by omega))) (Qs 1 rfl (Zf (Zo underlying34 rfl sizeOf4 rfl rfl) (Xc [.int .i64 (hw (bs.getD (p + 5) 0)), .int .i64 ((ZN bs (p + 10)).1), .int .u32 ((ZE bs (p + 6)).1), .bool (decide (((bs.getD (p + 4) 0) / 2 % 2 * 2) ≠ 0))] sizeOf4 rfl hh29 rfl rfl rfl rfl rfl ?_))))))))))))))))))))))))))))))
       intro w30 hU30 hzz30 hh29
       refine Za (Sn (Qs 1 rfl (Zk isAgg77 rfl ((hb5.upd hU29).Zh hU30) rfl (Zj (Zv rfl call42 rfl) (at_spec _ (hp29.Zh hU30) (by omega) (by omega) (by omega)) ?_))))
       rintro v w31 ⟨rfl, hU31⟩
       have:=hU31.size
       replace hp := ((hp.upd hU29).Zh hU30).Zc hU31
       replace hs := ((hs.upd hU29).Zh hU30).Zc hU31
       refine Zj (Zy rfl call75 rfl rfl) (cbytes_k _ hp (hs.cur (by intro h1; have h3 : (pb < w.heap.size ∧ pb ≠ pb) := h1; first | omega | simp at h3)) hb (by omega) (by omega) (by omega)) ?_
       rintro v w32 ⟨a32, c32, rfl, hp32, hO32, hU32⟩
       have:=hU32.size
       have hbl_hp32 := hp32.lt
       replace hO32 := hO32.tight
       have hl_hO32 := ZC hO32.sl
       have hc_hO32 := hO32.sl.cap.1
       refine Za (Sn (Xq [.int .i64 (hw (bs.getD (p + 5) 0)), .int .i64 ((ZN bs (p + 10)).1), .int .u32 ((ZE bs (p + 6)).1), .bool (decide (((bs.getD (p + 4) 0) / 2 % 2 * 2) ≠ 0))] isAgg34 sizeOf34 rfl ((hh29.Zc hU31).Zh hU32) rfl rfl ?_))
       replace hb1 := (((hb1.upd hU29).Zh hU30).Zc hU31).Zh hU32
       refine Xa sizeOf34 rfl rfl rfl rfl hb1 rfl ?_
       intro w33 hU33 hzz33 hb1
       refine Qs 1 rfl (Za (Zn (Zg (v := .tuple #[.agg #[.int .i64 (hw (bs.getD (p + 5) 0)), .int .i64 ((ZN bs (p + 10)).1), .int .u32 ((ZE bs (p + 6)).1), .bool (decide (((bs.getD (p + 4) 0) / 2 % 2 * 2) ≠ 0))], .int .i64 0]) rfl (YS results48 rfl rfl (Zu isAgg34 sizeOf34 rfl hb1)) ?_)))
       have HD := Y0 q8
       have hgi := YD (bs := bs) q9
       have HQ : (ZV bs p).2.1 = p + 10 := by rw [HD]; omega
       have HV : (ZV bs p).1 = (ZE bs (p + 6)).1 := by rw [HD]
       have HS := hsize_do (q := p + 10) q11
       have HG := gh_ok HM (by omega) (by omega) (by omega) (by rw [HD]; exact q9) (fun h => by rw [HD] at h; exact q10 h.2) (by rw [HQ, HS]; exact q12)
       rw [HQ, HS, HV] at HG
       replace hp32 := hp32.Zh hU33
       exact ⟨_, rfl, (Yx (by first | (rw [HG]; rfl) | (rw [HG, show (decide ((bs.getD (p + 4) 0) / 2 % 2 * 2 ≠ 0)) = decide ((bs.getD (p + 4) 0) / 2 % 2 = 1) from by rw [decide_eq_decide]; omega]; simp) | (rw [HG]; simp)) (by simp [HG])), (by rw [HG]; first | (simpa using hp32) | (dsimp only; rw [show (ZN bs (p + 6)).2.1 = p + ((ZN bs (p + 6)).2.1 - p) from by omega]; exact hp32) | (dsimp only; rw [show (ZN bs (p + 10)).2.1 = p + ((ZN bs (p + 10)).2.1 - p) from by omega]; exact hp32)), (((((HU.trans hU29).Zr hU30).Zb hU31).Zr hU32).Zr hU33)⟩
      refine Zj (Yz call81 rfl  (by first | (simp; done) | (simp; rfl))) (get4_do (nv := (ZN bs (p + 10)).1) (q := 10) (er := (ZN bs (p + 10)).2.2) (b := bs.getD (p + 4) 0) (dv := (ZE bs (p + 6)).1) _ hb5 hbb17 hh27 hp27 (hO4.sl.cur (by intro h1; have h3 : ((w3.heap.size ≤ pb4 ∧ pb4 ≠ pb4) ∧ pb4 < w4.heap.size) := h1; first | omega | simp at h3)) (ZU (ZL hb _) _) (by omega) (by omega) (by omega) (by omega) (by omega) (gvar_cutE (by omega) q12) (by omega)) ?_
      rintro v w34 ⟨rfl, hh34, hp34, hU34⟩
      have:=hU34.size
      have hbl_hh34 := hh34.lt
      have hbl_hp34 := hp34.lt
      refine Qs 1 rfl (Za (Sn (Qs 2 rfl (Za ?_))))
      have q13 : ((ZN bs (p + 10)).2.2) ≠ 0 := q12
      rw [decide_eq_true q13]
      refine Ct (ZI (Sm (Qs 2 rfl (Za ?_))))
      have q14 : ((ZN bs (p + 10)).2.2) ≠ 0 := q13
      rw [decide_eq_true q14]
      refine Ct (Sn (Zf (ZF (pl := #[(0, 1), (1, 1), (2, 1), (3, 1)]) (pv := []) (cs := #[.int .i64 0, .int .i64 0, .int .u32 0, .bool false]) zeroValue34 underlying34 (fun w => by kernel_rfl)) (Qs 1 rfl ?_)))
      replace hb1 := hb1.upd hU34
      refine Xa sizeOf34 rfl rfl rfl rfl hb1 rfl ?_
      intro w35 hU35 hzz35 hb1
      refine Qs 1 rfl (Za (Zn (Zg (v := .tuple #[.agg #[.int .i64 0, .int .i64 0, .int .u32 0, .bool false], .int .i64 ((ZN bs (p + 10)).2.2)]) rfl (YS results48 rfl rfl (Zu isAgg34 sizeOf34 rfl hb1)) ?_)))
      have HD := Y0 q8
      have hgi := YD (bs := bs) q9
      have HQ : (ZV bs p).2.1 = p + 10 := by rw [HD]; omega
      have HV : (ZV bs p).1 = (ZE bs (p + 6)).1 := by rw [HD]
      have HS := hsize_do (q := p + 10) q11
      have HG := gh_size HM (by omega) (by omega) (by omega) (by rw [HD]; exact q9) (fun h => by rw [HD] at h; exact q10 h.2) (by rw [HQ, HS]; exact q12)
      rw [HQ, HS] at HG
      replace hp := (hp.upd hU34).Zh hU35
      exact ⟨_, rfl, (Yx (by first | (rw [HG]; rfl) | (rw [HG, show (decide ((bs.getD (p + 4) 0) / 2 % 2 * 2 ≠ 0)) = decide ((bs.getD (p + 4) 0) / 2 % 2 = 1) from by rw [decide_eq_decide]; omega]; simp) | (rw [HG]; simp)) (by simp [HG])), (by rw [HG]; first | (simpa using hp) | (dsimp only; rw [show (ZN bs (p + 6)).2.1 = p + ((ZN bs (p + 6)).2.1 - p) from by omega]; exact hp) | (dsimp only; rw [show (ZN bs (p + 10)).2.1 = p + ((ZN bs (p + 10)).2.1 - p) from by omega]; exact hp)), ((HU.trans hU34).Zr hU35)⟩
     have hgi := YD (bs := bs) q9
     refine Zj (Yz call81 rfl  (by first | (simp; done) | (simp; rfl))) (get4_skip (dv := (ZE bs (p + 6)).1) _ hb5 hbb17 hh27 hp27 (hO4.sl.cur (by intro h1; have h3 : ((w3.heap.size ≤ pb4 ∧ pb4 ≠ pb4) ∧ pb4 < w4.heap.size) := h1; first | omega | simp at h3)) (ZU (ZL hb _) _) (by omega) (by omega) (by omega) (by omega) (by omega)) ?_
     rintro v w36 ⟨rfl, hU36⟩
     have:=hU36.size
     refine Qs 1 rfl (Za (Sn (Qs 1 rfl (Zf (v := .bool false) (Yh (a := 0) (b := 0) rfl rfl) (Za (Cf (Zi (Zl (Zf (Yf rfl rfl (show _ = (4 : Int) from by decide)) (Qs 1 rfl (Za (ZX (Sn (Zf (v := .bool false) (YL (a := 4) (b := 4) rfl rfl) (Za (Zz (Cf (ZI (Sm (Qs 1 rfl (Zf (v := .bool false) (Yh (a := 0) (b := 0) rfl rfl) (Za (Cf (Zi (Sn (Zk isAgg5 rfl (hbb17.Zc hU36) rfl (Zf (r_and rfl rfl (and2 (by omega) (by omega))) (Qs 1 rfl (Zf (Zo underlying34 rfl sizeOf4 rfl rfl) ?_)))))))))))))))))))))))))))))
     replace hh27 := hh27.Zc hU36
     refine Xc [.int .i64 (hw (bs.getD (p + 5) 0)), .int .i64 (-1), .int .u32 ((ZE bs (p + 6)).1), .bool (decide (((bs.getD (p + 4) 0) / 2 % 2 * 2) ≠ 0))] sizeOf4 rfl hh27 rfl rfl rfl rfl rfl ?_
     intro w37 hU37 hzz37 hh27
     refine Za (Sn (Qs 1 rfl (Zk isAgg77 rfl ((hb5.Zc hU36).Zh hU37) rfl (Zj (Zv rfl call42 rfl) (at_spec _ ((hp27.Zc hU36).Zh hU37) (by omega) (by omega) (by omega)) ?_))))
     rintro v w38 ⟨rfl, hU38⟩
     have:=hU38.size
     replace hp := ((hp.Zc hU36).Zh hU37).Zc hU38
     replace hs := ((hs.Zc hU36).Zh hU37).Zc hU38
     refine Zj (Zy rfl call75 rfl rfl) (cbytes_k _ hp (hs.cur (by intro h1; have h3 : (pb < w.heap.size ∧ pb ≠ pb) := h1; first | omega | simp at h3)) hb (by omega) (by omega) (by omega)) ?_
     rintro v w39 ⟨a39, c39, rfl, hp39, hO39, hU39⟩
     have:=hU39.size
     have hbl_hp39 := hp39.lt
     replace hO39 := hO39.tight
     have hl_hO39 := ZC hO39.sl
     have hc_hO39 := hO39.sl.cap.1
     refine Za (Sn (Xq [.int .i64 (hw (bs.getD (p + 5) 0)), .int .i64 (-1), .int .u32 ((ZE bs (p + 6)).1), .bool (decide (((bs.getD (p + 4) 0) / 2 % 2 * 2) ≠ 0))] isAgg34 sizeOf34 rfl ((hh27.Zc hU38).Zh hU39) rfl rfl ?_))
     replace hb1 := (((hb1.Zc hU36).Zh hU37).Zc hU38).Zh hU39
     refine Xa sizeOf34 rfl rfl rfl rfl hb1 rfl ?_
     intro w40 hU40 hzz40 hb1
     refine Qs 1 rfl (Za (Zn (Zg (v := .tuple #[.agg #[.int .i64 (hw (bs.getD (p + 5) 0)), .int .i64 (-1), .int .u32 ((ZE bs (p + 6)).1), .bool (decide (((bs.getD (p + 4) 0) / 2 % 2 * 2) ≠ 0))], .int .i64 0]) rfl (YS results48 rfl rfl (Zu isAgg34 sizeOf34 rfl hb1)) ?_)))
     have HD := Y0 q8
     have hgi := YD (bs := bs) q9
     have HQ : (ZV bs p).2.1 = p + 10 := by rw [HD]; omega
     have HV : (ZV bs p).1 = (ZE bs (p + 6)).1 := by rw [HD]
     have HS := hsize_skip (q := p + 10) q11
     have HG := gh_ok HM (by omega) (by omega) (by omega) (by rw [HD]; exact q9) (fun h => by rw [HD] at h; exact q10 h.2) (by rw [HQ, HS])
     rw [HQ, HS, HV] at HG
     replace hp39 := hp39.Zh hU40
     exact ⟨_, rfl, (Yx (by first | (rw [HG]; rfl) | (rw [HG, show (decide ((bs.getD (p + 4) 0) / 2 % 2 * 2 ≠ 0)) = decide ((bs.getD (p + 4) 0) / 2 % 2 = 1) from by rw [decide_eq_decide]; omega]; simp) | (rw [HG]; simp)) (by simp [HG])), (by rw [HG]; first | (simpa using hp39) | (dsimp only; rw [show (ZN bs (p + 6)).2.1 = p + ((ZN bs (p + 6)).2.1 - p) from by omega]; exact hp39) | (dsimp only; rw [show (ZN bs (p + 10)).2.1 = p + ((ZN bs (p + 10)).2.1 - p) from by omega]; exact hp39)), (((((HU.Zb hU36).Zr hU37).Zb hU38).Zr hU39).Zr hU40)⟩
    refine Zj (Yz call80 rfl  (by first | (simp; done) | (simp; rfl))) (get3_err (dv := (ZE bs (p + 6)).1) (q := 6) (er := (ZE bs (p + 6)).2.2) (b := bs.getD (p + 4) 0) _ hb5 hbb17 hh23 hp23 (hO4.sl.cur (by intro h1; have h3 : ((w3.heap.size ≤ pb4 ∧ pb4 ≠ pb4) ∧ pb4 < w4.heap.size) := h1; first | omega | simp at h3)) (ZU (ZL hb _) _) (by omega) (by omega) (by omega) (by omega) (by omega) (gword_cutE (by omega) q9) q9) ?_
    rintro v w41 ⟨rfl, hh41, hp41, hU41⟩
    have:=hU41.size
    have hbl_hh41 := hh41.lt
    have hbl_hp41 := hp41.lt
    refine Qs 1 rfl (Za (Sn (Qs 2 rfl (Za ?_))))
    have q15 : ((ZE bs (p + 6)).2.2) ≠ 0 := q9
    rw [decide_eq_true q15]
    refine Ct (ZI (Sm (Qs 2 rfl (Za ?_))))
    have q16 : ((ZE bs (p + 6)).2.2) ≠ 0 := q15
    rw [decide_eq_true q16]
    refine Ct (Sn (Zf (ZF (pl := #[(0, 1), (1, 1), (2, 1), (3, 1)]) (pv := []) (cs := #[.int .i64 0, .int .i64 0, .int .u32 0, .bool false]) zeroValue34 underlying34 (fun w => by kernel_rfl)) (Qs 1 rfl ?_)))
    replace hb1 := hb1.upd hU41
    refine Xa sizeOf34 rfl rfl rfl rfl hb1 rfl ?_
    intro w42 hU42 hzz42 hb1
    refine Qs 1 rfl (Za (Zn (Zg (v := .tuple #[.agg #[.int .i64 0, .int .i64 0, .int .u32 0, .bool false], .int .i64 ((ZE bs (p + 6)).2.2)]) rfl (YS results48 rfl rfl (Zu isAgg34 sizeOf34 rfl hb1)) ?_)))
    have HD := Y0 q8
    have HG := gh_dict HM (by omega) (by omega) (by omega) (by rw [HD]; exact q9)
    rw [HD] at HG
    replace hp := (hp.upd hU41).Zh hU42
    exact ⟨_, rfl, (Yx (by first | (rw [HG]; rfl) | (rw [HG, show (decide ((bs.getD (p + 4) 0) / 2 % 2 * 2 ≠ 0)) = decide ((bs.getD (p + 4) 0) / 2 % 2 = 1) from by rw [decide_eq_decide]; omega]; simp) | (rw [HG]; simp)) (by simp [HG])), (by rw [HG]; first | (simpa using hp) | (dsimp only; rw [show (ZN bs (p + 6)).2.1 = p + ((ZN bs (p + 6)).2.1 - p) from by omega]; exact hp) | (dsimp only; rw [show (ZN bs (p + 10)).2.1 = p + ((ZN bs (p + 10)).2.1 - p) from by omega]; exact hp)), ((HU.trans hU41).Zr hU42)⟩
   refine Zj (Yz call80 rfl  (by first | (simp; done) | (simp; rfl))) (get3_skip _ hb5 hbb17 hh23 hp23 (hO4.sl.cur (by intro h1; have h3 : ((w3.heap.size ≤ pb4 ∧ pb4 ≠ pb4) ∧ pb4 < w4.heap.size) := h1; first | omega | simp at h3)) (ZU (ZL hb _) _) (by omega) (by omega) (by omega) (by omega) (by omega)) ?_
   rintro v w43 ⟨rfl, hU43⟩
   have:=hU43.size
   refine Qs 1 rfl (Za (Sn (Qs 1 rfl (Zf (v := .bool false) (Yh (a := 0) (b := 0) rfl rfl) (Za (Cf (Zi (Zl (Zf (Yf rfl rfl (show _ = (3 : Int) from by decide)) (Qs 1 rfl (Za (ZX (Sn (Zf (v := .bool true) (YL (a := 3) (b := 4) rfl rfl) (Za (Zz (Ct (Zi (Zz (Zs (Sn ?_)))))))))))))))))))))
   have hc44 : w43.cell? ⟨B11, 3, none⟩ = some (.func (.func 81) #[] #[.pointer (some ⟨B10, 0, none⟩), .pointer (some ⟨B5, 0, none⟩), .pointer (some ⟨B8, 0, none⟩)]) := (hs11.Zc hU43).cellc (i := 3) (by decide)
   refine Zf (Yl (b := B11) (off := 0) (m := 4) (c := 4) (o' := 3) underlying158 sizeOf153 rfl rfl (by omega) (by omega) (by omega)) (ZH isAgg153 rfl hc44 (Qs 1 rfl (Za (Sn (Qs 1 rfl ?_)))))
   replace hp := hp.Zc hU43
   replace hs := hs.Zc hU43
   replace HU := HU.Zb hU43
   replace hb1 := hb1.Zc hU43
   replace hO4 := hO4.Zc hU43
   replace hb5 := hb5.Zc hU43
   replace hbb17 := hbb17.Zc hU43
   replace hh23 := hh23.Zc hU43
   replace hp23 := hp23.Zc hU43
   by_cases q17 : bs.getD (p + 4) 0 % 2 = 1
   ·have hgp := Yw bs (p + 6) (by omega)
    have hg9 := gvar_9 bs (p + 6)
    by_cases q18 : (ZN bs (p + 6)).2.2 = 0
    ·refine Zj (Yz call81 rfl  (by first | (simp; done) | (simp; rfl))) (get4_do (nv := (ZN bs (p + 6)).1) (q := (ZN bs (p + 6)).2.1 - p) (er := 0) (b := bs.getD (p + 4) 0) (dv := 0) _ hb5 hbb17 hh23 hp23 (hO4.sl.cur (by intro h1; have h3 : ((w3.heap.size ≤ pb4 ∧ pb4 ≠ pb4) ∧ pb4 < w4.heap.size) := h1; first | omega | simp at h3)) (ZU (ZL hb _) _) (by omega) (by omega) (by omega) (by omega) (by omega) (gvar_cut0 (by omega) q18) (by omega)) ?_
     rintro v w45 ⟨rfl, hh45, hp45, hU45⟩
     have:=hU45.size
     have hbl_hh45 := hh45.lt
     have hbl_hp45 := hp45.lt
     refine Qs 1 rfl (Za (Sn (Qs 1 rfl (Zf (v := .bool false) (Yh (a := 0) (b := 0) rfl rfl) (Za (Cf (Zi (Zl (Zf (Yf rfl rfl (show _ = (4 : Int) from by decide)) (Qs 1 rfl (Za (ZX (Sn (Zf (v := .bool false) (YL (a := 4) (b := 4) rfl rfl) (Za (Zz (Cf (ZI (Sm (Qs 1 rfl (Zf (v := .bool false) (Yh (a := 0) (b := 0) rfl rfl) (Za (Cf (Zi (Sn (Zk isAgg5 rfl (hbb17.upd hU45) rfl (Zf (r_and rfl rfl (and2 (by omega) (by omega))) (Qs 1 rfl (Zf (Zo underlying34 rfl sizeOf4 rfl rfl) (Xc [.int .i64 (hw (bs.getD (p + 5) 0)), .int .i64 ((ZN bs (p + 6)).1), .int .u32 0, .bool (decide (((bs.getD (p + 4) 0) / 2 % 2 * 2) ≠ 0))] sizeOf4 rfl hh45 rfl rfl rfl rfl rfl ?_))))))))))))))))))))))))))))))
     intro w46 hU46 hzz46 hh45
     refine Za (Sn (Qs 1 rfl (Zk isAgg77 rfl ((hb5.upd hU45).Zh hU46) rfl (Zj (Zv rfl call42 rfl) (at_spec _ (hp45.Zh hU46) (by omega) (by omega) (by omega)) ?_))))
     rintro v w47 ⟨rfl, hU47⟩
     have:=hU47.size
     replace hp := ((hp.upd hU45).Zh hU46).Zc hU47
     replace hs := ((hs.upd hU45).Zh hU46).Zc hU47
     refine Zj (Zy rfl call75 rfl rfl) (cbytes_k _ hp (hs.cur (by intro h1; have h3 : (pb < w.heap.size ∧ pb ≠ pb) := h1; first | omega | simp at h3)) hb (by omega) (by omega) (by omega)) ?_
     rintro v w48 ⟨a48, c48, rfl, hp48, hO48, hU48⟩
     have:=hU48.size
     have hbl_hp48 := hp48.lt
     replace hO48 := hO48.tight
     have hl_hO48 := ZC hO48.sl
     have hc_hO48 := hO48.sl.cap.1
     refine Za (Sn (Xq [.int .i64 (hw (bs.getD (p + 5) 0)), .int .i64 ((ZN bs (p + 6)).1), .int .u32 0, .bool (decide (((bs.getD (p + 4) 0) / 2 % 2 * 2) ≠ 0))] isAgg34 sizeOf34 rfl ((hh45.Zc hU47).Zh hU48) rfl rfl ?_))
     replace hb1 := (((hb1.upd hU45).Zh hU46).Zc hU47).Zh hU48
     refine Xa sizeOf34 rfl rfl rfl rfl hb1 rfl ?_
     intro w49 hU49 hzz49 hb1
     refine Qs 1 rfl (Za (Zn (Zg (v := .tuple #[.agg #[.int .i64 (hw (bs.getD (p + 5) 0)), .int .i64 ((ZN bs (p + 6)).1), .int .u32 0, .bool (decide (((bs.getD (p + 4) 0) / 2 % 2 * 2) ≠ 0))], .int .i64 0]) rfl (YS results48 rfl rfl (Zu isAgg34 sizeOf34 rfl hb1)) ?_)))
     have HD := hdict_skip q8
     have HQ : (ZV bs p).2.1 = p + 6 := by rw [HD]
     have HV : (ZV bs p).1 = 0 := by rw [HD]
     have HS := hsize_do (q := p + 6) q17
     have HG := gh_ok HM (by omega) (by omega) (by omega) (by rw [HD]) (fun h => q8 h.1) (by rw [HQ, HS]; exact q18)
     rw [HQ, HS, HV] at HG
     replace hp48 := hp48.Zh hU49
     exact ⟨_, rfl, (Yx (by first | (rw [HG]; rfl) | (rw [HG, show (decide ((bs.getD (p + 4) 0) / 2 % 2 * 2 ≠ 0)) = decide ((bs.getD (p + 4) 0) / 2 % 2 = 1) from by rw [decide_eq_decide]; omega]; simp) | (rw [HG]; simp)) (by simp [HG])), (by rw [HG]; first | (simpa using hp48) | (dsimp only; rw [show (ZN bs (p + 6)).2.1 = p + ((ZN bs (p + 6)).2.1 - p) from by omega]; exact hp48) | (dsimp only; rw [show (ZN bs (p + 10)).2.1 = p + ((ZN bs (p + 10)).2.1 - p) from by omega]; exact hp48)), (((((HU.trans hU45).Zr hU46).Zb hU47).Zr hU48).Zr hU49)⟩
    refine Zj (Yz call81 rfl  (by first | (simp; done) | (simp; rfl))) (get4_do (nv := (ZN bs (p + 6)).1) (q := 6) (er := (ZN bs (p + 6)).2.2) (b := bs.getD (p + 4) 0) (dv := 0) _ hb5 hbb17 hh23 hp23 (hO4.sl.cur (by intro h1; have h3 : ((w3.heap.size ≤ pb4 ∧ pb4 ≠ pb4) ∧ pb4 < w4.heap.size) := h1; first | omega | simp at h3)) (ZU (ZL hb _) _) (by omega) (by omega) (by omega) (by omega) (by omega) (gvar_cutE (by omega) q18) (by omega)) ?_
    rintro v w50 ⟨rfl, hh50, hp50, hU50⟩
    have:=hU50.size
    have hbl_hh50 := hh50.lt
    have hbl_hp50 := hp50.lt
    refine Qs 1 rfl (Za (Sn (Qs 2 rfl (Za ?_))))
    have q19 : ((ZN bs (p + 6)).2.2) ≠ 0 := q18
    rw [decide_eq_true q19]
    refine Ct (ZI (Sm (Qs 2 rfl (Za ?_))))
    have q20 : ((ZN bs (p + 6)).2.2) ≠ 0 := q19
    rw [decide_eq_true q20]
    refine Ct (Sn (Zf (ZF (pl := #[(0, 1), (1, 1), (2, 1), (3, 1)]) (pv := []) (cs := #[.int .i64 0, .int .i64 0, .int .u32 0, .bool false]) zeroValue34 underlying34 (fun w => by kernel_rfl)) (Qs 1 rfl ?_)))
    replace hb1 := hb1.upd hU50
    refine Xa sizeOf34 rfl rfl rfl rfl hb1 rfl ?_
    intro w51 hU51 hzz51 hb1
    refine Qs 1 rfl (Za (Zn (Zg (v := .tuple #[.agg #[.int .i64 0, .int .i64 0, .int .u32 0, .bool false], .int .i64 ((ZN bs (p + 6)).2.2)]) rfl (YS results48 rfl rfl (Zu isAgg34 sizeOf34 rfl hb1)) ?_)))
    have HD := hdict_skip q8
    have HQ : (ZV bs p).2.1 = p + 6 := by rw [HD]
    have HV : (ZV bs p).1 = 0 := by rw [HD]
    have HS := hsize_do (q := p + 6) q17
    have HG := gh_size HM (by omega) (by omega) (by omega) (by rw [HD]) (fun h => q8 h.1) (by rw [HQ, HS]; exact q18)
    rw [HQ, HS] at HG
    replace hp := (hp.upd hU50).Zh hU51
    exact ⟨_, rfl, (Yx (by first | (rw [HG]; rfl) | (rw [HG, show (decide ((bs.getD (p + 4) 0) / 2 % 2 * 2 ≠ 0)) = decide ((bs.getD (p + 4) 0) / 2 % 2 = 1) from by rw [decide_eq_decide]; omega]; simp) | (rw [HG]; simp)) (by simp [HG])), (by rw [HG]; first | (simpa using hp) | (dsimp only; rw [show (ZN bs (p + 6)).2.1 = p + ((ZN bs (p + 6)).2.1 - p) from by omega]; exact hp) | (dsimp only; rw [show (ZN bs (p + 10)).2.1 = p + ((ZN bs (p + 10)).2.1 - p) from by omega]; exact hp)), ((HU.trans hU50).Zr hU51)⟩
   refine Zj (Yz call81 rfl  (by first | (simp; done) | (simp; rfl))) (get4_skip (dv := 0) _ hb5 hbb17 hh23 hp23 (hO4.sl.cur (by intro h1; have h3 : ((w3.heap.size ≤ pb4 ∧ pb4 ≠ pb4) ∧ pb4 < w4.heap.size) := h1; first | omega | simp at h3)) (ZU (ZL hb _) _) (by omega) (by omega) (by omega) (by omega) (by omega)) ?_
   rintro v w52 ⟨rfl, hU52⟩
   have:=hU52.size
   refine Qs 1 rfl (Za (Sn (Qs 1 rfl (Zf (v := .bool false) (Yh (a := 0) (b := 0) rfl rfl) (Za (Cf (Zi (Zl (Zf (Yf rfl rfl (show _ = (4 : Int) from by decide)) (Qs 1 rfl (Za (ZX (Sn (Zf (v := .bool false) (YL (a := 4) (b := 4) rfl rfl) (Za (Zz (Cf (ZI (Sm (Qs 1 rfl (Zf (v := .bool false) (Yh (a := 0) (b := 0) rfl rfl) (Za (Cf (Zi (Sn (Zk isAgg5 rfl (hbb17.Zc hU52) rfl (Zf (r_and rfl rfl (and2 (by omega) (by omega))) (Qs 1 rfl (Zf (Zo underlying34 rfl sizeOf4 rfl rfl) ?_)))))))))))))))))))))))))))))
   replace hh23 := hh23.Zc hU52
   refine Xc [.int .i64 (hw (bs.getD (p + 5) 0)), .int .i64 (-1), .int .u32 0, .bool (decide (((bs.getD (p + 4) 0) / 2 % 2 * 2) ≠ 0))] sizeOf4 rfl hh23 rfl rfl rfl rfl rfl ?_
   intro w53 hU53 hzz53 hh23
   refine Za (Sn (Qs 1 rfl (Zk isAgg77 rfl ((hb5.Zc hU52).Zh hU53) rfl (Zj (Zv rfl call42 rfl) (at_spec _ ((hp23.Zc hU52).Zh hU53) (by omega) (by omega) (by omega)) ?_))))
   rintro v w54 ⟨rfl, hU54⟩
   have:=hU54.size
   replace hp := ((hp.Zc hU52).Zh hU53).Zc hU54
   replace hs := ((hs.Zc hU52).Zh hU53).Zc hU54
   refine Zj (Zy rfl call75 rfl rfl) (cbytes_k _ hp (hs.cur (by intro h1; have h3 : (pb < w.heap.size ∧ pb ≠ pb) := h1; first | omega | simp at h3)) hb (by omega) (by omega) (by omega)) ?_
   rintro v w55 ⟨a55, c55, rfl, hp55, hO55, hU55⟩
   have:=hU55.size
   have hbl_hp55 := hp55.lt
   replace hO55 := hO55.tight
   have hl_hO55 := ZC hO55.sl
   have hc_hO55 := hO55.sl.cap.1
   refine Za (Sn (Xq [.int .i64 (hw (bs.getD (p + 5) 0)), .int .i64 (-1), .int .u32 0, .bool (decide (((bs.getD (p + 4) 0) / 2 % 2 * 2) ≠ 0))] isAgg34 sizeOf34 rfl ((hh23.Zc hU54).Zh hU55) rfl rfl ?_))
   replace hb1 := (((hb1.Zc hU52).Zh hU53).Zc hU54).Zh hU55
   refine Xa sizeOf34 rfl rfl rfl rfl hb1 rfl ?_
   intro w56 hU56 hzz56 hb1
   refine Qs 1 rfl (Za (Zn (Zg (v := .tuple #[.agg #[.int .i64 (hw (bs.getD (p + 5) 0)), .int .i64 (-1), .int .u32 0, .bool (decide (((bs.getD (p + 4) 0) / 2 % 2 * 2) ≠ 0))], .int .i64 0]) rfl (YS results48 rfl rfl (Zu isAgg34 sizeOf34 rfl hb1)) ?_)))
   have HD := hdict_skip q8
   have HQ : (ZV bs p).2.1 = p + 6 := by rw [HD]
   have HV : (ZV bs p).1 = 0 := by rw [HD]
   have HS := hsize_skip (q := p + 6) q17
   have HG := gh_ok HM (by omega) (by omega) (by omega) (by rw [HD]) (fun h => q8 h.1) (by rw [HQ, HS])
   rw [HQ, HS, HV] at HG
   replace hp55 := hp55.Zh hU56
   exact ⟨_, rfl, (Yx (by first | (rw [HG]; rfl) | (rw [HG, show (decide ((bs.getD (p + 4) 0) / 2 % 2 * 2 ≠ 0)) = decide ((bs.getD (p + 4) 0) / 2 % 2 = 1) from by rw [decide_eq_decide]; omega]; simp) | (rw [HG]; simp)) (by simp [HG])), (by rw [HG]; first | (simpa using hp55) | (dsimp only; rw [show (ZN bs (p + 6)).2.1 = p + ((ZN bs (p + 6)).2.1 - p) from by omega]; exact hp55) | (dsimp only; rw [show (ZN bs (p + 10)).2.1 = p + ((ZN bs (p + 10)).2.1 - p) from by omega]; exact hp55)), (((((HU.Zb hU52).Zr hU53).Zb hU54).Zr hU55).Zr hU56)⟩
  rw [decide_eq_false q2]
  simp only [Bool.not_true, Bool.not_false]
  refine Ct (Zl (Qs 1 rfl (Za (Sm (Qs 1 rfl (Zf (v := .bool true) (Yh (a := 6) (b := 0) rfl rfl) (Za (Ct (Sn (Zf (ZF (pl := #[(0, 1), (1, 1), (2, 1), (3, 1)]) (pv := []) (cs := #[.int .i64 0, .int .i64 0, .int .u32 0, .bool false]) zeroValue34 underlying34 (fun w => by kernel_rfl)) (Qs 1 rfl (Xa sizeOf34 rfl rfl rfl rfl hb1 rfl ?_))))))))))))
  intro w57 hU57 hzz57 hb1
  refine Qs 1 rfl (Za (Zn (Zg (v := .tuple #[.agg #[.int .i64 0, .int .i64 0, .int .u32 0, .bool false], .int .i64 6]) rfl (YS results48 rfl rfl (Zu isAgg34 sizeOf34 rfl hb1)) ?_)))
  have HG := gh_kind (bs := bs) (p := p) q1 q2
  replace hp := hp.Zh hU57
  exact ⟨_, rfl, (Yx (by first | (rw [HG]; rfl) | (rw [HG, show (decide ((bs.getD (p + 4) 0) / 2 % 2 * 2 ≠ 0)) = decide ((bs.getD (p + 4) 0) / 2 % 2 = 1) from by rw [decide_eq_decide]; omega]; simp) | (rw [HG]; simp)) (by simp [HG])), (by rw [HG]; first | (simpa using hp) | (dsimp only; rw [show (ZN bs (p + 6)).2.1 = p + ((ZN bs (p + 6)).2.1 - p) from by omega]; exact hp) | (dsimp only; rw [show (ZN bs (p + 10)).2.1 = p + ((ZN bs (p + 10)).2.1 - p) from by omega]; exact hp)), (HU.Zr hU57)⟩
 rw [decide_eq_false q1]
 refine Gf (Gf (Zf (Zw (v := .bool false) rfl rfl) (Za (Cf (Zi (Sm (Qs 2 rfl (Za ?_))))))))
 have q21 : ((hmk bs p).2) ≠ 0 := q1
 rw [decide_eq_true q21]
 refine Ct (Sn (Zf (ZF (pl := #[(0, 1), (1, 1), (2, 1), (3, 1)]) (pv := []) (cs := #[.int .i64 0, .int .i64 0, .int .u32 0, .bool false]) zeroValue34 underlying34 (fun w => by kernel_rfl)) (Qs 1 rfl (Xa sizeOf34 rfl rfl rfl rfl hb1 rfl ?_))))
 intro w58 hU58 hzz58 hb1
 refine Qs 1 rfl (Za (Zn (Zg (v := .tuple #[.agg #[.int .i64 0, .int .i64 0, .int .u32 0, .bool false], .int .i64 ((hmk bs p).2)]) rfl (YS results48 rfl rfl (Zu isAgg34 sizeOf34 rfl hb1)) ?_)))
 have HG := gh_mk (bs := bs) (p := p) q1
 replace hp := hp.Zh hU58
 exact ⟨_, rfl, (Yx (by first | (rw [HG]; rfl) | (rw [HG, show (decide ((bs.getD (p + 4) 0) / 2 % 2 * 2 ≠ 0)) = decide ((bs.getD (p + 4) 0) / 2 % 2 = 1) from by rw [decide_eq_decide]; omega]; simp) | (rw [HG]; simp)) (by simp [HG])), (by rw [HG]; first | (simpa using hp) | (dsimp only; rw [show (ZN bs (p + 6)).2.1 = p + ((ZN bs (p + 6)).2.1 - p) from by omega]; exact hp) | (dsimp only; rw [show (ZN bs (p + 10)).2.1 = p + ((ZN bs (p + 10)).2.1 - p) from by omega]; exact hp)), (HU.Zr hU58)⟩
theorem rget38 {a : Option Addr} {n c p : Nat} {bs : List Int} (w : World) (hs : Sl w (fun g => g < w.heap.size) 1 (.slice a n c) n (ints .u8 bs)) (hb : Byt bs) (hpn : p ≤ n) (hn : n ≤ 140737488355328) :
  Calls Tryz.prog 30 #[.slice a n c, .int .i64 p] w (Ret fun v w' => v = .tuple #[.agg #[.int .i64 ((ZA bs p).1.1), .int .i64 ((ZA bs p).1.2.1), .int .u32 ((ZA bs p).1.2.2.1), .bool (decide ((ZA bs p).1.2.2.2 = true))], .int .i64 (((ZA bs p).2.1 : Nat) : Int), .int .i64 ((ZA bs p).2.2)] ∧ Upd No w w') := by
 have HU := Upd.Yo w
 have hl_hs := ZC hs
 have hc_hs := hs.cap.1
 refine Zq func30 rfl ntmps30 (by simp) (Sn (ZB zeroValue34 rfl ?_))
 intro B1 w1 hB1 hU1 hzz1 hb1
 refine Qs 2 rfl (Za (Sn (Qs 2 rfl ?_)))
 replace hs := hs.Zc hU1
 refine Zj (Zy rfl call13 rfl rfl) (rmark _ hs.any hb (by omega) (by omega)) ?_
 rintro v w2 ⟨rfl, hU2⟩
 have:=hU2.size
 refine Qs 5 rfl (Za (Sm (Qs 2 rfl (Za ?_))))
 replace HU := (HU.Zb hU1).Zb hU2
 replace hb1 := hb1.Zc hU2
 refine W_if rfl (fun q1 => ?_) fun q1 => ?_
 ·refine Sn (Zf (ZF (pl := #[(0, 1), (1, 1), (2, 1), (3, 1)]) (pv := []) (cs := #[.int .i64 0, .int .i64 0, .int .u32 0, .bool false]) zeroValue34 underlying34 (fun w => by kernel_rfl)) (Qs 2 rfl (Xa sizeOf34 rfl rfl rfl rfl hb1 rfl ?_)))
  intro w3 hU3 hzz3 hb1
  refine Qs 2 rfl (Za (Zn (Zg (v := .tuple #[.agg #[.int .i64 0, .int .i64 0, .int .u32 0, .bool false], .int .i64 p, .int .i64 ((hmk bs p).2)]) rfl (Yb results30 rfl rfl rfl (Zu isAgg34 sizeOf34 rfl hb1)) ?_)))
  have HG := gh_mk (bs := bs) (p := p) q1
  exact ⟨_, rfl, (Y6 (by first | (rw [HG]; rfl) | (rw [HG]; simp)) (Zt (by rw [HG]; first | done | rfl | (dsimp only; omega))) (by simp [HG])), (HU.t1 hU3)⟩
 refine Zi (Sm (Qs 2 rfl (Za ?_)))
 by_cases q2 : ((hmk bs p).1) ≠ 1
 ·rw [decide_eq_true q2]
  refine Ct (Sn (Zf (ZF (pl := #[(0, 1), (1, 1), (2, 1), (3, 1)]) (pv := []) (cs := #[.int .i64 0, .int .i64 0, .int .u32 0, .bool false]) zeroValue34 underlying34 (fun w => by kernel_rfl)) (Qs 1 rfl (Xa sizeOf34 rfl rfl rfl rfl hb1 rfl ?_))))
  intro w4 hU4 hzz4 hb1
  refine Qs 2 rfl (Za (Zn (Zg (v := .tuple #[.agg #[.int .i64 0, .int .i64 0, .int .u32 0, .bool false], .int .i64 p, .int .i64 6]) rfl (Yb results30 rfl rfl rfl (Zu isAgg34 sizeOf34 rfl hb1)) ?_)))
  have HG := gh_kind (bs := bs) (p := p) (Classical.not_not.1 q1) q2
  exact ⟨_, rfl, (Y6 (by first | (rw [HG]; rfl) | (rw [HG]; simp)) (Zt (by rw [HG]; first | done | rfl | (dsimp only; omega))) (by simp [HG])), (HU.t1 hU4)⟩
 have HM : Hm bs p := ⟨(Classical.not_not.1 q1), (Classical.not_not.1 q2)⟩
 have hml := Hm_len HM
 have hq4_ := Yi hb (p + 4)
 have hq5_ := Yi hb (p + 5)
 rw [decide_eq_false q2]
 refine Cf (Zi (Sm (Qs 1 rfl (Zf (ZM underlying22 rfl) (Qs 1 rfl (Xs rfl rfl (Qs 1 rfl (Za (W_if rfl (fun q3 => ?_) fun q3 => ?_)))))))))
 ·refine Sn (Zf (ZF (pl := #[(0, 1), (1, 1), (2, 1), (3, 1)]) (pv := []) (cs := #[.int .i64 0, .int .i64 0, .int .u32 0, .bool false]) zeroValue34 underlying34 (fun w => by kernel_rfl)) (Qs 1 rfl (Xa sizeOf34 rfl rfl rfl rfl hb1 rfl ?_)))
  intro w5 hU5 hzz5 hb1
  refine Qs 2 rfl (Za (Zn (Zg (v := .tuple #[.agg #[.int .i64 0, .int .i64 0, .int .u32 0, .bool false], .int .i64 p, .int .i64 3]) rfl (Yb results30 rfl rfl rfl (Zu isAgg34 sizeOf34 rfl hb1)) ?_)))
  have HG := gh_5 HM (by omega)
  exact ⟨_, rfl, (Y6 (by first | (rw [HG]; rfl) | (rw [HG]; simp)) (Zt (by rw [HG]; first | done | rfl | (dsimp only; omega))) (by simp [HG])), (HU.t1 hU5)⟩
 refine Zi (Sn (Qs 2 rfl (Xd rfl rfl ?_)))
 replace hs := hs.Zc hU2
 refine Z7 underlying22 sizeOf5 rfl rfl hs (by omega) (by omega) ?_
 intro ib6 io6 hc6
 rw [show ((p : Int) + 4).toNat = (p + 4) from by omega] at hc6
 refine ZH isAgg5 rfl hc6 (Qs 1 rfl (Za (Sm (Qs 2 rfl (Za (W_if rfl (fun q4 => ?_) fun q4 => ?_))))))
 ·refine Sn (Zf (ZF (pl := #[(0, 1), (1, 1), (2, 1), (3, 1)]) (pv := []) (cs := #[.int .i64 0, .int .i64 0, .int .u32 0, .bool false]) zeroValue34 underlying34 (fun w => by kernel_rfl)) (Qs 1 rfl (Xa sizeOf34 rfl rfl rfl rfl hb1 rfl ?_)))
  intro w7 hU7 hzz7 hb1
  refine Qs 2 rfl (Za (Zn (Zg (v := .tuple #[.agg #[.int .i64 0, .int .i64 0, .int .u32 0, .bool false], .int .i64 p, .int .i64 7]) rfl (Yb results30 rfl rfl rfl (Zu isAgg34 sizeOf34 rfl hb1)) ?_)))
  have HG := gh_bits HM (by omega) (by omega)
  exact ⟨_, rfl, (Y6 (by first | (rw [HG]; rfl) | (rw [HG]; simp)) (Zt (by rw [HG]; first | done | rfl | (dsimp only; omega))) (by simp [HG])), (HU.t1 hU7)⟩
 refine Zi (Sm (Qs 1 rfl (Zf (ZM underlying22 rfl) (Qs 1 rfl (Xs rfl rfl (Qs 1 rfl (Za (W_if rfl (fun q5 => ?_) fun q5 => ?_))))))))
 ·refine Sn (Zf (ZF (pl := #[(0, 1), (1, 1), (2, 1), (3, 1)]) (pv := []) (cs := #[.int .i64 0, .int .i64 0, .int .u32 0, .bool false]) zeroValue34 underlying34 (fun w => by kernel_rfl)) (Qs 1 rfl (Xa sizeOf34 rfl rfl rfl rfl hb1 rfl ?_)))
  intro w8 hU8 hzz8 hb1
  refine Qs 2 rfl (Za (Zn (Zg (v := .tuple #[.agg #[.int .i64 0, .int .i64 0, .int .u32 0, .bool false], .int .i64 p, .int .i64 3]) rfl (Yb results30 rfl rfl rfl (Zu isAgg34 sizeOf34 rfl hb1)) ?_)))
  have HG := gh_6 HM (by omega) (by omega) (by omega)
  exact ⟨_, rfl, (Y6 (by first | (rw [HG]; rfl) | (rw [HG]; simp)) (Zt (by rw [HG]; first | done | rfl | (dsimp only; omega))) (by simp [HG])), (HU.t1 hU8)⟩
 refine Zi (Sn (Qs 2 rfl (Xd rfl rfl (Z7 underlying22 sizeOf5 rfl rfl hs (by omega) (by omega) ?_))))
 intro ib9 io9 hc9
 rw [show ((p : Int) + 5).toNat = (p + 5) from by omega] at hc9
 refine ZH isAgg5 rfl hc9 (Zj (Zv rfl call54 rfl) (rwindow _ (by omega)) ?_)
 rintro v w10 ⟨rfl, hU10⟩
 have:=hU10.size
 refine Qs 1 rfl (Zf (YT rfl rfl (by omega) (tq (by omega) (wu8 (by omega) (by omega)))) (Zf (YW rfl rfl (by omega) (tr (by omega))) (Qs 1 rfl (Zf (ZF (pl := #[(0, 1), (1, 1), (2, 1), (3, 1)]) (pv := [(0, .int .i64 (hw (bs.getD (p + 5) 0))), (1, .int .i64 (-1)), (3, .bool (decide ((((bs.getD (p + 4) 0) / 2) % 2) = 1)))]) (cs := #[.int .i64 (hw (bs.getD (p + 5) 0)), .int .i64 (-1), .int .u32 0, .bool (decide ((((bs.getD (p + 4) 0) / 2) % 2) = 1))]) zeroValue34 underlying34 (fun w => by kernel_rfl)) (ZB zeroValue34 rfl ?_)))))
 intro B11 w11 hB11 hU11 hzz11 hb11
 refine Xa sizeOf34 rfl rfl rfl rfl hb11 rfl ?_
 intro w12 hU12 hzz12 hb11
 refine Za (Sm (Zf (Zo underlying34 rfl sizeOf3 rfl rfl) (Zk isAgg3 rfl hb11 rfl (Qs 1 rfl (Za ?_)))))
 replace HU := ((HU.Zb hU10).Zb hU11).t1 hU12
 replace hb1 := ((hb1.Zc hU10).Zc hU11).Zh hU12
 by_cases q6 : (hw (bs.getD (p + 5) 0)) = 0
 ·rw [decide_eq_true q6]
  refine Ct (Sn (Zf (ZF (pl := #[(0, 1), (1, 1), (2, 1), (3, 1)]) (pv := []) (cs := #[.int .i64 0, .int .i64 0, .int .u32 0, .bool false]) zeroValue34 underlying34 (fun w => by kernel_rfl)) (Qs 1 rfl (Xa sizeOf34 rfl rfl rfl rfl hb1 rfl ?_))))
  intro w13 hU13 hzz13 hb1
  refine Qs 2 rfl (Za (Zn (Zg (v := .tuple #[.agg #[.int .i64 0, .int .i64 0, .int .u32 0, .bool false], .int .i64 p, .int .i64 7]) rfl (Yb results30 rfl rfl rfl (Zu isAgg34 sizeOf34 rfl hb1)) ?_)))
  have HG := gh_win HM (by omega) (by omega) (by omega) q6
  exact ⟨_, rfl, (Y6 (by first | (rw [HG]; rfl) | (rw [HG]; simp)) (Zt (by rw [HG]; first | done | rfl | (dsimp only; omega))) (by simp [HG])), (HU.t1 hU13)⟩
 have hwp := hw_pt hq5_.1 hq5_.2
 rw [decide_eq_false q6]
 refine Cf (Zi (Sn (Qs 1 rfl (Xd rfl rfl (Qs 1 rfl (Za (Sm (Qs 1 rfl (Zf (YT rfl rfl (by omega) (tq (by omega) (wu8 (by omega) (by omega)))) (Qs 1 rfl (Za ?_)))))))))))
 replace hs := ((hs.Zc hU10).Zc hU11).Zh hU12
 refine W_if rfl (fun q7 => ?_) fun q7 => ?_
 ·refine Sn (Qs 2 rfl (Zj (Zy rfl call28 (v1 := .int .i64 ((p + 6 : Nat) : Int)) rfl Zt) (rgetword_spec _ hs.any hb (by omega) (by omega)) ?_))
  rintro v w14 ⟨rfl, hU14⟩
  have:=hU14.size
  refine Qs 4 rfl (Zf (Zo underlying34 rfl sizeOf32 rfl rfl) ?_)
  replace hb11 := hb11.Zc hU14
  refine Xc [.int .i64 (hw (bs.getD (p + 5) 0)), .int .i64 (-1), .int .u32 ((ZE bs (p + 6)).1), .bool (decide ((((bs.getD (p + 4) 0) / 2) % 2) = 1))] sizeOf32 rfl hb11 rfl rfl rfl rfl rfl ?_
  intro w15 hU15 hzz15 hb11
  refine Qs 2 rfl (Za (Sm (Qs 2 rfl (Za ?_))))
  replace HU := (HU.Zb hU14).t1 hU15
  replace hb1 := (hb1.Zc hU14).Zh hU15
  refine W_if rfl (fun q8 => ?_) fun q8 => ?_
  ·refine Sn (Zf (ZF (pl := #[(0, 1), (1, 1), (2, 1), (3, 1)]) (pv := []) (cs := #[.int .i64 0, .int .i64 0, .int .u32 0, .bool false]) zeroValue34 underlying34 (fun w => by kernel_rfl)) (Qs 2 rfl (Xa sizeOf34 rfl rfl rfl rfl hb1 rfl ?_)))
   intro w16 hU16 hzz16 hb1
   refine Qs 2 rfl (Za (Zn (Zg (v := .tuple #[.agg #[.int .i64 0, .int .i64 0, .int .u32 0, .bool false], .int .i64 p, .int .i64 ((ZE bs (p + 6)).2.2)]) rfl (Yb results30 rfl rfl rfl (Zu isAgg34 sizeOf34 rfl hb1)) ?_)))
   have HD := Y0 q7
   have HG := gh_dict HM (by omega) (by omega) q6 (by rw [HD]; exact q8)
   rw [HD] at HG
   exact ⟨_, rfl, (Y6 (by first | (rw [HG]; rfl) | (rw [HG]; simp)) (Zt (by rw [HG]; first | done | rfl | (dsimp only; omega))) (by simp [HG])), (HU.t1 hU16)⟩
  refine Zi (Sn (Zf (Zo underlying34 rfl sizeOf32 rfl rfl) (Zk isAgg32 rfl hb11 rfl (Qs 1 rfl (Za ?_)))))
  by_cases q9 : ((ZE bs (p + 6)).1) = 0
  ·rw [decide_eq_true q9]
   refine Ct (Sn (Zf (ZF (pl := #[(0, 1), (1, 1), (2, 1), (3, 1)]) (pv := []) (cs := #[.int .i64 0, .int .i64 0, .int .u32 0, .bool false]) zeroValue34 underlying34 (fun w => by kernel_rfl)) (Qs 1 rfl (Xa sizeOf34 rfl rfl rfl rfl hb1 rfl ?_))))
   intro w17 hU17 hzz17 hb1
   refine Qs 2 rfl (Za (Zn (Zg (v := .tuple #[.agg #[.int .i64 0, .int .i64 0, .int .u32 0, .bool false], .int .i64 p, .int .i64 7]) rfl (Yb results30 rfl rfl rfl (Zu isAgg34 sizeOf34 rfl hb1)) ?_)))
   have HD := Y0 q7
   have HG := gh_zero HM (by omega) (by omega) q6 (by rw [HD]; exact (Classical.not_not.1 q8)) ⟨q7, by rw [HD]; exact q9⟩
   exact ⟨_, rfl, (Y6 (by first | (rw [HG]; rfl) | (rw [HG]; simp)) (Zt (by rw [HG]; first | done | rfl | (dsimp only; omega))) (by simp [HG])), (HU.t1 hU17)⟩
  have hgi := YD (bs := bs) (Classical.not_not.1 q8)
  rw [decide_eq_false q9]
  refine Cf (Zi (Sm (Qs 1 rfl (Zf (YW rfl rfl (by omega) (tr (by omega))) (Qs 1 rfl (Za (W_if rfl (fun q10 => ?_) fun q10 => ?_)))))))
  ·refine Sn (Qs 2 rfl (Zj (Zy rfl call55 (v1 := .int .i64 ((p + 10 : Nat) : Int)) rfl Zt) (rget_spec _ ((hs.Zc hU14).Zh hU15).any hb (by omega) (by omega)) ?_))
   rintro v w18 ⟨rfl, hU18⟩
   have:=hU18.size
   have hgp := Yw bs (p + 10) (by omega)
   refine Qs 7 rfl (Za (Sm (Qs 2 rfl (Za ?_))))
   replace HU := HU.Zb hU18
   replace hb1 := hb1.Zc hU18
   refine W_if rfl (fun q11 => ?_) fun q11 => ?_
   ·refine Sn (Zf (ZF (pl := #[(0, 1), (1, 1), (2, 1), (3, 1)]) (pv := []) (cs := #[.int .i64 0, .int .i64 0, .int .u32 0, .bool false]) zeroValue34 underlying34 (fun w => by kernel_rfl)) (Qs 2 rfl (Xa sizeOf34 rfl rfl rfl rfl hb1 rfl ?_)))
    intro w19 hU19 hzz19 hb1
    refine Qs 2 rfl (Za (Zn (Zg (v := .tuple #[.agg #[.int .i64 0, .int .i64 0, .int .u32 0, .bool false], .int .i64 p, .int .i64 ((ZN bs (p + 10)).2.2)]) rfl (Yb results30 rfl rfl rfl (Zu isAgg34 sizeOf34 rfl hb1)) ?_)))
    have HD := Y0 q7
    have hgi := YD (bs := bs) (Classical.not_not.1 q8)
    have HQ : (ZV bs p).2.1 = p + 10 := by rw [HD]; omega
    have HV : (ZV bs p).1 = (ZE bs (p + 6)).1 := by rw [HD]
    have HS := hsize_do (q := p + 10) q10
    have HG := gh_size HM (by omega) (by omega) q6 (by rw [HD]; exact (Classical.not_not.1 q8)) (fun h => by rw [HD] at h; exact q9 h.2) (by rw [HQ, HS]; exact q11)
    rw [HQ, HS] at HG
    exact ⟨_, rfl, (Y6 (by first | (rw [HG]; rfl) | (rw [HG]; simp)) (Zt (by rw [HG]; first | done | rfl | (dsimp only; omega))) (by simp [HG])), (HU.t1 hU19)⟩
   refine Zi (Zl (Qs 1 rfl (Zf (ZZ underlying101 underlying3 rfl ZY) (Qs 1 rfl (Zf (Zo underlying34 rfl sizeOf3 rfl rfl) ?_)))))
   replace hb11 := hb11.Zc hU18
   refine Xc [.int .i64 (hw (bs.getD (p + 5) 0)), .int .i64 ((ZN bs (p + 10)).1), .int .u32 ((ZE bs (p + 6)).1), .bool (decide ((((bs.getD (p + 4) 0) / 2) % 2) = 1))] sizeOf3 rfl hb11 rfl rfl rfl rfl rfl ?_
   intro w20 hU20 hzz20 hb11
   refine Qs 1 rfl (Za (Sn (Xl isAgg34 sizeOf34 rfl hb11 rfl (Qs 1 rfl ?_))))
   replace hb1 := hb1.Zh hU20
   refine Xa sizeOf34 rfl rfl rfl rfl hb1 rfl ?_
   intro w21 hU21 hzz21 hb1
   refine Qs 2 rfl (Za (Zn (Zg (v := .tuple #[.agg #[.int .i64 (hw (bs.getD (p + 5) 0)), .int .i64 ((ZN bs (p + 10)).1), .int .u32 ((ZE bs (p + 6)).1), .bool (decide ((((bs.getD (p + 4) 0) / 2) % 2) = 1))], .int .i64 (((ZN bs (p + 10)).2.1 : Nat) : Int), .int .i64 0]) rfl (Yb results30 rfl rfl rfl (Zu isAgg34 sizeOf34 rfl hb1)) ?_)))
   have HD := Y0 q7
   have hgi := YD (bs := bs) (Classical.not_not.1 q8)
   have HQ : (ZV bs p).2.1 = p + 10 := by rw [HD]; omega
   have HV : (ZV bs p).1 = (ZE bs (p + 6)).1 := by rw [HD]
   have HS := hsize_do (q := p + 10) q10
   have HG := gh_ok HM (by omega) (by omega) q6 (by rw [HD]; exact (Classical.not_not.1 q8)) (fun h => by rw [HD] at h; exact q9 h.2) (by rw [HQ, HS]; exact (Classical.not_not.1 q11))
   rw [HQ, HS, HV] at HG
   exact ⟨_, rfl, (Y6 (by first | (rw [HG]; rfl) | (rw [HG]; simp)) (Zt (by rw [HG]; first | done | rfl | (dsimp only; omega))) (by simp [HG])), ((HU.t1 hU20).t1 hU21)⟩
  refine Zi (Sn (Xl isAgg34 sizeOf34 rfl hb11 rfl (Qs 1 rfl (Xa sizeOf34 rfl rfl rfl rfl hb1 rfl ?_))))
  intro w22 hU22 hzz22 hb1
  refine Qs 2 rfl (Za (Zn (Zg (v := .tuple #[.agg #[.int .i64 (hw (bs.getD (p + 5) 0)), .int .i64 (-1), .int .u32 ((ZE bs (p + 6)).1), .bool (decide ((((bs.getD (p + 4) 0) / 2) % 2) = 1))], .int .i64 (((ZE bs (p + 6)).2.1 : Nat) : Int), .int .i64 0]) rfl (Yb results30 rfl rfl rfl (Zu isAgg34 sizeOf34 rfl hb1)) ?_)))
  have HD := Y0 q7
  have hgi := YD (bs := bs) (Classical.not_not.1 q8)
  have HQ : (ZV bs p).2.1 = p + 10 := by rw [HD]; omega
  have HV : (ZV bs p).1 = (ZE bs (p + 6)).1 := by rw [HD]
  have HS := hsize_skip (q := p + 10) q10
  have HG := gh_ok HM (by omega) (by omega) q6 (by rw [HD]; exact (Classical.not_not.1 q8)) (fun h => by rw [HD] at h; exact q9 h.2) (by rw [HQ, HS])
  rw [HQ, HS, HV] at HG
  exact ⟨_, rfl, (Y6 (by first | (rw [HG]; rfl) | (rw [HG]; simp)) (Zt (by rw [HG]; first | done | rfl | (dsimp only; omega))) (by simp [HG])), (HU.t1 hU22)⟩
 refine Zi (Sm (Qs 1 rfl (Zf (YW rfl rfl (by omega) (tr (by omega))) (Qs 1 rfl (Za (W_if rfl (fun q12 => ?_) fun q12 => ?_))))))
 ·refine Sn (Qs 2 rfl (Zj (Zy rfl call55 (v1 := .int .i64 ((p + 6 : Nat) : Int)) rfl Zt) (rget_spec _ hs.any hb (by omega) (by omega)) ?_))
  rintro v w23 ⟨rfl, hU23⟩
  have:=hU23.size
  have hgp := Yw bs (p + 6) (by omega)
  refine Qs 7 rfl (Za (Sm (Qs 2 rfl (Za ?_))))
  replace HU := HU.Zb hU23
  replace hb1 := hb1.Zc hU23
  refine W_if rfl (fun q13 => ?_) fun q13 => ?_
  ·refine Sn (Zf (ZF (pl := #[(0, 1), (1, 1), (2, 1), (3, 1)]) (pv := []) (cs := #[.int .i64 0, .int .i64 0, .int .u32 0, .bool false]) zeroValue34 underlying34 (fun w => by kernel_rfl)) (Qs 2 rfl (Xa sizeOf34 rfl rfl rfl rfl hb1 rfl ?_)))
   intro w24 hU24 hzz24 hb1
   refine Qs 2 rfl (Za (Zn (Zg (v := .tuple #[.agg #[.int .i64 0, .int .i64 0, .int .u32 0, .bool false], .int .i64 p, .int .i64 ((ZN bs (p + 6)).2.2)]) rfl (Yb results30 rfl rfl rfl (Zu isAgg34 sizeOf34 rfl hb1)) ?_)))
   have HD := hdict_skip q7
   have HQ : (ZV bs p).2.1 = p + 6 := by rw [HD]
   have HV : (ZV bs p).1 = 0 := by rw [HD]
   have HS := hsize_do (q := p + 6) q12
   have HG := gh_size HM (by omega) (by omega) q6 (by rw [HD]) (fun h => q7 h.1) (by rw [HQ, HS]; exact q13)
   rw [HQ, HS] at HG
   exact ⟨_, rfl, (Y6 (by first | (rw [HG]; rfl) | (rw [HG]; simp)) (Zt (by rw [HG]; first | done | rfl | (dsimp only; omega))) (by simp [HG])), (HU.t1 hU24)⟩
  refine Zi (Zl (Qs 1 rfl (Zf (ZZ underlying101 underlying3 rfl ZY) (Qs 1 rfl (Zf (Zo underlying34 rfl sizeOf3 rfl rfl) ?_)))))
  replace hb11 := hb11.Zc hU23
  refine Xc [.int .i64 (hw (bs.getD (p + 5) 0)), .int .i64 ((ZN bs (p + 6)).1), .int .u32 0, .bool (decide ((((bs.getD (p + 4) 0) / 2) % 2) = 1))] sizeOf3 rfl hb11 rfl rfl rfl rfl rfl ?_
  intro w25 hU25 hzz25 hb11
  refine Qs 1 rfl (Za (Sn (Xl isAgg34 sizeOf34 rfl hb11 rfl (Qs 1 rfl ?_))))
  replace hb1 := hb1.Zh hU25
  refine Xa sizeOf34 rfl rfl rfl rfl hb1 rfl ?_
  intro w26 hU26 hzz26 hb1
  refine Qs 2 rfl (Za (Zn (Zg (v := .tuple #[.agg #[.int .i64 (hw (bs.getD (p + 5) 0)), .int .i64 ((ZN bs (p + 6)).1), .int .u32 0, .bool (decide ((((bs.getD (p + 4) 0) / 2) % 2) = 1))], .int .i64 (((ZN bs (p + 6)).2.1 : Nat) : Int), .int .i64 0]) rfl (Yb results30 rfl rfl rfl (Zu isAgg34 sizeOf34 rfl hb1)) ?_)))
  have HD := hdict_skip q7
  have HQ : (ZV bs p).2.1 = p + 6 := by rw [HD]
  have HV : (ZV bs p).1 = 0 := by rw [HD]
  have HS := hsize_do (q := p + 6) q12
  have HG := gh_ok HM (by omega) (by omega) q6 (by rw [HD]) (fun h => q7 h.1) (by rw [HQ, HS]; exact (Classical.not_not.1 q13))
  rw [HQ, HS, HV] at HG
  exact ⟨_, rfl, (Y6 (by first | (rw [HG]; rfl) | (rw [HG]; simp)) (Zt (by rw [HG]; first | done | rfl | (dsimp only; omega))) (by simp [HG])), ((HU.t1 hU25).t1 hU26)⟩
 refine Zi (Sn (Xl isAgg34 sizeOf34 rfl hb11 rfl (Qs 1 rfl (Xa sizeOf34 rfl rfl rfl rfl hb1 rfl ?_))))
 intro w27 hU27 hzz27 hb1
 refine Qs 2 rfl (Za (Zn (Zg (v := .tuple #[.agg #[.int .i64 (hw (bs.getD (p + 5) 0)), .int .i64 (-1), .int .u32 0, .bool (decide ((((bs.getD (p + 4) 0) / 2) % 2) = 1))], .int .i64 ((p : Int) + 6), .int .i64 0]) rfl (Yb results30 rfl rfl rfl (Zu isAgg34 sizeOf34 rfl hb1)) ?_)))
 have HD := hdict_skip q7
 have HQ : (ZV bs p).2.1 = p + 6 := by rw [HD]
 have HV : (ZV bs p).1 = 0 := by rw [HD]
 have HS := hsize_skip (q := p + 6) q12
 have HG := gh_ok HM (by omega) (by omega) q6 (by rw [HD]) (fun h => q7 h.1) (by rw [HQ, HS])
 rw [HQ, HS, HV] at HG
 exact ⟨_, rfl, (Y6 (by first | (rw [HG]; rfl) | (rw [HG]; simp)) (Zt (by rw [HG]; first | done | rfl | (dsimp only; omega))) (by simp [HG])), (HU.t1 hU27)⟩
end Go.Proofs.YtbjjhfoeckkacaaGreatDoor
