/-
  Several texts of this project, put together.
-/
import Derived.Test.YtbjjhfoeckkacaaGreatDoorFZ
import Derived.Test.YtbjjhfoeckkacaaGreatDoorSM
import Derived.Test.YtbjjhfoeckkacaaGreatDoorSA
set_option linter.unusedVariables false
set_option linter.unusedSimpArgs false
set_option linter.deprecated false
set_option maxRecDepth 100000
set_option maxHeartbeats 16000000
namespace Go.Proofs.YtbjjhfoeckkacaaGreatDoor
open Go.Fw _root_.Go.Proofs.Tryz
theorem wstr_spec {B hi : Nat} {l s : List Int} (w : World) (hb : Bld w 67 5 B hi l) (hs : Byt s) (hlen : l.length + s.length ≤ 140737488355328) :
  Calls Tryz.prog 16 #[.pointer (some ⟨B, 0, none⟩), .string (strOfNums s)] w (Ret fun v w' => v = .tuple #[.int .i64 ((s.length : Nat) : Int), .nilIface] ∧ Bld w' 67 5 B w'.heap.size (l ++ s) ∧ Upd (fun g => B ≤ g) w w') := by
 refine (Tryz.Builder_WriteString B B _ (strOfNums s) w hb.here (by rw [strOfNums_size, ints, List.length_map]; exact hlen) (Nat.le_trans hb.1 hb.2.1)).mono ?_
 rintro e w' ⟨rfl, h, hw⟩
 refine ⟨_, rfl, by rw [strOfNums_size], Bld.of (Nat.le_trans (Nat.le_trans hb.1 hb.2.1) hw.size) (Yq hb.2.2.1 hs) (.inr ?_), upd_of_belowS hw⟩
 rw [Lib.strCells_eq, ints_bytes hs] at h
 rw [show ints .u8 (l ++ s) = ints .u8 l ++ ints .u8 s from by simp [ints]]
 exact h
theorem bstr_spec {B hi : Nat} {l : List Int} (w : World) (hb : Bld w 67 5 B hi l) :
  Calls Tryz.prog 18 #[.pointer (some ⟨B, 0, none⟩)] w (Ret fun v w' => v = .string (strOfNums l) ∧ Upd (fun g => B ≤ g) w w') := by
 refine (Tryz.Builder_String_any B B ((strOfNums l).data.toList) w (by rw [ints_bytes hb.2.2.1]; exact hb.here) (Nat.le_trans hb.1 hb.2.1)).mono ?_
 rintro e w' ⟨rfl, hw⟩
 exact ⟨_, rfl, by rw [ba_nums, strOfNums_nums hb.2.2.1], upd_of_belowS hw⟩
theorem ttext_ok {a : Option Addr} {n c : Nat} {bs : List Int} {g0 : Nat} (w : World) (ht : Tab w g0) (hs : Sl w (fun g => g < w.heap.size) 1 (.slice a n c) n (ints .u8 bs)) (hb : Byt bs) (hm : n ≤ 100000) (he : (ga bs 0).2 = 0) :
  Calls Tryz.prog 8 #[.slice a n c] w (Ret fun v w' => v = .tuple #[.string (strOfNums (txt (ga bs 0).1)), .int .i64 0] ∧ Upd No w w') := by
 have HU := Upd.Yo w
 have hl_hs := ZC hs
 have hc_hs := hs.cap.1
 have htl := ht.1
 refine Zq func8 rfl ntmps8 (by simp) (Sn (Qs 2 rfl (Za (Sn (Qs 1 rfl (Zj (Zv rfl call5 rfl) (read_ok _ hs.any hb (by omega) (by omega)) ?_))))))
 rintro v w1 ⟨a1, m1, c1, rfl, hT1, hU1⟩
 have:=hU1.size
 obtain ⟨vs2, hv2, hS2, hP2⟩ := hT1
 have hl_hS2 := Ya encP_len (by decide) hS2
 have hc_hS2 := hS2.cap.1
 have hlm2 : (ga bs 0).1.length = m1 := by rw [← hv2, List.length_map]; exact hl_hS2
 refine Qs 5 rfl (Za (Sm (Qs 1 rfl (Zf (v := .bool false) (Yh (a := 0) (b := 0) rfl rfl) (Za (Cf (Zi (Sn (Wl_allocT (cs := [.pointer none, .slice none 0 0]) zeroValue67 rfl ?_)))))))))
 intro B3 w3 hB3 hU3 hzz3 hA3
 have hBd := Bld.fresh (e := 5) hA3
 have:=hU3.size
 refine Za (Sm (Qs 1 rfl (Zf (ZM underlying24 rfl) (Qs 1 rfl (Za (Zs (ZS (fun mu ρ ds w' => ∃ (k : Nat) (hi : Nat), m1 - k = mu ∧ ds = [] ∧ Liv ρ [(6, .pointer (some ⟨B3, 0, none⟩)), (17, .slice a1 m1 c1), (18, .int .i64 m1), (19, .int .i64 k)] ∧ k ≤ m1 ∧ Bld w' 67 5 B3 hi (txt ((ga bs 0).1.take k)) ∧ Upd (fun g => B3 ≤ g) w3 w') _ ⟨0, w3.heap.size, rfl, rfl, ⟨rfl, rfl, rfl, (by first | rfl | exact Zt (by omega) | exact Zt (by simp)), trivial⟩, (by omega), (by exact hBd), Upd.refl _ _⟩ ?_)))))))
 rintro m4 ρ4 ds4 w4 ⟨k, hi, rfl, rfl, hl4, hk, hBd, hU4⟩
 obtain ⟨ρ4x, rfl⟩ : ∃ ρx, ρ4 = upds ρx [(6, .pointer (some ⟨B3, 0, none⟩)), (17, .slice a1 m1 c1), (18, .int .i64 m1), (19, .int .i64 k)] := ⟨_, ZD hl4⟩
 replace ht := (ht.Zc hU1).Zc hU3
 replace HU := (HU.Zb hU1).Zb hU3
 replace hS2 := hS2.Zc hU3
 replace hP2 := hP2.Zc hU3
 clear hl4
 have:=hU4.size
 have htx := txt_gal hb (by omega) k
 have hlx := lin_len (ga_okd hb (by omega) k).1
 have hly := lin_byt (ga_okd hb (by omega) k).1
 have hgn := ga_len hb (by omega)
 have hbh := hBd.2.1
 have hbl := hBd.1
 have HL4 := hU4
 refine Sn (Qs 1 rfl (Za (Zz (W_if rfl (fun q1 => ?_) fun q1 => ?_))))
 ·refine Zi (Zz (Zs (Sn (Yg pv0 encP_len (by decide) underlying24 sizeOf37 rfl rfl (hS2.upd hU4) (by omega) (by omega) ?_))))
  intro ib5 io5 hc5
  try rw [Int.toNat_natCast] at hc5
  obtain ⟨ba6, bm6, bc6, hbe6⟩ := gd_part (i := k) hv2
  rw [hbe6] at hc5
  have hB7 := hPget (hP2.upd hU4) hbe6 (by omega)
  have hl_hB7 := Ya Y2 (by decide) hB7
  have hc_hB7 := hB7.cap.1
  refine Zf (YE (cs := [.int .i64 (((ga bs 0).1.getD k pt0).at_), .int .i64 (((ga bs 0).1.getD k pt0).sz), .bool (decide (((ga bs 0).1.getD k pt0).sk = true)), .int .i64 (((ga bs 0).1.getD k pt0).pl), .int .i64 (((ga bs 0).1.getD k pt0).hd.1), .int .i64 (((ga bs 0).1.getD k pt0).hd.2.1), .int .u32 (((ga bs 0).1.getD k pt0).hd.2.2.1), .bool (decide (((ga bs 0).1.getD k pt0).hd.2.2.2 = true)), .slice ba6 bm6 bc6, .int .u32 (((ga bs 0).1.getD k pt0).ck)]) isAgg37 sizeOf37 rfl rfl hc5) (ZB zeroValue37 rfl ?_)
  intro B8 w8 hB8 hU8 hzz8 hb8
  refine Xa sizeOf37 rfl rfl rfl rfl hb8 rfl ?_
  intro w9 hU9 hzz9 hb8
  refine Za (Zl (Xl isAgg37 sizeOf37 rfl hb8 rfl (Zj (Zv rfl call17 rfl) (line_spec _ (((ht.upd hU4).Zc hU8).Zh hU9) (ga_okd hb (by omega) k).1 ((hB7.Zc hU8).Zh hU9).any) ?_)))
  rintro v w10 ⟨rfl, hU10⟩
  have:=hU10.size
  refine Zf (r_addstr (a := lin ((ga bs 0).1.getD k pt0)) (b := [10]) rfl rfl (by simp only [List.length_append, List.length_cons, List.length_nil]; omega)) (Zj (Zy rfl call16 rfl rfl) (wstr_spec _ (((hBd.Zc hU8).Zh hU9).Zc hU10) (Yq hly (YU (by decide))) (by simp only [List.length_append, List.length_cons, List.length_nil]; omega)) ?_)
  rintro v w11 ⟨rfl, hb11, hU11⟩
  have:=hU11.size
  refine Za (Zl (Xd rfl rfl (Qs 1 rfl (Za ?_))))
  refine ⟨_, ?_, (k + 1), w11.heap.size, rfl, rfl, ⟨rfl, rfl, rfl, (by first | rfl | exact Zt (by omega) | exact Zt (by simp)), trivial⟩, (by omega), (by rw [txt_step (by omega)]; exact hb11), ((((HL4.Zb hU8).Zr hU9).Zb hU10).trans hU11)⟩
  omega
 refine ZI (Sn (Zj (Zv rfl call18 rfl) (bstr_spec _ hBd) ?_))
 rintro v w12 ⟨rfl, hU12⟩
 have:=hU12.size
 refine Qs 2 rfl (Za (Zn (Zg (v := .tuple #[.string (strOfNums (txt ((ga bs 0).1.take k))), .int .i64 0]) rfl (Z2 results8 rfl rfl) ?_)))
 exact ⟨_, rfl, (Yx (vstr (by rw [show k = (ga bs 0).1.length from by omega, List.take_length])) rfl), ((HU.trans hU4).trans hU12)⟩
end Go.Proofs.YtbjjhfoeckkacaaGreatDoor
