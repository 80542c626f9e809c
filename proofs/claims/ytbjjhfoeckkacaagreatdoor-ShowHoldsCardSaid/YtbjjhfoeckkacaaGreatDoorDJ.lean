/-
  Several texts of this project, put together.
-/
import Derived.Test.YtbjjhfoeckkacaaGreatDoorFZ
import Derived.Test.YtbjjhfoeckkacaaGreatDoorDG
set_option linter.unusedVariables false
set_option linter.unusedSimpArgs false
set_option maxRecDepth 100000
set_option maxHeartbeats 16000000
namespace Go.Proofs.YtbjjhfoeckkacaaGreatDoor
open Go.Fw _root_.Go.Proofs.Tryz
theorem wpart0 {rr lo hi n rd lb : Nat} {a0 : Option Addr} {c0 s0 : Nat} {l0 : Int} {a1 : Option Addr} {c1 s1 : Nat} {l1 : Int} {a2 : Option Addr} {c2 s2 : Nat} {l2 : Int} {N : List Int} {cs : List (Int × Int × Int)} {R : Nat → Prop} (w : World) (hR : Rd w rr lo hi n rd) (hd : rd + n ≤ 100000000) (hB : Blk w lb [.slice a0 (2 ^ l0.toNat) c0, .int .i64 l0, .int .i64 s0, .slice a1 (2 ^ l1.toNat) c1, .int .i64 l1, .int .i64 s1, .slice a2 (2 ^ l2.toNat) c2, .int .i64 l2, .int .i64 s2]) (hT : Sl w R 3 (.slice a0 (2 ^ l0.toNat) c0) (2 ^ l0.toNat) (rows encQ cs)) (ho : okC l0.toNat N cs) (hN : N.length ≤ 44) (hs : s0 < 2 ^ l0.toNat) (hl : 0 ≤ l0 ∧ l0 ≤ 9) (hlb : lb < lo ∨ rr < lb) :
  Calls Tryz.prog 155 #[.pointer (some ⟨rr, 0, none⟩), .pointer (some ⟨lb, 0, none⟩), .bool false] w (Ret fun v w' => ∃ (y : Nat) (e : Int) (n9 : Nat) (rd9 : Nat), v = .tuple #[.int .i64 y, .int .i64 e] ∧ Rd w' rr lo hi n9 rd9 ∧ n9 + rd9 = n + rd ∧ y ≤ 10000000000 ∧ 0 ≤ y ∧ Upd (Is rr) w w') := by
 have HU : Upd (fun b => b = rr) w w := Upd.refl _ _
 have hbl_hB := hB.lt
 have hl_hT := Ya ZP (by decide) hT
 have hc_hT := hT.cap.1
 replace hT := hT.tight
 have hl_cs := Ya ZP (by decide) hT
 have hok := ho s0 (by omega)
 have hok1 := hok.1
 have hok2 := hok.2.1
 have hok3 := hok.2.2
 have hrl := hR.lt
 have hrh := hR.le
 have hp9 := p2_9 hl.1 hl.2
 have hkbl := kb_le (o := false) (c := (cs.getD s0 (0, 0, 0)).1.toNat) (by omega) (fun h => by cases h)
 refine Zq func155 rfl ntmps155 (by simp) (Sn (Qs 2 rfl (Za (Zz (ZJ rfl (l0 := tf 0 12) (by kernel_rfl) (Tq rfl (Tq rfl (Tv rfl (fun _ _ => Zo underlying229 rfl sizeOf227 rfl rfl) (Tl rfl isAgg227 rfl hB rfl (Tq rfl (Tq rfl (Tv rfl (fun _ _ => Zo underlying229 rfl sizeOf3 rfl rfl) (Tl rfl isAgg3 rfl hB rfl ?_)))))))))))))
 obtain ⟨ib1, io1, ha1, hib1, hc1⟩ := Sl.rat (0, 0, 0) ZP (by decide) (hT) (i := s0) (by omega)
 refine Tv rfl (fun _ _ => Yl (b := ib1) (off := io1) (m := 2 ^ l0.toNat) (c := c0) (o' := io1 + s0 * 3) underlying227 sizeOf257 (by rw [← ha1]; rfl) rfl (by omega) (by omega) (by omega)) (Tv rfl (fun _ _ => Zo underlying257 rfl sizeOf3 rfl rfl) (Tv rfl (v := .int .i64 ((cs.getD s0 (0, 0, 0)).1)) (fun w' hw' => Yd (v := .int .i64 ((cs.getD s0 (0, 0, 0)).1)) isAgg3 rfl (hw'.Y8 (hc1 0 (by decide)))) ?_))
 rw [show ((cs.getD s0 (0, 0, 0)).1 : Int) = (((cs.getD s0 (0, 0, 0)).1.toNat : Nat) : Int) from by omega]
 refine Tq rfl ?_
 intro w2 hU2
 have:=hU2.size
 refine Wd (Sn (Qs 3 rfl (Zj (Zy rfl call163 rfl rfl) (wkb (o := false) _ (by omega) (fun h => by cases h)) ?_)))
 rintro v w3 ⟨rfl, hU3⟩
 have:=hU3.size
 replace hR := (hR.Zc hU2).Zc hU3
 replace HU := (HU.Zb hU2).Zb hU3
 by_cases q1 : kb false (cs.getD s0 (0, 0, 0)).1.toNat ≤ n
 ·refine Zj (Zy rfl call135 (v1 := .int .i64 ((kb false (cs.getD s0 (0, 0, 0)).1.toNat : Nat) : Int)) rfl Zt) (YA _ hR (by omega) (by omega) q1) ?_
  rintro v w4 ⟨z4, rfl, hR4, hv_4, hU4⟩
  have:=hU4.size
  refine Qs 5 rfl (Za (Sn (Qs 3 rfl (Zj (Z5 rfl call164 rfl rfl rfl) (wkval_f _ (by omega) hv_4) ?_))))
  rintro v w5 ⟨y5, rfl, hy_5, hy1_5, hU5⟩
  have:=hU5.size
  exact Qs 5 rfl (Za (Sn (Qs 4 rfl (Za (Zn (Zg rfl (Z2 results155 rfl rfl) ⟨_, rfl, y5, 0, (n - (kb false (cs.getD s0 (0, 0, 0)).1.toNat)), (rd + (kb false (cs.getD s0 (0, 0, 0)).1.toNat)), rfl, (hR4.Zc hU5), (by omega), (by omega), (by omega), ((HU.Zr hU4).Zb hU5)⟩))))))
 refine Zj (Zy rfl call135 (v1 := .int .i64 ((kb false (cs.getD s0 (0, 0, 0)).1.toNat : Nat) : Int)) rfl Zt) (YB _ hR (by omega) q1) ?_
 rintro v w6 ⟨rfl, hR6, hU6⟩
 have:=hU6.size
 refine Qs 5 rfl (Za (Sn (Qs 3 rfl (Zj (Z5 rfl call164 (v1 := .int .u64 ((0 : Nat) : Int)) rfl rfl rfl) (wkval_f _ (by omega) (Nat.two_pow_pos _)) ?_))))
 rintro v w7 ⟨y7, rfl, hy_7, hy1_7, hU7⟩
 have:=hU7.size
 exact Qs 5 rfl (Za (Sn (Qs 4 rfl (Za (Zn (Zg rfl (Z2 results155 rfl rfl) ⟨_, rfl, y7, 14, n, rd, rfl, ((hR.Zc hU6).Zc hU7), (by omega), (by omega), (by omega), ((HU.Zb hU6).Zb hU7)⟩))))))
theorem wpart1 {rr lo hi n rd lb : Nat} {a0 : Option Addr} {c0 s0 : Nat} {l0 : Int} {a1 : Option Addr} {c1 s1 : Nat} {l1 : Int} {a2 : Option Addr} {c2 s2 : Nat} {l2 : Int} {N : List Int} {cs : List (Int × Int × Int)} {R : Nat → Prop} (w : World) (hR : Rd w rr lo hi n rd) (hd : rd + n ≤ 100000000) (hB : Blk w lb [.slice a0 (2 ^ l0.toNat) c0, .int .i64 l0, .int .i64 s0, .slice a1 (2 ^ l1.toNat) c1, .int .i64 l1, .int .i64 s1, .slice a2 (2 ^ l2.toNat) c2, .int .i64 l2, .int .i64 s2]) (hT : Sl w R 3 (.slice a1 (2 ^ l1.toNat) c1) (2 ^ l1.toNat) (rows encQ cs)) (ho : okC l1.toNat N cs) (hN : N.length ≤ 28) (hs : s1 < 2 ^ l1.toNat) (hl : 0 ≤ l1 ∧ l1 ≤ 9) (hlb : lb < lo ∨ rr < lb) :
  Calls Tryz.prog 155 #[.pointer (some ⟨rr, 0, none⟩), .pointer (some ⟨lb, 3, none⟩), .bool true] w (Ret fun v w' => ∃ (y : Nat) (e : Int) (n9 : Nat) (rd9 : Nat), v = .tuple #[.int .i64 y, .int .i64 e] ∧ Rd w' rr lo hi n9 rd9 ∧ n9 + rd9 = n + rd ∧ y ≤ 10000000000 ∧ 1 ≤ y ∧ Upd (Is rr) w w') := by
 have HU : Upd (fun b => b = rr) w w := Upd.refl _ _
 have hbl_hB := hB.lt
 have hl_hT := Ya ZP (by decide) hT
 have hc_hT := hT.cap.1
 replace hT := hT.tight
 have hl_cs := Ya ZP (by decide) hT
 have hok := ho s1 (by omega)
 have hok1 := hok.1
 have hok2 := hok.2.1
 have hok3 := hok.2.2
 have hrl := hR.lt
 have hrh := hR.le
 have hp9 := p2_9 hl.1 hl.2
 have hkbl := kb_le (o := true) (c := (cs.getD s1 (0, 0, 0)).1.toNat) (by omega) (fun _ => by omega)
 refine Zq func155 rfl ntmps155 (by simp) (Sn (Qs 2 rfl (Za (Zz (ZJ rfl (l0 := tf 0 12) (by kernel_rfl) (Tq rfl (Tq rfl (Tv rfl (fun _ _ => Zo underlying229 rfl sizeOf227 rfl rfl) (Tl rfl isAgg227 rfl hB rfl (Tq rfl (Tq rfl (Tv rfl (fun _ _ => Zo underlying229 rfl sizeOf3 rfl rfl) (Tl rfl isAgg3 rfl hB rfl ?_)))))))))))))
 obtain ⟨ib1, io1, ha1, hib1, hc1⟩ := Sl.rat (0, 0, 0) ZP (by decide) (hT) (i := s1) (by omega)
 refine Tv rfl (fun _ _ => Yl (b := ib1) (off := io1) (m := 2 ^ l1.toNat) (c := c1) (o' := io1 + s1 * 3) underlying227 sizeOf257 (by rw [← ha1]; rfl) rfl (by omega) (by omega) (by omega)) (Tv rfl (fun _ _ => Zo underlying257 rfl sizeOf3 rfl rfl) (Tv rfl (v := .int .i64 ((cs.getD s1 (0, 0, 0)).1)) (fun w' hw' => Yd (v := .int .i64 ((cs.getD s1 (0, 0, 0)).1)) isAgg3 rfl (hw'.Y8 (hc1 0 (by decide)))) ?_))
 rw [show ((cs.getD s1 (0, 0, 0)).1 : Int) = (((cs.getD s1 (0, 0, 0)).1.toNat : Nat) : Int) from by omega]
 refine Tq rfl ?_
 intro w2 hU2
 have:=hU2.size
 refine Wd (Sn (Qs 3 rfl (Zj (Zy rfl call163 rfl rfl) (wkb (o := true) _ (by omega) (fun _ => by omega)) ?_)))
 rintro v w3 ⟨rfl, hU3⟩
 have:=hU3.size
 replace hR := (hR.Zc hU2).Zc hU3
 replace HU := (HU.Zb hU2).Zb hU3
 by_cases q1 : kb true (cs.getD s1 (0, 0, 0)).1.toNat ≤ n
 ·refine Zj (Zy rfl call135 (v1 := .int .i64 ((kb true (cs.getD s1 (0, 0, 0)).1.toNat : Nat) : Int)) rfl Zt) (YA _ hR (by omega) (by omega) q1) ?_
  rintro v w4 ⟨z4, rfl, hR4, hv_4, hU4⟩
  have:=hU4.size
  refine Qs 5 rfl (Za (Sn (Qs 3 rfl (Zj (Z5 rfl call164 rfl rfl rfl) (wkval_t _ (by omega) (fun _ => by omega) hv_4) ?_))))
  rintro v w5 ⟨y5, rfl, hy_5, hy1_5, hU5⟩
  have:=hU5.size
  exact Qs 5 rfl (Za (Sn (Qs 4 rfl (Za (Zn (Zg rfl (Z2 results155 rfl rfl) ⟨_, rfl, y5, 0, (n - (kb true (cs.getD s1 (0, 0, 0)).1.toNat)), (rd + (kb true (cs.getD s1 (0, 0, 0)).1.toNat)), rfl, (hR4.Zc hU5), (by omega), (by omega), (by omega), ((HU.Zr hU4).Zb hU5)⟩))))))
 refine Zj (Zy rfl call135 (v1 := .int .i64 ((kb true (cs.getD s1 (0, 0, 0)).1.toNat : Nat) : Int)) rfl Zt) (YB _ hR (by omega) q1) ?_
 rintro v w6 ⟨rfl, hR6, hU6⟩
 have:=hU6.size
 refine Qs 5 rfl (Za (Sn (Qs 3 rfl (Zj (Z5 rfl call164 (v1 := .int .u64 ((0 : Nat) : Int)) rfl rfl rfl) (wkval_t _ (by omega) (fun _ => by omega) (Nat.two_pow_pos _)) ?_))))
 rintro v w7 ⟨y7, rfl, hy_7, hy1_7, hU7⟩
 have:=hU7.size
 exact Qs 5 rfl (Za (Sn (Qs 4 rfl (Za (Zn (Zg rfl (Z2 results155 rfl rfl) ⟨_, rfl, y7, 14, n, rd, rfl, ((hR.Zc hU6).Zc hU7), (by omega), (by omega), (by omega), ((HU.Zb hU6).Zb hU7)⟩))))))
theorem wpart2 {rr lo hi n rd lb : Nat} {a0 : Option Addr} {c0 s0 : Nat} {l0 : Int} {a1 : Option Addr} {c1 s1 : Nat} {l1 : Int} {a2 : Option Addr} {c2 s2 : Nat} {l2 : Int} {N : List Int} {cs : List (Int × Int × Int)} {R : Nat → Prop} (w : World) (hR : Rd w rr lo hi n rd) (hd : rd + n ≤ 100000000) (hB : Blk w lb [.slice a0 (2 ^ l0.toNat) c0, .int .i64 l0, .int .i64 s0, .slice a1 (2 ^ l1.toNat) c1, .int .i64 l1, .int .i64 s1, .slice a2 (2 ^ l2.toNat) c2, .int .i64 l2, .int .i64 s2]) (hT : Sl w R 3 (.slice a2 (2 ^ l2.toNat) c2) (2 ^ l2.toNat) (rows encQ cs)) (ho : okC l2.toNat N cs) (hN : N.length ≤ 44) (hs : s2 < 2 ^ l2.toNat) (hl : 0 ≤ l2 ∧ l2 ≤ 9) (hlb : lb < lo ∨ rr < lb) :
  Calls Tryz.prog 155 #[.pointer (some ⟨rr, 0, none⟩), .pointer (some ⟨lb, 6, none⟩), .bool false] w (Ret fun v w' => ∃ (y : Nat) (e : Int) (n9 : Nat) (rd9 : Nat), v = .tuple #[.int .i64 y, .int .i64 e] ∧ Rd w' rr lo hi n9 rd9 ∧ n9 + rd9 = n + rd ∧ y ≤ 10000000000 ∧ 0 ≤ y ∧ Upd (Is rr) w w') := by
 have HU : Upd (fun b => b = rr) w w := Upd.refl _ _
 have hbl_hB := hB.lt
 have hl_hT := Ya ZP (by decide) hT
 have hc_hT := hT.cap.1
 replace hT := hT.tight
 have hl_cs := Ya ZP (by decide) hT
 have hok := ho s2 (by omega)
 have hok1 := hok.1
 have hok2 := hok.2.1
 have hok3 := hok.2.2
 have hrl := hR.lt
 have hrh := hR.le
 have hp9 := p2_9 hl.1 hl.2
 have hkbl := kb_le (o := false) (c := (cs.getD s2 (0, 0, 0)).1.toNat) (by omega) (fun h => by cases h)
 refine Zq func155 rfl ntmps155 (by simp) (Sn (Qs 2 rfl (Za (Zz (ZJ rfl (l0 := tf 0 12) (by kernel_rfl) (Tq rfl (Tq rfl (Tv rfl (fun _ _ => Zo underlying229 rfl sizeOf227 rfl rfl) (Tl rfl isAgg227 rfl hB rfl (Tq rfl (Tq rfl (Tv rfl (fun _ _ => Zo underlying229 rfl sizeOf3 rfl rfl) (Tl rfl isAgg3 rfl hB rfl ?_)))))))))))))
 obtain ⟨ib1, io1, ha1, hib1, hc1⟩ := Sl.rat (0, 0, 0) ZP (by decide) (hT) (i := s2) (by omega)
 refine Tv rfl (fun _ _ => Yl (b := ib1) (off := io1) (m := 2 ^ l2.toNat) (c := c2) (o' := io1 + s2 * 3) underlying227 sizeOf257 (by rw [← ha1]; rfl) rfl (by omega) (by omega) (by omega)) (Tv rfl (fun _ _ => Zo underlying257 rfl sizeOf3 rfl rfl) (Tv rfl (v := .int .i64 ((cs.getD s2 (0, 0, 0)).1)) (fun w' hw' => Yd (v := .int .i64 ((cs.getD s2 (0, 0, 0)).1)) isAgg3 rfl (hw'.Y8 (hc1 0 (by decide)))) ?_))
 rw [show ((cs.getD s2 (0, 0, 0)).1 : Int) = (((cs.getD s2 (0, 0, 0)).1.toNat : Nat) : Int) from by omega]
 refine Tq rfl ?_
 intro w2 hU2
 have:=hU2.size
 refine Wd (Sn (Qs 3 rfl (Zj (Zy rfl call163 rfl rfl) (wkb (o := false) _ (by omega) (fun h => by cases h)) ?_)))
 rintro v w3 ⟨rfl, hU3⟩
 have:=hU3.size
 replace hR := (hR.Zc hU2).Zc hU3
 replace HU := (HU.Zb hU2).Zb hU3
 by_cases q1 : kb false (cs.getD s2 (0, 0, 0)).1.toNat ≤ n
 ·refine Zj (Zy rfl call135 (v1 := .int .i64 ((kb false (cs.getD s2 (0, 0, 0)).1.toNat : Nat) : Int)) rfl Zt) (YA _ hR (by omega) (by omega) q1) ?_
  rintro v w4 ⟨z4, rfl, hR4, hv_4, hU4⟩
  have:=hU4.size
  refine Qs 5 rfl (Za (Sn (Qs 3 rfl (Zj (Z5 rfl call164 rfl rfl rfl) (wkval_f _ (by omega) hv_4) ?_))))
  rintro v w5 ⟨y5, rfl, hy_5, hy1_5, hU5⟩
  have:=hU5.size
  exact Qs 5 rfl (Za (Sn (Qs 4 rfl (Za (Zn (Zg rfl (Z2 results155 rfl rfl) ⟨_, rfl, y5, 0, (n - (kb false (cs.getD s2 (0, 0, 0)).1.toNat)), (rd + (kb false (cs.getD s2 (0, 0, 0)).1.toNat)), rfl, (hR4.Zc hU5), (by omega), (by omega), (by omega), ((HU.Zr hU4).Zb hU5)⟩))))))
 refine Zj (Zy rfl call135 (v1 := .int .i64 ((kb false (cs.getD s2 (0, 0, 0)).1.toNat : Nat) : Int)) rfl Zt) (YB _ hR (by omega) q1) ?_
 rintro v w6 ⟨rfl, hR6, hU6⟩
 have:=hU6.size
 refine Qs 5 rfl (Za (Sn (Qs 3 rfl (Zj (Z5 rfl call164 (v1 := .int .u64 ((0 : Nat) : Int)) rfl rfl rfl) (wkval_f _ (by omega) (Nat.two_pow_pos _)) ?_))))
 rintro v w7 ⟨y7, rfl, hy_7, hy1_7, hU7⟩
 have:=hU7.size
 exact Qs 5 rfl (Za (Sn (Qs 4 rfl (Za (Zn (Zg rfl (Z2 results155 rfl rfl) ⟨_, rfl, y7, 14, n, rd, rfl, ((hR.Zc hU6).Zc hU7), (by omega), (by omega), (by omega), ((HU.Zb hU6).Zb hU7)⟩))))))
theorem won0 {rr lo hi n rd lb : Nat} {a0 : Option Addr} {c0 s0 : Nat} {l0 : Int} {a1 : Option Addr} {c1 s1 : Nat} {l1 : Int} {a2 : Option Addr} {c2 s2 : Nat} {l2 : Int} {N : List Int} {cs : List (Int × Int × Int)} {R : Nat → Prop} (w : World) (hR : Rd w rr lo hi n rd) (hd : rd + n ≤ 100000000) (hB : Blk w lb [.slice a0 (2 ^ l0.toNat) c0, .int .i64 l0, .int .i64 s0, .slice a1 (2 ^ l1.toNat) c1, .int .i64 l1, .int .i64 s1, .slice a2 (2 ^ l2.toNat) c2, .int .i64 l2, .int .i64 s2]) (hT : Sl w R 3 (.slice a0 (2 ^ l0.toNat) c0) (2 ^ l0.toNat) (rows encQ cs)) (ho : okC l0.toNat N cs) (hN : N.length ≤ 44) (hs : s0 < 2 ^ l0.toNat) (hl : 0 ≤ l0 ∧ l0 ≤ 9) (hlb : lb < lo ∨ rr < lb) :
  Calls Tryz.prog 156 #[.pointer (some ⟨rr, 0, none⟩), .pointer (some ⟨lb, 0, none⟩)] w (Ret fun v w' => ∃ (e : Int) (n9 : Nat) (rd9 : Nat) (s9 : Nat), v = .int .i64 e ∧ Rd w' rr lo hi n9 rd9 ∧ Blk w' lb [.slice a0 (2 ^ l0.toNat) c0, .int .i64 l0, .int .i64 s9, .slice a1 (2 ^ l1.toNat) c1, .int .i64 l1, .int .i64 s1, .slice a2 (2 ^ l2.toNat) c2, .int .i64 l2, .int .i64 s2] ∧ n9 + rd9 = n + rd ∧ s9 < 2 ^ l0.toNat ∧ Upd (fun g => g = rr ∨ g = lb) w w') := by
 have HU : Upd (fun b => b = rr ∨ b = lb) w w := Upd.refl _ _
 have hbl_hB := hB.lt
 have hl_hT := Ya ZP (by decide) hT
 have hc_hT := hT.cap.1
 replace hT := hT.tight
 have hl_cs := Ya ZP (by decide) hT
 have hok := ho s0 (by omega)
 have hok1 := hok.1
 have hok2 := hok.2.1
 have hok3 := hok.2.2
 have hrl := hR.lt
 have hrh := hR.le
 have hp9 := p2_9 hl.1 hl.2
 have hp8 := Nat.one_le_two_pow (n := (cs.getD s0 (0, 0, 0)).2.1.toNat)
 have hp7 := p2le (j := (cs.getD s0 (0, 0, 0)).2.1.toNat) (k := 9) (by omega)
 refine Zq func156 rfl ntmps156 (by simp) (Sn (Qs 1 rfl (Za (Zz (ZJ rfl (l0 := tf 0 12) (by kernel_rfl) (Tq rfl (Tq rfl (Tv rfl (fun _ _ => Zo underlying229 rfl sizeOf227 rfl rfl) (Tl rfl isAgg227 rfl hB rfl (Tq rfl (Tq rfl (Tv rfl (fun _ _ => Zo underlying229 rfl sizeOf3 rfl rfl) (Tl rfl isAgg3 rfl hB rfl ?_)))))))))))))
 obtain ⟨ib1, io1, ha1, hib1, hc1⟩ := Sl.rat (0, 0, 0) ZP (by decide) (hT) (i := s0) (by omega)
 refine Tv rfl (fun _ _ => Yl (b := ib1) (off := io1) (m := 2 ^ l0.toNat) (c := c0) (o' := io1 + s0 * 3) underlying227 sizeOf257 (by rw [← ha1]; rfl) rfl (by omega) (by omega) (by omega)) (Tv rfl (v := .agg #[.int .i64 ((cs.getD s0 (0, 0, 0)).1), .int .i64 ((cs.getD s0 (0, 0, 0)).2.1), .int .i64 ((cs.getD s0 (0, 0, 0)).2.2)]) (fun w' hw' => YE (cs := [.int .i64 ((cs.getD s0 (0, 0, 0)).1), .int .i64 ((cs.getD s0 (0, 0, 0)).2.1), .int .i64 ((cs.getD s0 (0, 0, 0)).2.2)]) isAgg257 sizeOf257 rfl rfl (hw'.cellsk rfl hc1)) ?_)
 intro w2 hU2
 have:=hU2.size
 refine Wo 10 (tf 11 12) rfl ?_
 have hW : Upd No w w2 := hU2
 refine ZB zeroValue257 rfl ?_
 intro B3 w3 hB3 hU3 hzz3 hb3
 try replace hW := hW.Zb hU3
 refine Za ?_
 intro w4 hS4
 have hX : Upd No w w4 := hW.Zb hS4.upd
 refine bF hX ?_
 have hU4 := hS4.upd
 have:=hU4.size
 try replace hW := hW.Zb hU4
 refine ZQ hX ?_
 intro w5 hU5
 have:=hU5.size
 try replace hW := hW.Zb hU5
 refine Wo 11 (tf 12 12) rfl ?_
 have hW : Upd No w4 w5 := hU5
 replace hb3 := (hb3.Zc hU4).Zc hU5
 refine Xa sizeOf257 rfl rfl rfl rfl hb3 rfl ?_
 intro w6 hU6 hzz6 hb3
 refine Za ?_
 intro w7 hS7
 refine bT (Upd No w7) ?_
 have hU7 := hS7.upd
 have:=hU7.size
 try replace hW := hW.Zb hU7
 refine Wd (Sn (Qs 1 rfl (Zf (Zo underlying257 rfl sizeOf3 rfl rfl) ?_)))
 replace hb3 := hb3.Zc hU7
 refine Zk isAgg3 rfl hb3 rfl ?_
 replace hR := (((((hR.Zc hU2).Zc hU3).Zc hU4).Zc hU5).Zh hU6).Zc hU7
 replace hB := (((((hB.Zc hU2).Zc hU3).Zc hU4).Zc hU5).Zh hU6).Zc hU7
 replace HU := (((((HU.Zb hU2).Zb hU3).Zb hU4).Zb hU5).Zr hU6).Zb hU7
 by_cases q1 : (cs.getD s0 (0, 0, 0)).2.1.toNat ≤ n
 ·refine Zj (Zy rfl call135 (v1 := .int .i64 (((cs.getD s0 (0, 0, 0)).2.1.toNat : Nat) : Int)) rfl Zt) (YA _ hR (by omega) (by omega) q1) ?_
  rintro v w8 ⟨z8, rfl, hR8, hv_8, hU8⟩
  have:=hU8.size
  have hz9 := hv_8
  refine Qs 5 rfl (Za (Sn (Qs 1 rfl (Zf (Zo underlying257 rfl sizeOf3 rfl rfl) (Zk isAgg3 rfl (hb3.Zh hU8) rfl (Qs 1 rfl (Zf (ZZ underlying101 underlying3 rfl ZY) (Xd rfl rfl (Zf (Yj rfl) (Zf (Zo underlying229 rfl sizeOf3 rfl rfl) ?_))))))))))
  replace hB := hB.Zh hU8
  refine Xc [.slice a0 (2 ^ l0.toNat) c0, .int .i64 l0, .int .i64 (((cs.getD s0 (0, 0, 0)).2.2) + (z8 : Int)), .slice a1 (2 ^ l1.toNat) c1, .int .i64 l1, .int .i64 s1, .slice a2 (2 ^ l2.toNat) c2, .int .i64 l2, .int .i64 s2] sizeOf3 rfl hB rfl rfl rfl rfl rfl ?_
  intro w9 hU9 hzz9 hB
  refine Za (Sn (Qs 2 rfl (Za (Zn (Zg rfl (Z9 results156 rfl) ?_)))))
  obtain ⟨s9, hs9⟩ : ∃ s9 : Nat, (s9 : Int) = ((cs.getD s0 (0, 0, 0)).2.2) + (z8 : Int) := ⟨(((cs.getD s0 (0, 0, 0)).2.2) + (z8 : Int)).toNat, by omega⟩
  exact ⟨_, rfl, 0, (n - ((cs.getD s0 (0, 0, 0)).2.1.toNat)), (rd + ((cs.getD s0 (0, 0, 0)).2.1.toNat)), s9, rfl, (hR8.Zh hU9), (by rw [hs9]; exact hB), (by omega), (by omega), ((HU.Zr hU8).Zr hU9)⟩
 refine Zj (Zy rfl call135 (v1 := .int .i64 (((cs.getD s0 (0, 0, 0)).2.1.toNat : Nat) : Int)) rfl Zt) (YB _ hR (by omega) q1) ?_
 rintro v w10 ⟨rfl, hR10, hU10⟩
 have:=hU10.size
 try replace hW := hW.Zb hU10
 refine Qs 5 rfl (Za (Sn (Qs 1 rfl (Zf (Zo underlying257 rfl sizeOf3 rfl rfl) (Zk isAgg3 rfl (hb3.Zc hU10) rfl (Qs 1 rfl (Zf (ZZ underlying101 underlying3 rfl ZY) (Xd rfl rfl (Zf (Yj rfl) (Zf (Zo underlying229 rfl sizeOf3 rfl rfl) ?_))))))))))
 replace hB := hB.Zc hU10
 refine Xc [.slice a0 (2 ^ l0.toNat) c0, .int .i64 l0, .int .i64 (((cs.getD s0 (0, 0, 0)).2.2) + 0), .slice a1 (2 ^ l1.toNat) c1, .int .i64 l1, .int .i64 s1, .slice a2 (2 ^ l2.toNat) c2, .int .i64 l2, .int .i64 s2] sizeOf3 rfl hB rfl rfl rfl rfl rfl ?_
 intro w11 hU11 hzz11 hB
 refine Za (Sn (Qs 2 rfl (Za (Zn (Zg rfl (Z9 results156 rfl) ?_)))))
 obtain ⟨s9, hs9⟩ : ∃ s9 : Nat, (s9 : Int) = ((cs.getD s0 (0, 0, 0)).2.2) + 0 := ⟨(((cs.getD s0 (0, 0, 0)).2.2) + 0).toNat, by omega⟩
 exact ⟨_, rfl, 14, n, rd, s9, rfl, ((hR.Zc hU10).Zh hU11), (by rw [hs9]; exact hB), (by omega), (by omega), ((HU.Zb hU10).Zr hU11)⟩
theorem won1 {rr lo hi n rd lb : Nat} {a0 : Option Addr} {c0 s0 : Nat} {l0 : Int} {a1 : Option Addr} {c1 s1 : Nat} {l1 : Int} {a2 : Option Addr} {c2 s2 : Nat} {l2 : Int} {N : List Int} {cs : List (Int × Int × Int)} {R : Nat → Prop} (w : World) (hR : Rd w rr lo hi n rd) (hd : rd + n ≤ 100000000) (hB : Blk w lb [.slice a0 (2 ^ l0.toNat) c0, .int .i64 l0, .int .i64 s0, .slice a1 (2 ^ l1.toNat) c1, .int .i64 l1, .int .i64 s1, .slice a2 (2 ^ l2.toNat) c2, .int .i64 l2, .int .i64 s2]) (hT : Sl w R 3 (.slice a1 (2 ^ l1.toNat) c1) (2 ^ l1.toNat) (rows encQ cs)) (ho : okC l1.toNat N cs) (hN : N.length ≤ 28) (hs : s1 < 2 ^ l1.toNat) (hl : 0 ≤ l1 ∧ l1 ≤ 9) (hlb : lb < lo ∨ rr < lb) :
  Calls Tryz.prog 156 #[.pointer (some ⟨rr, 0, none⟩), .pointer (some ⟨lb, 3, none⟩)] w (Ret fun v w' => ∃ (e : Int) (n9 : Nat) (rd9 : Nat) (s9 : Nat), v = .int .i64 e ∧ Rd w' rr lo hi n9 rd9 ∧ Blk w' lb [.slice a0 (2 ^ l0.toNat) c0, .int .i64 l0, .int .i64 s0, .slice a1 (2 ^ l1.toNat) c1, .int .i64 l1, .int .i64 s9, .slice a2 (2 ^ l2.toNat) c2, .int .i64 l2, .int .i64 s2] ∧ n9 + rd9 = n + rd ∧ s9 < 2 ^ l1.toNat ∧ Upd (fun g => g = rr ∨ g = lb) w w') := by
 have HU : Upd (fun b => b = rr ∨ b = lb) w w := Upd.refl _ _
 have hbl_hB := hB.lt
 have hl_hT := Ya ZP (by decide) hT
 have hc_hT := hT.cap.1
 replace hT := hT.tight
 have hl_cs := Ya ZP (by decide) hT
 have hok := ho s1 (by omega)
 have hok1 := hok.1
 have hok2 := hok.2.1
 have hok3 := hok.2.2
 have hrl := hR.lt
 have hrh := hR.le
 have hp9 := p2_9 hl.1 hl.2
 have hp8 := Nat.one_le_two_pow (n := (cs.getD s1 (0, 0, 0)).2.1.toNat)
 have hp7 := p2le (j := (cs.getD s1 (0, 0, 0)).2.1.toNat) (k := 9) (by omega)
 refine Zq func156 rfl ntmps156 (by simp) (Sn (Qs 1 rfl (Za (Zz (ZJ rfl (l0 := tf 0 12) (by kernel_rfl) (Tq rfl (Tq rfl (Tv rfl (fun _ _ => Zo underlying229 rfl sizeOf227 rfl rfl) (Tl rfl isAgg227 rfl hB rfl (Tq rfl (Tq rfl (Tv rfl (fun _ _ => Zo underlying229 rfl sizeOf3 rfl rfl) (Tl rfl isAgg3 rfl hB rfl ?_)))))))))))))
 obtain ⟨ib1, io1, ha1, hib1, hc1⟩ := Sl.rat (0, 0, 0) ZP (by decide) (hT) (i := s1) (by omega)
 refine Tv rfl (fun _ _ => Yl (b := ib1) (off := io1) (m := 2 ^ l1.toNat) (c := c1) (o' := io1 + s1 * 3) underlying227 sizeOf257 (by rw [← ha1]; rfl) rfl (by omega) (by omega) (by omega)) (Tv rfl (v := .agg #[.int .i64 ((cs.getD s1 (0, 0, 0)).1), .int .i64 ((cs.getD s1 (0, 0, 0)).2.1), .int .i64 ((cs.getD s1 (0, 0, 0)).2.2)]) (fun w' hw' => YE (cs := [.int .i64 ((cs.getD s1 (0, 0, 0)).1), .int .i64 ((cs.getD s1 (0, 0, 0)).2.1), .int .i64 ((cs.getD s1 (0, 0, 0)).2.2)]) isAgg257 sizeOf257 rfl rfl (hw'.cellsk rfl hc1)) ?_)
 intro w2 hU2
 have:=hU2.size
 refine Wo 10 (tf 11 12) rfl ?_
 have hW : Upd No w w2 := hU2
 refine ZB zeroValue257 rfl ?_
 intro B3 w3 hB3 hU3 hzz3 hb3
 try replace hW := hW.Zb hU3
 refine Za ?_
 intro w4 hS4
 have hX : Upd No w w4 := hW.Zb hS4.upd
 refine bF hX ?_
 have hU4 := hS4.upd
 have:=hU4.size
 try replace hW := hW.Zb hU4
 refine ZQ hX ?_
 intro w5 hU5
 have:=hU5.size
 try replace hW := hW.Zb hU5
 refine Wo 11 (tf 12 12) rfl ?_
 have hW : Upd No w4 w5 := hU5
 replace hb3 := (hb3.Zc hU4).Zc hU5
 refine Xa sizeOf257 rfl rfl rfl rfl hb3 rfl ?_
 intro w6 hU6 hzz6 hb3
 refine Za ?_
 intro w7 hS7
 refine bT (Upd No w7) ?_
 have hU7 := hS7.upd
 have:=hU7.size
 try replace hW := hW.Zb hU7
 refine Wd (Sn (Qs 1 rfl (Zf (Zo underlying257 rfl sizeOf3 rfl rfl) ?_)))
 replace hb3 := hb3.Zc hU7
 refine Zk isAgg3 rfl hb3 rfl ?_
 replace hR := (((((hR.Zc hU2).Zc hU3).Zc hU4).Zc hU5).Zh hU6).Zc hU7
 replace hB := (((((hB.Zc hU2).Zc hU3).Zc hU4).Zc hU5).Zh hU6).Zc hU7
 replace HU := (((((HU.Zb hU2).Zb hU3).Zb hU4).Zb hU5).Zr hU6).Zb hU7
 by_cases q1 : (cs.getD s1 (0, 0, 0)).2.1.toNat ≤ n
 ·refine Zj (Zy rfl call135 (v1 := .int .i64 (((cs.getD s1 (0, 0, 0)).2.1.toNat : Nat) : Int)) rfl Zt) (YA _ hR (by omega) (by omega) q1) ?_
  rintro v w8 ⟨z8, rfl, hR8, hv_8, hU8⟩
  have:=hU8.size
  have hz9 := hv_8
  refine Qs 5 rfl (Za (Sn (Qs 1 rfl (Zf (Zo underlying257 rfl sizeOf3 rfl rfl) (Zk isAgg3 rfl (hb3.Zh hU8) rfl (Qs 1 rfl (Zf (ZZ underlying101 underlying3 rfl ZY) (Xd rfl rfl (Zf (Yj rfl) (Zf (Zo underlying229 rfl sizeOf3 rfl rfl) ?_))))))))))
  replace hB := hB.Zh hU8
  refine Xc [.slice a0 (2 ^ l0.toNat) c0, .int .i64 l0, .int .i64 s0, .slice a1 (2 ^ l1.toNat) c1, .int .i64 l1, .int .i64 (((cs.getD s1 (0, 0, 0)).2.2) + (z8 : Int)), .slice a2 (2 ^ l2.toNat) c2, .int .i64 l2, .int .i64 s2] sizeOf3 rfl hB rfl rfl rfl rfl rfl ?_
  intro w9 hU9 hzz9 hB
  refine Za (Sn (Qs 2 rfl (Za (Zn (Zg rfl (Z9 results156 rfl) ?_)))))
  obtain ⟨s9, hs9⟩ : ∃ s9 : Nat, (s9 : Int) = ((cs.getD s1 (0, 0, 0)).2.2) + (z8 : Int) := ⟨(((cs.getD s1 (0, 0, 0)).2.2) + (z8 : Int)).toNat, by omega⟩
  exact ⟨_, rfl, 0, (n - ((cs.getD s1 (0, 0, 0)).2.1.toNat)), (rd + ((cs.getD s1 (0, 0, 0)).2.1.toNat)), s9, rfl, (hR8.Zh hU9), (by rw [hs9]; exact hB), (by omega), (by omega), ((HU.Zr hU8).Zr hU9)⟩
 refine Zj (Zy rfl call135 (v1 := .int .i64 (((cs.getD s1 (0, 0, 0)).2.1.toNat : Nat) : Int)) rfl Zt) (YB _ hR (by omega) q1) ?_
 rintro v w10 ⟨rfl, hR10, hU10⟩
 have:=hU10.size
 try replace hW := hW.Zb hU10
 refine Qs 5 rfl (Za (Sn (Qs 1 rfl (Zf (Zo underlying257 rfl sizeOf3 rfl rfl) (Zk isAgg3 rfl (hb3.Zc hU10) rfl (Qs 1 rfl (Zf (ZZ underlying101 underlying3 rfl ZY) (Xd rfl rfl (Zf (Yj rfl) (Zf (Zo underlying229 rfl sizeOf3 rfl rfl) ?_))))))))))
 replace hB := hB.Zc hU10
 refine Xc [.slice a0 (2 ^ l0.toNat) c0, .int .i64 l0, .int .i64 s0, .slice a1 (2 ^ l1.toNat) c1, .int .i64 l1, .int .i64 (((cs.getD s1 (0, 0, 0)).2.2) + 0), .slice a2 (2 ^ l2.toNat) c2, .int .i64 l2, .int .i64 s2] sizeOf3 rfl hB rfl rfl rfl rfl rfl ?_
 intro w11 hU11 hzz11 hB
 refine Za (Sn (Qs 2 rfl (Za (Zn (Zg rfl (Z9 results156 rfl) ?_)))))
 obtain ⟨s9, hs9⟩ : ∃ s9 : Nat, (s9 : Int) = ((cs.getD s1 (0, 0, 0)).2.2) + 0 := ⟨(((cs.getD s1 (0, 0, 0)).2.2) + 0).toNat, by omega⟩
 exact ⟨_, rfl, 14, n, rd, s9, rfl, ((hR.Zc hU10).Zh hU11), (by rw [hs9]; exact hB), (by omega), (by omega), ((HU.Zb hU10).Zr hU11)⟩
theorem won2 {rr lo hi n rd lb : Nat} {a0 : Option Addr} {c0 s0 : Nat} {l0 : Int} {a1 : Option Addr} {c1 s1 : Nat} {l1 : Int} {a2 : Option Addr} {c2 s2 : Nat} {l2 : Int} {N : List Int} {cs : List (Int × Int × Int)} {R : Nat → Prop} (w : World) (hR : Rd w rr lo hi n rd) (hd : rd + n ≤ 100000000) (hB : Blk w lb [.slice a0 (2 ^ l0.toNat) c0, .int .i64 l0, .int .i64 s0, .slice a1 (2 ^ l1.toNat) c1, .int .i64 l1, .int .i64 s1, .slice a2 (2 ^ l2.toNat) c2, .int .i64 l2, .int .i64 s2]) (hT : Sl w R 3 (.slice a2 (2 ^ l2.toNat) c2) (2 ^ l2.toNat) (rows encQ cs)) (ho : okC l2.toNat N cs) (hN : N.length ≤ 44) (hs : s2 < 2 ^ l2.toNat) (hl : 0 ≤ l2 ∧ l2 ≤ 9) (hlb : lb < lo ∨ rr < lb) :
  Calls Tryz.prog 156 #[.pointer (some ⟨rr, 0, none⟩), .pointer (some ⟨lb, 6, none⟩)] w (Ret fun v w' => ∃ (e : Int) (n9 : Nat) (rd9 : Nat) (s9 : Nat), v = .int .i64 e ∧ Rd w' rr lo hi n9 rd9 ∧ Blk w' lb [.slice a0 (2 ^ l0.toNat) c0, .int .i64 l0, .int .i64 s0, .slice a1 (2 ^ l1.toNat) c1, .int .i64 l1, .int .i64 s1, .slice a2 (2 ^ l2.toNat) c2, .int .i64 l2, .int .i64 s9] ∧ n9 + rd9 = n + rd ∧ s9 < 2 ^ l2.toNat ∧ Upd (fun g => g = rr ∨ g = lb) w w') := by
 have HU : Upd (fun b => b = rr ∨ b = lb) w w := Upd.refl _ _
 have hbl_hB := hB.lt
 have hl_hT := Ya ZP (by decide) hT
 have hc_hT := hT.cap.1
 replace hT := hT.tight
 have hl_cs := Ya ZP (by decide) hT
 have hok := ho s2 (by omega)
 have hok1 := hok.1
 have hok2 := hok.2.1
 have hok3 := hok.2.2
 have hrl := hR.lt
 have hrh := hR.le
 have hp9 := p2_9 hl.1 hl.2
 have hp8 := Nat.one_le_two_pow (n := (cs.getD s2 (0, 0, 0)).2.1.toNat)
 have hp7 := p2le (j := (cs.getD s2 (0, 0, 0)).2.1.toNat) (k := 9) (by omega)
 refine Zq func156 rfl ntmps156 (by simp) (Sn (Qs 1 rfl (Za (Zz (ZJ rfl (l0 := tf 0 12) (by kernel_rfl) (Tq rfl (Tq rfl (Tv rfl (fun _ _ => Zo underlying229 rfl sizeOf227 rfl rfl) (Tl rfl isAgg227 rfl hB rfl (Tq rfl (Tq rfl (Tv rfl (fun _ _ => Zo underlying229 rfl sizeOf3 rfl rfl) (Tl rfl isAgg3 rfl hB rfl ?_)))))))))))))
 obtain ⟨ib1, io1, ha1, hib1, hc1⟩ := Sl.rat (0, 0, 0) ZP (by decide) (hT) (i := s2) (by omega)
 refine Tv rfl (fun _ _ => Yl (b := ib1) (off := io1) (m := 2 ^ l2.toNat) (c := c2) (o' := io1 + s2 * 3) underlying227 sizeOf257 (by rw [← ha1]; rfl) rfl (by omega) (by omega) (by omega)) (Tv rfl (v := .agg #[.int .i64 ((cs.getD s2 (0, 0, 0)).1), .int .i64 ((cs.getD s2 (0, 0, 0)).2.1), .int .i64 ((cs.getD s2 (0, 0, 0)).2.2)]) (fun w' hw' => YE (cs := [.int .i64 ((cs.getD s2 (0, 0, 0)).1), .int .i64 ((cs.getD s2 (0, 0, 0)).2.1), .int .i64 ((cs.getD s2 (0, 0, 0)).2.2)]) isAgg257 sizeOf257 rfl rfl (hw'.cellsk rfl hc1)) ?_)
 intro w2 hU2
 have:=hU2.size
 refine Wo 10 (tf 11 12) rfl ?_
 have hW : Upd No w w2 := hU2
 refine ZB zeroValue257 rfl ?_
 intro B3 w3 hB3 hU3 hzz3 hb3
 try replace hW := hW.Zb hU3
 refine Za ?_
 intro w4 hS4
 have hX : Upd No w w4 := hW.Zb hS4.upd
 refine bF hX ?_
 have hU4 := hS4.upd
 have:=hU4.size
 try replace hW := hW.Zb hU4
 refine ZQ hX ?_
 intro w5 hU5
 have:=hU5.size
 try replace hW := hW.Zb hU5
 refine Wo 11 (tf 12 12) rfl ?_
 have hW : Upd No w4 w5 := hU5
 replace hb3 := (hb3.Zc hU4).Zc hU5
 refine Xa sizeOf257 rfl rfl rfl rfl hb3 rfl ?_
 intro w6 hU6 hzz6 hb3
 refine Za ?_
 intro w7 hS7
 refine bT (Upd No w7) ?_
 have hU7 := hS7.upd
 have:=hU7.size
 try replace hW := hW.Zb hU7
 refine Wd (Sn (Qs 1 rfl (Zf (Zo underlying257 rfl sizeOf3 rfl rfl) ?_)))
 replace hb3 := hb3.Zc hU7
 refine Zk isAgg3 rfl hb3 rfl ?_
 replace hR := (((((hR.Zc hU2).Zc hU3).Zc hU4).Zc hU5).Zh hU6).Zc hU7
 replace hB := (((((hB.Zc hU2).Zc hU3).Zc hU4).Zc hU5).Zh hU6).Zc hU7
 replace HU := (((((HU.Zb hU2).Zb hU3).Zb hU4).Zb hU5).Zr hU6).Zb hU7
 by_cases q1 : (cs.getD s2 (0, 0, 0)).2.1.toNat ≤ n
 ·refine Zj (Zy rfl call135 (v1 := .int .i64 (((cs.getD s2 (0, 0, 0)).2.1.toNat : Nat) : Int)) rfl Zt) (YA _ hR (by omega) (by omega) q1) ?_
  rintro v w8 ⟨z8, rfl, hR8, hv_8, hU8⟩
  have:=hU8.size
  have hz9 := hv_8
  refine Qs 5 rfl (Za (Sn (Qs 1 rfl (Zf (Zo underlying257 rfl sizeOf3 rfl rfl) (Zk isAgg3 rfl (hb3.Zh hU8) rfl (Qs 1 rfl (Zf (ZZ underlying101 underlying3 rfl ZY) (Xd rfl rfl (Zf (Yj rfl) (Zf (Zo underlying229 rfl sizeOf3 rfl rfl) ?_))))))))))
  replace hB := hB.Zh hU8
  refine Xc [.slice a0 (2 ^ l0.toNat) c0, .int .i64 l0, .int .i64 s0, .slice a1 (2 ^ l1.toNat) c1, .int .i64 l1, .int .i64 s1, .slice a2 (2 ^ l2.toNat) c2, .int .i64 l2, .int .i64 (((cs.getD s2 (0, 0, 0)).2.2) + (z8 : Int))] sizeOf3 rfl hB rfl rfl rfl rfl rfl ?_
  intro w9 hU9 hzz9 hB
  refine Za (Sn (Qs 2 rfl (Za (Zn (Zg rfl (Z9 results156 rfl) ?_)))))
  obtain ⟨s9, hs9⟩ : ∃ s9 : Nat, (s9 : Int) = ((cs.getD s2 (0, 0, 0)).2.2) + (z8 : Int) := ⟨(((cs.getD s2 (0, 0, 0)).2.2) + (z8 : Int)).toNat, by omega⟩
  exact ⟨_, rfl, 0, (n - ((cs.getD s2 (0, 0, 0)).2.1.toNat)), (rd + ((cs.getD s2 (0, 0, 0)).2.1.toNat)), s9, rfl, (hR8.Zh hU9), (by rw [hs9]; exact hB), (by omega), (by omega), ((HU.Zr hU8).Zr hU9)⟩
 refine Zj (Zy rfl call135 (v1 := .int .i64 (((cs.getD s2 (0, 0, 0)).2.1.toNat : Nat) : Int)) rfl Zt) (YB _ hR (by omega) q1) ?_
 rintro v w10 ⟨rfl, hR10, hU10⟩
 have:=hU10.size
 try replace hW := hW.Zb hU10
 refine Qs 5 rfl (Za (Sn (Qs 1 rfl (Zf (Zo underlying257 rfl sizeOf3 rfl rfl) (Zk isAgg3 rfl (hb3.Zc hU10) rfl (Qs 1 rfl (Zf (ZZ underlying101 underlying3 rfl ZY) (Xd rfl rfl (Zf (Yj rfl) (Zf (Zo underlying229 rfl sizeOf3 rfl rfl) ?_))))))))))
 replace hB := hB.Zc hU10
 refine Xc [.slice a0 (2 ^ l0.toNat) c0, .int .i64 l0, .int .i64 s0, .slice a1 (2 ^ l1.toNat) c1, .int .i64 l1, .int .i64 s1, .slice a2 (2 ^ l2.toNat) c2, .int .i64 l2, .int .i64 (((cs.getD s2 (0, 0, 0)).2.2) + 0)] sizeOf3 rfl hB rfl rfl rfl rfl rfl ?_
 intro w11 hU11 hzz11 hB
 refine Za (Sn (Qs 2 rfl (Za (Zn (Zg rfl (Z9 results156 rfl) ?_)))))
 obtain ⟨s9, hs9⟩ : ∃ s9 : Nat, (s9 : Int) = ((cs.getD s2 (0, 0, 0)).2.2) + 0 := ⟨(((cs.getD s2 (0, 0, 0)).2.2) + 0).toNat, by omega⟩
 exact ⟨_, rfl, 14, n, rd, s9, rfl, ((hR.Zc hU10).Zh hU11), (by rw [hs9]; exact hB), (by omega), (by omega), ((HU.Zb hU10).Zr hU11)⟩
theorem wone25 {rr lo hi n rd lb : Nat} {mo : Bool} {a0 : Option Addr} {c0 s0 : Nat} {l0 : Int} {a1 : Option Addr} {c1 s1 : Nat} {l1 : Int} {a2 : Option Addr} {c2 s2 : Nat} {l2 : Int} {N0 N1 N2 : List Int} {d0 d1 d2 : List (Int × Int × Int)} (w : World) (hR : Rd w rr lo hi n rd) (hd : rd + n ≤ 100000000) (hB : Blk w lb [.slice a0 (2 ^ l0.toNat) c0, .int .i64 l0, .int .i64 s0, .slice a1 (2 ^ l1.toNat) c1, .int .i64 l1, .int .i64 s1, .slice a2 (2 ^ l2.toNat) c2, .int .i64 l2, .int .i64 s2]) (hT0 : Sl w (fun g => (rr < g ∧ lb < g)) 3 (.slice a0 (2 ^ l0.toNat) c0) (2 ^ l0.toNat) (rows encQ d0)) (hT1 : Sl w (fun g => (rr < g ∧ lb < g)) 3 (.slice a1 (2 ^ l1.toNat) c1) (2 ^ l1.toNat) (rows encQ d1)) (hT2 : Sl w (fun g => (rr < g ∧ lb < g)) 3 (.slice a2 (2 ^ l2.toNat) c2) (2 ^ l2.toNat) (rows encQ d2)) (ho0 : okC l0.toNat N0 d0) (hN0 : N0.length ≤ 44) (hs0 : s0 < 2 ^ l0.toNat) (hl0 : 0 ≤ l0 ∧ l0 ≤ 9) (ho1 : okC l1.toNat N1 d1) (hN1 : N1.length ≤ 28) (hs1 : s1 < 2 ^ l1.toNat) (hl1 : 0 ≤ l1 ∧ l1 ≤ 9) (ho2 : okC l2.toNat N2 d2) (hN2 : N2.length ≤ 44) (hs2 : s2 < 2 ^ l2.toNat) (hl2 : 0 ≤ l2 ∧ l2 ≤ 9) (hlb : lb < lo ∨ rr < lb) :
  Calls Tryz.prog 136 #[.pointer (some ⟨rr, 0, none⟩), .pointer (some ⟨lb, 0, none⟩), .bool (decide (mo = true))] w (Ret fun v w' => ∃ (xa : Nat) (xb : Nat) (xc : Nat) (e : Int) (n9 : Nat) (rd9 : Nat) (ta : Nat) (tb : Nat) (tc : Nat), v = .tuple #[.agg #[.int .i64 xa, .int .i64 xb, .int .i64 xc], .int .i64 e] ∧ Rd w' rr lo hi n9 rd9 ∧ Blk w' lb [.slice a0 (2 ^ l0.toNat) c0, .int .i64 l0, .int .i64 ta, .slice a1 (2 ^ l1.toNat) c1, .int .i64 l1, .int .i64 tb, .slice a2 (2 ^ l2.toNat) c2, .int .i64 l2, .int .i64 tc] ∧ n9 + rd9 = n + rd ∧ (e = 0 → 1 ≤ xc ∧ xc ≤ 10000000000 ∧ xa ≤ 10000000000 ∧ xb ≤ 10000000003) ∧ (ta < 2 ^ l0.toNat ∧ tb < 2 ^ l1.toNat ∧ tc < 2 ^ l2.toNat) ∧ Upd (fun g => g = rr ∨ g = lb) w w') := by
 have HU : Upd (fun b => b = rr ∨ b = lb) w w := Upd.refl _ _
 have hbl_hB := hB.lt
 have hl_hT0 := Ya ZP (by decide) hT0
 have hc_hT0 := hT0.cap.1
 have hl_hT1 := Ya ZP (by decide) hT1
 have hc_hT1 := hT1.cap.1
 have hl_hT2 := Ya ZP (by decide) hT2
 have hc_hT2 := hT2.cap.1
 have hrl := hR.lt
 have hrh := hR.le
 have hbl := hB.lt
 refine Zq func136 rfl ntmps136 (by simp) (Sn (ZB zeroValue201 rfl ?_))
 intro B1 w1 hB1 hU1 hzz1 hb1
 refine Qs 1 rfl (Za (Sn (Qs 2 rfl (Zf (Yj rfl) (Zf (Z0 (len := 3) (i' := 1) (o' := 3) underlying230 sizeOf229 rfl rfl (by decide) (by decide) (by decide)) ?_)))))
 replace hT1 := (hT1.tight).Zc hU1
 replace hB := hB.Zc hU1
 refine Zj (Z5 rfl call155 rfl rfl rfl) (wpart1 _ (hR.Zc hU1) (by omega) hB hT1 ho1 hN1 (by omega) hl1 (by omega)) ?_
 rintro v w2 ⟨y2, e2, n2, rd2, rfl, hR2, hn9_2, hy_2, hy1_2, hU2⟩
 have:=hU2.size
 refine Qs 5 rfl (Za (Sm (Qs 2 rfl (Za ?_))))
 replace HU := (HU.Zb hU1).Zr hU2
 replace hB := hB.Zh hU2
 replace hb1 := hb1.Zh hU2
 refine W_if rfl (fun q1 => ?_) fun q1 => ?_
 ·refine Sn (Zf (ZF (pl := #[(0, 1), (1, 1), (2, 1)]) (pv := []) (cs := #[.int .i64 0, .int .i64 0, .int .i64 0]) zeroValue201 underlying201 (fun w => by kernel_rfl)) (Qs 1 rfl (Xa sizeOf201 rfl rfl rfl rfl hb1 rfl ?_)))
  intro w3 hU3 hzz3 hb1
  exact Qs 1 rfl (Za (Zn (Zg rfl (YS results136 rfl rfl (Zu isAgg201 sizeOf201 rfl hb1)) ⟨_, rfl, 0, 0, 0, e2, n2, rd2, s0, s1, s2, rfl, (hR2.Zh hU3), (hB.Zh hU3), (by omega), (fun h => absurd h q1), ⟨by omega, by omega, by omega⟩, (HU.Zr hU3)⟩)))
 refine Zi (Sn (Qs 2 rfl (Zf (Yj rfl) (Zf (Z0 (len := 3) (i' := 2) (o' := 6) underlying230 sizeOf229 rfl rfl (by decide) (by decide) (by decide)) ?_))))
 replace hT2 := ((hT2.tight).Zc hU1).Zh hU2
 refine Zj (Z5 rfl call155 rfl rfl rfl) (wpart2 _ hR2 (by omega) hB hT2 ho2 hN2 (by omega) hl2 (by omega)) ?_
 rintro v w4 ⟨y4, e4, n4, rd4, rfl, hR4, hn9_4, hy_4, hy1_4, hU4⟩
 have:=hU4.size
 refine Qs 5 rfl (Za (Sm (Qs 2 rfl (Za ?_))))
 replace hB := hB.Zh hU4
 replace HU := HU.Zr hU4
 replace hb1 := hb1.Zh hU4
 refine W_if rfl (fun q2 => ?_) fun q2 => ?_
 ·refine Sn (Zf (ZF (pl := #[(0, 1), (1, 1), (2, 1)]) (pv := []) (cs := #[.int .i64 0, .int .i64 0, .int .i64 0]) zeroValue201 underlying201 (fun w => by kernel_rfl)) (Qs 1 rfl (Xa sizeOf201 rfl rfl rfl rfl hb1 rfl ?_)))
  intro w5 hU5 hzz5 hb1
  exact Qs 1 rfl (Za (Zn (Zg rfl (YS results136 rfl rfl (Zu isAgg201 sizeOf201 rfl hb1)) ⟨_, rfl, 0, 0, 0, e4, n4, rd4, s0, s1, s2, rfl, (hR4.Zh hU5), (hB.Zh hU5), (by omega), (fun h => absurd h q2), ⟨by omega, by omega, by omega⟩, (HU.Zr hU5)⟩)))
 refine Zi (Sn (Qs 2 rfl (Zf (Yj rfl) (Zf (Z0 (len := 3) (i' := 0) (o' := 0) underlying230 sizeOf229 rfl rfl (by decide) (by decide) (by decide)) ?_))))
 replace hT0 := (((hT0.tight).Zc hU1).Zh hU2).Zh hU4
 refine Zj (Z5 rfl call155 rfl rfl rfl) (wpart0 _ hR4 (by omega) hB hT0 ho0 hN0 (by omega) hl0 (by omega)) ?_
 rintro v w6 ⟨y6, e6, n6, rd6, rfl, hR6, hn9_6, hy_6, hy1_6, hU6⟩
 have:=hU6.size
 refine Qs 5 rfl (Za (Sm (Qs 2 rfl (Za ?_))))
 replace hB := hB.Zh hU6
 replace HU := HU.Zr hU6
 replace hb1 := hb1.Zh hU6
 refine W_if rfl (fun q3 => ?_) fun q3 => ?_
 ·refine Sn (Zf (ZF (pl := #[(0, 1), (1, 1), (2, 1)]) (pv := []) (cs := #[.int .i64 0, .int .i64 0, .int .i64 0]) zeroValue201 underlying201 (fun w => by kernel_rfl)) (Qs 1 rfl (Xa sizeOf201 rfl rfl rfl rfl hb1 rfl ?_)))
  intro w7 hU7 hzz7 hb1
  exact Qs 1 rfl (Za (Zn (Zg rfl (YS results136 rfl rfl (Zu isAgg201 sizeOf201 rfl hb1)) ⟨_, rfl, 0, 0, 0, e6, n6, rd6, s0, s1, s2, rfl, (hR6.Zh hU7), (hB.Zh hU7), (by omega), (fun h => absurd h q3), ⟨by omega, by omega, by omega⟩, (HU.Zr hU7)⟩)))
 refine Zi (Sn (Qs 2 rfl (Xd rfl rfl (Qs 1 rfl (Zf (ZF (pl := #[(0, 1), (1, 1), (2, 1)]) (pv := [(0, .int .i64 y6), (1, .int .i64 ((y4 : Int) + 3)), (2, .int .i64 y2)]) (cs := #[.int .i64 y6, .int .i64 ((y4 : Int) + 3), .int .i64 y2]) zeroValue201 underlying201 (fun w => by kernel_rfl)) (ZB zeroValue201 rfl ?_))))))
 intro B8 w8 hB8 hU8 hzz8 hb8
 refine Xa sizeOf201 rfl rfl rfl rfl hb8 rfl ?_
 intro w9 hU9 hzz9 hb8
 refine Za (Sn (Xz [.int .i64 0, .int .i64 2, .int .i64 1] underlying51 sizeOf3 zeroValue3 ?_))
 intro B10 w10 hB10 hU10 hzz10 hs10
 replace hs10 : Own w10 (Is B10) 3 1 (.slice (some ⟨B10, 0, none⟩) 3 3) 3 (ints .i64 [0, 2, 1]) := hs10
 refine Qs 1 rfl (Za (Sm (Qs 1 rfl (Za (Zs (W_unroll 4 (ZX (Sm (Qs 1 rfl (Zf (v := .bool true) (YL (a := 0) (b := 3) rfl rfl) (Qs 1 rfl (Gt (Qs 1 rfl (Zf (Zx (v := .bool (decide (mo = true))) rfl rfl) (Za ?_)))))))))))))))
 replace hB := ((hB.Zc hU8).Zh hU9).Zc hU10
 replace HU := ((HU.Zb hU8).Zr hU9).Zb hU10
 replace hb1 := ((hb1.Zc hU8).Zh hU9).Zc hU10
 replace hR6 := ((hR6.Zc hU8).Zh hU9).Zc hU10
 replace hb8 := hb8.Zc hU10
 by_cases q4 : mo = true
 ·rw [decide_eq_true q4]
  refine Ct (Zi (Zz (Zs (Zz (ZJ rfl (l0 := tf 0 10) (by kernel_rfl) (Tq rfl (Tq rfl (Tq rfl (Tq rfl ?_)))))))))
  obtain ⟨ib11, io11, ha11, hx11⟩ := Sl.at (hs10.sl) (i := 0) (by decide)
  have hc11 : w10.cell? ⟨ib11, io11 + 0 * 1, none⟩ = some (.int .i64 0) := hx11 0 (by decide)
  refine Tv rfl (fun _ _ => Yl (b := ib11) (off := io11) (m := 3) (c := 3) (o' := io11 + 0 * 1) underlying51 sizeOf3 (by rw [← ha11]; rfl) rfl (by omega) (by omega) (by omega)) (Tv rfl (v := .int .i64 0) (fun w' hw' => Yd isAgg3 rfl (hw'.Y8 hc11)) (Tq rfl (Tv rfl (fun _ _ => Z0 (len := 3) (i' := 0) (o' := 0) underlying230 sizeOf229 rfl rfl (by decide) (by decide) (by decide)) ?_)))
  intro w12 hU12
  have:=hU12.size
  refine Wo 8 (tf 9 10) rfl ?_
  have hW : Upd No w10 w12 := hU12
  refine Zj (Zy rfl call156 rfl rfl) (won0 _ (hR6.Zc hU12) (by omega) (hB.Zc hU12) (((((hT0.Zh hU6).Zc hU8).Zh hU9).Zc hU10).Zc hU12) ho0 hN0 (by omega) hl0 (by omega)) ?_
  rintro v w13 ⟨e13, n13, rd13, s13, rfl, hR13, hB13, hn9_13, hs9_13, hU13⟩
  have:=hU13.size
  have hbl_hB13 := hB13.lt
  refine Za ?_
  intro w14 hS14
  refine bT (Upd No w14) ?_
  have hU14 := hS14.upd
  have:=hU14.size
  try replace hW := hW.Zb hU14
  refine ZQ (Upd.refl _ _) (Tq rfl ?_)
  intro w15 hU15
  have:=hU15.size
  try replace hW := hW.Zb hU15
  refine Wd (Sn (Qs 2 rfl (Za ?_)))
  replace HU := (((HU.Zb hU12).trans hU13).Zb hU14).Zb hU15
  replace hb1 := (((hb1.Zc hU12).upd hU13).Zc hU14).Zc hU15
  replace hR13 := (hR13.Zc hU14).Zc hU15
  replace hB13 := (hB13.Zc hU14).Zc hU15
  refine W_if rfl (fun q5 => ?_) fun q5 => ?_
  ·refine Sn (Zf (ZF (pl := #[(0, 1), (1, 1), (2, 1)]) (pv := []) (cs := #[.int .i64 0, .int .i64 0, .int .i64 0]) zeroValue201 underlying201 (fun w => by kernel_rfl)) (Qs 1 rfl (Xa sizeOf201 rfl rfl rfl rfl hb1 rfl ?_)))
   intro w16 hU16 hzz16 hb1
   exact Qs 1 rfl (Za (Zn (Zg rfl (YS results136 rfl rfl (Zu isAgg201 sizeOf201 rfl hb1)) ⟨_, rfl, 0, 0, 0, e13, n13, rd13, s13, s1, s2, rfl, (hR13.Zh hU16), (hB13.Zh hU16), (by omega), (fun h => absurd h q5), ⟨by omega, by omega, by omega⟩, (HU.Zr hU16)⟩)))
  refine Zi (Zl (Qs 1 rfl (Zf (Yf rfl rfl (show IntKind.i64.wrap (0 + 1) = 1 by decide)) (Qs 1 rfl (Za (ZX (Sm (Qs 1 rfl (Zf (v := .bool true) (YL (a := 1) (b := 3) rfl rfl) (Qs 1 rfl (Gt (Qs 1 rfl (Zf (Zx (v := .bool true) rfl rfl) (Za (Ct (Zi (Zz (Zs (Zz (ZJ rfl (l0 := tf 0 10) (by kernel_rfl) (Tq rfl (Tq rfl (Tq rfl (Tq rfl ?_))))))))))))))))))))))))
  replace hs10 := (((hs10.Zc hU12).upd hU13).Zc hU14).Zc hU15
  obtain ⟨ib17, io17, ha17, hx17⟩ := Sl.at (hs10.sl) (i := 1) (by decide)
  have hc17 : w15.cell? ⟨ib17, io17 + 1 * 1, none⟩ = some (.int .i64 2) := hx17 0 (by decide)
  refine Tv rfl (fun _ _ => Yl (b := ib17) (off := io17) (m := 3) (c := 3) (o' := io17 + 1 * 1) underlying51 sizeOf3 (by rw [← ha17]; rfl) rfl (by omega) (by omega) (by omega)) (Tv rfl (v := .int .i64 2) (fun w' hw' => Yd isAgg3 rfl (hw'.Y8 hc17)) (Tq rfl (Tv rfl (fun _ _ => Z0 (len := 3) (i' := 2) (o' := 6) underlying230 sizeOf229 rfl rfl (by decide) (by decide) (by decide)) ?_)))
  intro w18 hU18
  have:=hU18.size
  try replace hW := hW.Zb hU18
  refine Wo 8 (tf 9 10) rfl ?_
  have hW : Upd No w15 w18 := hU18
  refine Zj (Zy rfl call156 rfl rfl) (won2 _ (hR13.Zc hU18) (by omega) (hB13.Zc hU18) ((((((((((hT2.Zh hU4).Zh hU6).Zc hU8).Zh hU9).Zc hU10).Zc hU12).upd hU13).Zc hU14).Zc hU15).Zc hU18) ho2 hN2 (by omega) hl2 (by omega)) ?_
  rintro v w19 ⟨e19, n19, rd19, s19, rfl, hR19, hB19, hn9_19, hs9_19, hU19⟩
  have:=hU19.size
  have hbl_hB19 := hB19.lt
  refine Za ?_
  intro w20 hS20
  refine bT (Upd No w20) ?_
  have hU20 := hS20.upd
  have:=hU20.size
  try replace hW := hW.Zb hU20
  refine ZQ (Upd.refl _ _) (Tq rfl ?_)
  intro w21 hU21
  have:=hU21.size
  try replace hW := hW.Zb hU21
  refine Wd (Sn (Qs 2 rfl (Za ?_)))
  replace HU := (((HU.Zb hU18).trans hU19).Zb hU20).Zb hU21
  replace hb1 := (((hb1.Zc hU18).upd hU19).Zc hU20).Zc hU21
  replace hR19 := (hR19.Zc hU20).Zc hU21
  replace hB19 := (hB19.Zc hU20).Zc hU21
  refine W_if rfl (fun q6 => ?_) fun q6 => ?_
  ·refine Sn (Zf (ZF (pl := #[(0, 1), (1, 1), (2, 1)]) (pv := []) (cs := #[.int .i64 0, .int .i64 0, .int .i64 0]) zeroValue201 underlying201 (fun w => by kernel_rfl)) (Qs 1 rfl (Xa sizeOf201 rfl rfl rfl rfl hb1 rfl ?_)))
   intro w22 hU22 hzz22 hb1
   exact Qs 1 rfl (Za (Zn (Zg rfl (YS results136 rfl rfl (Zu isAgg201 sizeOf201 rfl hb1)) ⟨_, rfl, 0, 0, 0, e19, n19, rd19, s13, s1, s19, rfl, (hR19.Zh hU22), (hB19.Zh hU22), (by omega), (fun h => absurd h q6), ⟨by omega, by omega, by omega⟩, (HU.Zr hU22)⟩)))
  refine Zi (Zl (Qs 1 rfl (Zf (Yf rfl rfl (show IntKind.i64.wrap (1 + 1) = 2 by decide)) (Qs 1 rfl (Za (ZX (Sm (Qs 1 rfl (Zf (v := .bool true) (YL (a := 2) (b := 3) rfl rfl) (Qs 1 rfl (Gt (Qs 1 rfl (Zf (Zx (v := .bool true) rfl rfl) (Za (Ct (Zi (Zz (Zs (Zz (ZJ rfl (l0 := tf 0 10) (by kernel_rfl) (Tq rfl (Tq rfl (Tq rfl (Tq rfl ?_))))))))))))))))))))))))
  obtain ⟨ib23, io23, ha23, hx23⟩ := Sl.at (((((hs10.Zc hU18).upd hU19).Zc hU20).Zc hU21).sl) (i := 2) (by decide)
  have hc23 : w21.cell? ⟨ib23, io23 + 2 * 1, none⟩ = some (.int .i64 1) := hx23 0 (by decide)
  refine Tv rfl (fun _ _ => Yl (b := ib23) (off := io23) (m := 3) (c := 3) (o' := io23 + 2 * 1) underlying51 sizeOf3 (by rw [← ha23]; rfl) rfl (by omega) (by omega) (by omega)) (Tv rfl (v := .int .i64 1) (fun w' hw' => Yd isAgg3 rfl (hw'.Y8 hc23)) (Tq rfl (Tv rfl (fun _ _ => Z0 (len := 3) (i' := 1) (o' := 3) underlying230 sizeOf229 rfl rfl (by decide) (by decide) (by decide)) ?_)))
  intro w24 hU24
  have:=hU24.size
  try replace hW := hW.Zb hU24
  refine Wo 8 (tf 9 10) rfl ?_
  have hW : Upd No w21 w24 := hU24
  refine Zj (Zy rfl call156 rfl rfl) (won1 _ (hR19.Zc hU24) (by omega) (hB19.Zc hU24) (((((((((((((((hT1.Zh hU2).Zh hU4).Zh hU6).Zc hU8).Zh hU9).Zc hU10).Zc hU12).upd hU13).Zc hU14).Zc hU15).Zc hU18).upd hU19).Zc hU20).Zc hU21).Zc hU24) ho1 hN1 (by omega) hl1 (by omega)) ?_
  rintro v w25 ⟨e25, n25, rd25, s25, rfl, hR25, hB25, hn9_25, hs9_25, hU25⟩
  have:=hU25.size
  have hbl_hB25 := hB25.lt
  refine Za ?_
  intro w26 hS26
  refine bT (Upd No w26) ?_
  have hU26 := hS26.upd
  have:=hU26.size
  try replace hW := hW.Zb hU26
  refine ZQ (Upd.refl _ _) (Tq rfl ?_)
  intro w27 hU27
  have:=hU27.size
  try replace hW := hW.Zb hU27
  refine Wd (Sn (Qs 2 rfl (Za ?_)))
  replace HU := (((HU.Zb hU24).trans hU25).Zb hU26).Zb hU27
  replace hb1 := (((hb1.Zc hU24).upd hU25).Zc hU26).Zc hU27
  replace hR25 := (hR25.Zc hU26).Zc hU27
  replace hB25 := (hB25.Zc hU26).Zc hU27
  refine W_if rfl (fun q7 => ?_) fun q7 => ?_
  ·refine Sn (Zf (ZF (pl := #[(0, 1), (1, 1), (2, 1)]) (pv := []) (cs := #[.int .i64 0, .int .i64 0, .int .i64 0]) zeroValue201 underlying201 (fun w => by kernel_rfl)) (Qs 1 rfl (Xa sizeOf201 rfl rfl rfl rfl hb1 rfl ?_)))
   intro w28 hU28 hzz28 hb1
   exact Qs 1 rfl (Za (Zn (Zg rfl (YS results136 rfl rfl (Zu isAgg201 sizeOf201 rfl hb1)) ⟨_, rfl, 0, 0, 0, e25, n25, rd25, s13, s25, s19, rfl, (hR25.Zh hU28), (hB25.Zh hU28), (by omega), (fun h => absurd h q7), ⟨by omega, by omega, by omega⟩, (HU.Zr hU28)⟩)))
  refine Zi (Zl (Qs 1 rfl (Zf (Yf rfl rfl (show IntKind.i64.wrap (2 + 1) = 3 by decide)) (Qs 1 rfl (Za (ZX (Sm (Qs 1 rfl (Zf (v := .bool false) (YL (a := 3) (b := 3) rfl rfl) (Qs 1 rfl (Gf (Zf (Zw (v := .bool false) rfl rfl) (Za (Cf (ZI (Sn (Xl isAgg201 sizeOf201 rfl ((((((((((((hb8.Zc hU12).upd hU13).Zc hU14).Zc hU15).Zc hU18).upd hU19).Zc hU20).Zc hU21).Zc hU24).upd hU25).Zc hU26).Zc hU27) rfl (Xa sizeOf201 rfl rfl rfl rfl hb1 rfl ?_))))))))))))))))))
  intro w29 hU29 hzz29 hb1
  exact Qs 1 rfl (Za (Zn (Zg rfl (YS results136 rfl rfl (Zu isAgg201 sizeOf201 rfl hb1)) ⟨_, rfl, y6, (y4 + 3), y2, 0, n25, rd25, s13, s25, s19, (by first | rfl | (rw [Int.natCast_add]; rfl)), (hR25.Zh hU29), (hB25.Zh hU29), (by omega), (fun _ => by omega), ⟨by omega, by omega, by omega⟩, (HU.Zr hU29)⟩)))
 rw [decide_eq_false q4]
 refine Cf (ZI (Sn (Xl isAgg201 sizeOf201 rfl hb8 rfl (Xa sizeOf201 rfl rfl rfl rfl hb1 rfl ?_))))
 intro w30 hU30 hzz30 hb1
 exact Qs 1 rfl (Za (Zn (Zg rfl (YS results136 rfl rfl (Zu isAgg201 sizeOf201 rfl hb1)) ⟨_, rfl, y6, (y4 + 3), y2, 0, n6, rd6, s0, s1, s2, (by first | rfl | (rw [Int.natCast_add]; rfl)), (hR6.Zh hU30), (hB.Zh hU30), (by omega), (fun _ => by omega), ⟨by omega, by omega, by omega⟩, (HU.Zr hU30)⟩)))
theorem wrow25 {a : Option Addr} {m c k : Nat} {b : List Int} {b0 : Option Addr} {n0 e0 : Nat} {l0 : Int} {N0 : List Int} {b1 : Option Addr} {n1 e1 : Nat} {l1 : Int} {N1 : List Int} {b2 : Option Addr} {n2 e2 : Nat} {l2 : Int} {N2 : List Int} (w : World) (hs : Sl w (fun g => g < w.heap.size) 1 (.slice a m c) m (ints .u8 b)) (hb : Byt b) (hm : m ≤ 1000000) (hn0 : Sl w (fun g => g < w.heap.size) 1 (.slice b0 n0 e0) n0 (ints .i64 N0)) (hn1 : Sl w (fun g => g < w.heap.size) 1 (.slice b1 n1 e1) n1 (ints .i64 N1)) (hn2 : Sl w (fun g => g < w.heap.size) 1 (.slice b2 n2 e2) n2 (ints .i64 N2)) (hM0 : MayP l0 N0 (sy3 0) (lm3 0)) (hM1 : MayP l1 N1 (sy3 1) (lm3 1)) (hM2 : MayP l2 N2 (sy3 2) (lm3 2)) (hk : k ≤ 65536) :
  Calls Tryz.prog 109 #[.slice a m c, .agg #[.int .i64 l0, .slice b0 n0 e0, .int .i64 l1, .slice b1 n1 e1, .int .i64 l2, .slice b2 n2 e2], .int .i64 k] w (Ret fun v w' => ∃ (a' : Option Addr) (m' : Nat) (c' : Nat) (xs : List (Int × Int × Int)) (e : Int), v = .tuple #[.slice a' m' c', .int .i64 e] ∧ Own w' (fun g => w.heap.size ≤ g) 201 3 (.slice a' m' c') m' (rows encQ xs) ∧ (e = 0 → okW xs) ∧ m' ≤ k ∧ Upd No w w') := by
 have HU := Upd.Yo w
 have hl_hs := ZC hs
 have hc_hs := hs.cap.1
 have hl_hn0 := ZC hn0
 have hc_hn0 := hn0.cap.1
 have hl_hn1 := ZC hn1
 have hc_hn1 := hn1.cap.1
 have hl_hn2 := ZC hn2
 have hc_hn2 := hn2.cap.1
 have hl0_0 := hM0.l0
 have hl9_0 := hM0.l9
 have hl0_1 := hM1.l0
 have hl9_1 := hM1.l9
 have hl0_2 := hM2.l0
 have hl9_2 := hM2.l9
 refine Zq func109 rfl ntmps109 (by simp) (Sn (Xb rfl ?_))
 intro B1 w1 hB1 hU1 hzz1 hb1
 refine Qs 2 rfl (Za (Sn (Qs 1 rfl ?_)))
 replace hs := hs.Zc hU1
 replace HU := HU.Zb hU1
 by_cases q1 : 0 < m ∧ b.getD (m - 1) 0 ≠ 0
 ·refine Zj (Zv rfl call133 rfl) (wbwd_ok _ hs.any hb (by omega) q1) ?_
  rintro v w2 ⟨rr2, hi2, qn2, rfl, hR2, hq_2, hU2⟩
  have:=hU2.size
  have hrl := hR2.lt
  have hrh := hR2.le
  refine Qs 5 rfl (Za (Sm (Qs 1 rfl (Zf (v := .bool false) (Yh (a := 0) (b := 0) rfl rfl) (Za (Cf (Zi (Sn (ZB zeroValue230 rfl ?_)))))))))
  intro B3 w3 hB3 hU3 hzz3 hb3
  refine Za (Sm (Qs 1 rfl (Za (Zs (W_unroll 4 (ZX (Sm (Qs 1 rfl (Zf (v := .bool true) (YL (a := 0) (b := 3) rfl rfl) (Za (Ct (Zi (Zz (Zs (Sn (Qs 1 rfl (Zf (Z0 (len := 3) (i' := 0) (o' := 0) underlying192 sizeOf53 rfl rfl (by decide) (by decide) (by decide)) ?_)))))))))))))))))
  replace hb1 := (hb1.Zc hU2).Zc hU3
  refine Xq [.int .i64 l0, .slice b0 n0 e0] isAgg53 sizeOf53 rfl hb1 rfl rfl (Zj (Zv rfl call134 rfl) (wcells _ (((hn0.Zc hU1).Zc hU2).Zc hU3).any (by have := hM0.ns; have h8 : sy3 0 ≤ 44 := (by decide); omega) (hM0.any (by decide))) ?_)
  rintro v w4 ⟨a4, c4, cs4, rfl, hO4, hoc_4, hU4⟩
  have:=hU4.size
  replace hO4 := hO4.tight
  have hl_hO4 := Ya ZP (by decide) hO4.sl
  have hc_hO4 := hO4.sl.cap.1
  have hp9_0 := p2_9 hM0.l0 hM0.l9
  refine Qs 5 rfl (Za (Sn (Qs 2 rfl (Zf (Z0 (len := 3) (i' := 0) (o' := 0) underlying192 sizeOf53 rfl rfl (by decide) (by decide) (by decide)) (Zf (Zo underlying53 rfl sizeOf3 rfl rfl) ?_)))))
  replace hb1 := hb1.Zc hU4
  refine Zk isAgg3 rfl hb1 rfl ?_
  replace HU := ((HU.Zb hU2).Zb hU3).Zb hU4
  replace hR2 := (hR2.Zc hU3).Zc hU4
  by_cases q2 : l0.toNat ≤ qn2
  ·refine Zj (Zy rfl call135 (v1 := .int .i64 ((l0.toNat : Nat) : Int)) rfl Zt) (YA _ hR2 (by omega) (by omega) q2) ?_
   rintro v w5 ⟨z5, rfl, hR5, hv_5, hU5⟩
   have:=hU5.size
   have hst0 := hv_5
   refine Qs 5 rfl (Za (Sm (Qs 1 rfl (Zf (v := .bool false) (Yh (a := 0) (b := 0) rfl rfl) (Za (Cf (Zi (Zl (Qs 3 rfl (Zf (Z0 (len := 3) (i' := 0) (o' := 0) underlying192 sizeOf53 rfl rfl (by decide) (by decide) (by decide)) (Zf (Zo underlying53 rfl sizeOf3 rfl rfl) ?_)))))))))))
   replace hb1 := hb1.Zh hU5
   refine Zk isAgg3 rfl hb1 rfl (Qs 1 rfl (Zf (ZZ underlying101 underlying3 rfl ZY) (Zf (ZF (pl := #[(0, 1), (1, 1), (2, 1)]) (pv := [(0, .slice a4 (2 ^ l0.toNat) c4), (1, .int .i64 l0), (2, .int .i64 z5)]) (cs := #[.slice a4 (2 ^ l0.toNat) c4, .int .i64 l0, .int .i64 z5]) zeroValue229 underlying229 (fun w => by kernel_rfl)) (Zf (Z0 (len := 3) (i' := 0) (o' := 0) underlying230 sizeOf229 rfl rfl (by decide) (by decide) (by decide)) ?_))))
   replace hb3 := (hb3.Zc hU4).Zh hU5
   refine Xp [.slice a4 (2 ^ l0.toNat) c4, .int .i64 l0, .int .i64 z5, .slice none 0 0, .int .i64 0, .int .i64 0, .slice none 0 0, .int .i64 0, .int .i64 0] sizeOf229 rfl rfl rfl rfl hb3 rfl rfl ?_
   intro w6 hU6 hzz6 hb3
   refine Za (Zl (Qs 1 rfl (Zf (Yf rfl rfl (show IntKind.i64.wrap (0 + 1) = 1 by decide)) (Qs 1 rfl (Za (ZX (Sm (Qs 1 rfl (Zf (v := .bool true) (YL (a := 1) (b := 3) rfl rfl) (Za (Ct (Zi (Zz (Zs (Sn (Qs 1 rfl (Zf (Z0 (len := 3) (i' := 1) (o' := 2) underlying192 sizeOf53 rfl rfl (by decide) (by decide) (by decide)) ?_)))))))))))))))))
   replace hb1 := hb1.Zh hU6
   refine Xq [.int .i64 l1, .slice b1 n1 e1] isAgg53 sizeOf53 rfl hb1 rfl rfl (Zj (Zv rfl call134 rfl) (wcells _ ((((((hn1.Zc hU1).Zc hU2).Zc hU3).Zc hU4).Zh hU5).Zh hU6).any (by have := hM1.ns; have h8 : sy3 1 ≤ 44 := (by decide); omega) (hM1.any (by decide))) ?_)
   rintro v w7 ⟨a7, c7, cs7, rfl, hO7, hoc_7, hU7⟩
   have:=hU7.size
   replace hO7 := hO7.tight
   have hl_hO7 := Ya ZP (by decide) hO7.sl
   have hc_hO7 := hO7.sl.cap.1
   have hp9_1 := p2_9 hM1.l0 hM1.l9
   refine Qs 5 rfl (Za (Sn (Qs 2 rfl (Zf (Z0 (len := 3) (i' := 1) (o' := 2) underlying192 sizeOf53 rfl rfl (by decide) (by decide) (by decide)) (Zf (Zo underlying53 rfl sizeOf3 rfl rfl) ?_)))))
   replace hb1 := hb1.Zc hU7
   refine Zk isAgg3 rfl hb1 rfl ?_
   replace HU := ((HU.t1 hU5).t1 hU6).Zb hU7
   replace hR5 := (hR5.Zh hU6).Zc hU7
   by_cases q3 : l1.toNat ≤ (qn2 - l0.toNat)
   ·refine Zj (Zy rfl call135 (v1 := .int .i64 ((l1.toNat : Nat) : Int)) rfl Zt) (YA _ hR5 (by omega) (by omega) q3) ?_
    rintro v w8 ⟨z8, rfl, hR8, hv_8, hU8⟩
    have:=hU8.size
    have hst1 := hv_8
    refine Qs 5 rfl (Za (Sm (Qs 1 rfl (Zf (v := .bool false) (Yh (a := 0) (b := 0) rfl rfl) (Za (Cf (Zi (Zl (Qs 3 rfl (Zf (Z0 (len := 3) (i' := 1) (o' := 2) underlying192 sizeOf53 rfl rfl (by decide) (by decide) (by decide)) (Zf (Zo underlying53 rfl sizeOf3 rfl rfl) ?_)))))))))))
    replace hb1 := hb1.Zh hU8
    refine Zk isAgg3 rfl hb1 rfl (Qs 1 rfl (Zf (ZZ underlying101 underlying3 rfl ZY) (Zf (ZF (pl := #[(0, 1), (1, 1), (2, 1)]) (pv := [(0, .slice a7 (2 ^ l1.toNat) c7), (1, .int .i64 l1), (2, .int .i64 z8)]) (cs := #[.slice a7 (2 ^ l1.toNat) c7, .int .i64 l1, .int .i64 z8]) zeroValue229 underlying229 (fun w => by kernel_rfl)) (Zf (Z0 (len := 3) (i' := 1) (o' := 3) underlying230 sizeOf229 rfl rfl (by decide) (by decide) (by decide)) ?_))))
    replace hb3 := (hb3.Zc hU7).Zh hU8
    refine Xp [.slice a4 (2 ^ l0.toNat) c4, .int .i64 l0, .int .i64 z5, .slice a7 (2 ^ l1.toNat) c7, .int .i64 l1, .int .i64 z8, .slice none 0 0, .int .i64 0, .int .i64 0] sizeOf229 rfl rfl rfl rfl hb3 rfl rfl ?_
    intro w9 hU9 hzz9 hb3
    refine Za (Zl (Qs 1 rfl (Zf (Yf rfl rfl (show IntKind.i64.wrap (1 + 1) = 2 by decide)) (Qs 1 rfl (Za (ZX (Sm (Qs 1 rfl (Zf (v := .bool true) (YL (a := 2) (b := 3) rfl rfl) (Za (Ct (Zi (Zz (Zs (Sn (Qs 1 rfl (Zf (Z0 (len := 3) (i' := 2) (o' := 4) underlying192 sizeOf53 rfl rfl (by decide) (by decide) (by decide)) ?_)))))))))))))))))
    replace hb1 := hb1.Zh hU9
    refine Xq [.int .i64 l2, .slice b2 n2 e2] isAgg53 sizeOf53 rfl hb1 rfl rfl (Zj (Zv rfl call134 rfl) (wcells _ (((((((((hn2.Zc hU1).Zc hU2).Zc hU3).Zc hU4).Zh hU5).Zh hU6).Zc hU7).Zh hU8).Zh hU9).any (by have := hM2.ns; have h8 : sy3 2 ≤ 44 := (by decide); omega) (hM2.any (by decide))) ?_)
    rintro v w10 ⟨a10, c10, cs10, rfl, hO10, hoc_10, hU10⟩
    have:=hU10.size
    replace hO10 := hO10.tight
    have hl_hO10 := Ya ZP (by decide) hO10.sl
    have hc_hO10 := hO10.sl.cap.1
    have hp9_2 := p2_9 hM2.l0 hM2.l9
    refine Qs 5 rfl (Za (Sn (Qs 2 rfl (Zf (Z0 (len := 3) (i' := 2) (o' := 4) underlying192 sizeOf53 rfl rfl (by decide) (by decide) (by decide)) (Zf (Zo underlying53 rfl sizeOf3 rfl rfl) ?_)))))
    replace hb1 := hb1.Zc hU10
    refine Zk isAgg3 rfl hb1 rfl ?_
    replace HU := ((HU.t1 hU8).t1 hU9).Zb hU10
    replace hR8 := (hR8.Zh hU9).Zc hU10
    by_cases q4 : l2.toNat ≤ ((qn2 - l0.toNat) - l1.toNat)
    ·refine Zj (Zy rfl call135 (v1 := .int .i64 ((l2.toNat : Nat) : Int)) rfl Zt) (YA _ hR8 (by omega) (by omega) q4) ?_
     rintro v w11 ⟨z11, rfl, hR11, hv_11, hU11⟩
     have:=hU11.size
     have hst2 := hv_11
     refine Qs 5 rfl (Za (Sm (Qs 1 rfl (Zf (v := .bool false) (Yh (a := 0) (b := 0) rfl rfl) (Za (Cf (Zi (Zl (Qs 3 rfl (Zf (Z0 (len := 3) (i' := 2) (o' := 4) underlying192 sizeOf53 rfl rfl (by decide) (by decide) (by decide)) (Zf (Zo underlying53 rfl sizeOf3 rfl rfl) (Zk isAgg3 rfl (hb1.Zh hU11) rfl (Qs 1 rfl (Zf (ZZ underlying101 underlying3 rfl ZY) (Zf (ZF (pl := #[(0, 1), (1, 1), (2, 1)]) (pv := [(0, .slice a10 (2 ^ l2.toNat) c10), (1, .int .i64 l2), (2, .int .i64 z11)]) (cs := #[.slice a10 (2 ^ l2.toNat) c10, .int .i64 l2, .int .i64 z11]) zeroValue229 underlying229 (fun w => by kernel_rfl)) (Zf (Z0 (len := 3) (i' := 2) (o' := 6) underlying230 sizeOf229 rfl rfl (by decide) (by decide) (by decide)) ?_))))))))))))))))
     replace hb3 := (hb3.Zc hU10).Zh hU11
     refine Xp [.slice a4 (2 ^ l0.toNat) c4, .int .i64 l0, .int .i64 z5, .slice a7 (2 ^ l1.toNat) c7, .int .i64 l1, .int .i64 z8, .slice a10 (2 ^ l2.toNat) c10, .int .i64 l2, .int .i64 z11] sizeOf229 rfl rfl rfl rfl hb3 rfl rfl ?_
     intro w12 hU12 hzz12 hb3
     refine Za (Zl (Qs 1 rfl (Zf (Yf rfl rfl (show IntKind.i64.wrap (2 + 1) = 3 by decide)) (Qs 1 rfl (Za (ZX (Sm (Qs 1 rfl (Zf (v := .bool false) (YL (a := 3) (b := 3) rfl rfl) (Za (Cf (ZI (Sn (Qs 1 rfl (Za (Sm (Qs 1 rfl (Za (Zs ?_)))))))))))))))))))
     replace hR11 := hR11.Zh hU12
     refine ZS (fun mu ρ ds w' => ∃ (i : Nat) (u0 : Nat) (u1 : Nat) (u2 : Nat) (n9 : Nat) (rd9 : Nat) (xs : List (Int × Int × Int)) (a9 : Option Addr) (c9 : Nat), k - i = mu ∧ ds = [] ∧ Liv ρ [(2, .int .i64 k), (8, .pointer (some ⟨rr2, 0, none⟩)), (10, .pointer (some ⟨B3, 0, none⟩)), (16, .slice a9 i c9), (17, .int .i64 i)] ∧ i ≤ k ∧ (u0 < 2 ^ l0.toNat ∧ u1 < 2 ^ l1.toNat ∧ u2 < 2 ^ l2.toNat) ∧ n9 + rd9 ≤ 100000000 ∧ okW xs ∧ Blk w' B3 [.slice a4 (2 ^ l0.toNat) c4, .int .i64 l0, .int .i64 u0, .slice a7 (2 ^ l1.toNat) c7, .int .i64 l1, .int .i64 u1, .slice a10 (2 ^ l2.toNat) c10, .int .i64 l2, .int .i64 u2] ∧ Rd w' rr2 w1.heap.size hi2 n9 rd9 ∧ Own w' (fun g => w12.heap.size ≤ g) 201 3 (.slice a9 i c9) i (rows encQ xs) ∧ Upd (fun g => g = rr2 ∨ g = B3 ∨ w12.heap.size ≤ g) w12 w') _ ⟨0, z5, z8, z11, (((qn2 - l0.toNat) - l1.toNat) - l2.toNat), (((0 + l0.toNat) + l1.toNat) + l2.toNat), [], none, 0, rfl, rfl, ⟨rfl, rfl, rfl, (by first | rfl | exact Zt (by omega) | exact Zt (by simp)), (by first | rfl | exact Zt (by omega) | exact Zt (by simp)), trivial⟩, (by omega), ⟨by omega, by omega, by omega⟩, (by omega), okW_nil, hb3, hR11, (by exact Own.nil _ _ _ _), Upd.refl _ _⟩ ?_
     rintro m13 ρ13 ds13 w13 ⟨i, u0, u1, u2, n9, rd9, xs, a9, c9, rfl, rfl, hl13, hi, hu, hnr, hxs, hb3, hR11, hO, hU13⟩
     obtain ⟨ρ13x, rfl⟩ : ∃ ρx, ρ13 = upds ρx [(2, .int .i64 k), (8, .pointer (some ⟨rr2, 0, none⟩)), (10, .pointer (some ⟨B3, 0, none⟩)), (16, .slice a9 i c9), (17, .int .i64 i)] := ⟨_, ZD hl13⟩
     replace hO4 := (((((((hO4.Zh hU5).Zh hU6).Zc hU7).Zh hU8).Zh hU9).Zc hU10).Zh hU11).Zh hU12
     replace hO7 := ((((hO7.Zh hU8).Zh hU9).Zc hU10).Zh hU11).Zh hU12
     replace HU := (HU.t1 hU11).t1 hU12
     replace hO10 := (hO10.Zh hU11).Zh hU12
     clear hl13
     have:=hU13.size
     replace hO := hO.tight
     have hl_hO := Ya ZP (by decide) hO.sl
     have hc_hO := hO.sl.cap.1
     have hrl := hR11.lt
     have hrh := hR11.le
     have HL13 := hU13
     refine Sm (Qs 3 rfl (Za ?_))
     replace HU := HU.trans hU13
     refine W_if rfl (fun q5 => ?_) fun q5 => ?_
     ·refine Zi (Zz (Zs (Sn (Qs 2 rfl (Xd rfl rfl (Qs 2 rfl (Zj (Z5 rfl call136 (v2 := .bool (decide ((decide (((i : Int) + 1) < (k : Int))) = true))) rfl rfl (vbool (by rw [decide_eq_true_eq]))) (wone25 _ hR11 (by omega) hb3 (((hO4.upd hU13).sl.weak)) (((hO7.upd hU13).sl.weak)) (((hO10.upd hU13).sl.weak)) hoc_4 (by have := hM0.ns; have h8 : sy3 0 = 44 := (by decide); omega) (by omega) ⟨hM0.l0, hM0.l9⟩ hoc_7 (by have := hM1.ns; have h8 : sy3 1 = 28 := (by decide); omega) (by omega) ⟨hM1.l0, hM1.l9⟩ hoc_10 (by have := hM2.ns; have h8 : sy3 2 = 44 := (by decide); omega) (by omega) ⟨hM2.l0, hM2.l9⟩ (by omega)) ?_)))))))
      rintro v w14 ⟨xa14, xb14, xc14, e14, n14, rd14, ta14, tb14, tc14, rfl, hR14, hB14, hn9_14, hx_14, hts_14, hU14⟩
      have:=hU14.size
      have hbl_hB14 := hB14.lt
      obtain ⟨hu0, hu1, hu2⟩ := hts_14
      refine Qs 3 rfl (ZB zeroValue201 rfl ?_)
      intro B15 w15 hB15 hU15 hzz15 hb15
      refine Xa sizeOf201 rfl rfl rfl rfl hb15 rfl ?_
      intro w16 hU16 hzz16 hb15
      refine Qs 1 rfl (Za (Sm (Qs 2 rfl (Za ?_))))
      by_cases q6 : e14 ≠ 0
      ·rw [decide_eq_true q6]
       exact Ct (Sn (Qs 3 rfl (Za (Zn (Zg rfl (Z2 results109 rfl rfl) ⟨_, rfl, none, 0, 0, [], e14, rfl, Own.nil _ _ _ _, (fun _ => okW_nil), (by omega), (((HU.trans hU14).Zb hU15).t1 hU16)⟩)))))
      have hxx := hx_14 (Classical.not_not.1 q6)
      rw [decide_eq_false q6]
      refine Cf (Zi (Zl (Qs 1 rfl (Xl isAgg201 sizeOf201 rfl hb15 rfl (Xz [.int .i64 xa14, .int .i64 xb14, .int .i64 xc14] underlying195 sizeOf201 zeroValue201 ?_)))))
      intro B17 w17 hB17 hU17 hzz17 hs17
      replace hs17 : Own w17 (Is B17) 201 3 (.slice (some ⟨B17, 0, none⟩) 1 1) 1 (rows encQ [((xa14 : Int), (xb14 : Int), (xc14 : Int))]) := hs17
      replace hO := (((hO.upd hU14).Zc hU15).Zh hU16).Zc hU17
      refine Ye (cs3 := rows encQ (xs ++ [((xa14 : Int), (xb14 : Int), (xc14 : Int))])) (tot := i + 1) (by first | rfl | exact (ZR _ _).symm | simp) underlying195 (ti := Tryz.t201) (z := .agg #[.int .i64 0, .int .i64 0, .int .i64 0]) (sz := 3) (by' := 24) rfl rfl rfl rfl rfl (by decide) rfl hO rfl hs17.sl (Yn encQ_one _) (by omega) (by simp only [maxLen]; omega) (by omega) ?_
      intro a18 c18 w18 hU18 hzz18 hO18
      replace HU := ((HU.trans hU14).Zb hU15).t1 hU16
      replace HL13 := (((HL13.trans hU14).Zb hU15).Zr hU16).Zb hU17
      replace hR14 := ((hR14.Zc hU15).Zh hU16).Zc hU17
      replace hB14 := ((hB14.Zc hU15).Zh hU16).Zc hU17
      clear hO
      have:=hU18.size
      replace hO18 := hO18.tight
      have hl_hO18 := Ya ZP (by decide) hO18.sl
      have hc_hO18 := hO18.sl.cap.1
      refine Qs 1 rfl (Za (Zl (Qs 1 rfl (Xd rfl rfl (Qs 1 rfl (Za ?_))))))
      refine ⟨_, ?_, (i + 1), ta14, tb14, tc14, n14, rd14, (xs ++ [((xa14 : Int), (xb14 : Int), (xc14 : Int))]), a18, c18, rfl, rfl, ⟨rfl, rfl, rfl, rfl, Zt, trivial⟩, (by omega), ⟨by omega, by omega, by omega⟩, (by omega), (okW_snoc hxs ⟨⟨by dsimp only; omega, by dsimp only; omega⟩, ⟨by dsimp only; omega, by dsimp only; omega⟩, by dsimp only; omega, by dsimp only; omega⟩), (hB14.upd hU18), (hR14.upd hU18), hO18.weak, (HL13.trans hU18)⟩
      omega
     refine ZI (Sm (Qs 1 rfl ?_))
     obtain ⟨hrl19, hrh19, ra19, rc19, rx19, hrB19, hrS19⟩ := hR11
     have hrz19 := hrB19.lt
     have hl_hrS19 := Ya Z4 (by decide) hrS19
     have hc_hrS19 := hrS19.cap.1
     refine Zf (Yj rfl) (Zf (Zo underlying240 rfl sizeOf238 rfl rfl) (Zk isAgg238 rfl hrB19 rfl (Zf (ZM underlying238 rfl) (Qs 1 rfl (Za (W_if rfl (fun q7 => ?_) fun q7 => ?_))))))
     ·exact Sn (Qs 2 rfl (Za (Zn (Zg rfl (Z2 results109 rfl rfl) ⟨_, rfl, none, 0, 0, [], 14, rfl, Own.nil _ _ _ _, (fun _ => okW_nil), (by omega), HU⟩))))
     exact Zi (Sn (Qs 3 rfl (Za (Zn (Zg rfl (Z2 results109 rfl rfl) ⟨_, rfl, a9, i, c9, xs, 0, rfl, hO.weak, (fun _ => hxs), (by omega), HU⟩)))))
    refine Zj (Zy rfl call135 (v1 := .int .i64 ((l2.toNat : Nat) : Int)) rfl Zt) (YB _ hR8 (by omega) q4) ?_
    rintro v w20 ⟨rfl, hR20, hU20⟩
    have:=hU20.size
    exact Qs 5 rfl (Za (Sm (Qs 1 rfl (Zf (v := .bool true) (Yh (a := 14) (b := 0) rfl rfl) (Za (Ct (Sn (Qs 3 rfl (Za (Zn (Zg rfl (Z2 results109 rfl rfl) ⟨_, rfl, none, 0, 0, [], 14, rfl, Own.nil _ _ _ _, (fun _ => okW_nil), (by omega), (HU.Zb hU20)⟩)))))))))))
   refine Zj (Zy rfl call135 (v1 := .int .i64 ((l1.toNat : Nat) : Int)) rfl Zt) (YB _ hR5 (by omega) q3) ?_
   rintro v w21 ⟨rfl, hR21, hU21⟩
   have:=hU21.size
   exact Qs 5 rfl (Za (Sm (Qs 1 rfl (Zf (v := .bool true) (Yh (a := 14) (b := 0) rfl rfl) (Za (Ct (Sn (Qs 3 rfl (Za (Zn (Zg rfl (Z2 results109 rfl rfl) ⟨_, rfl, none, 0, 0, [], 14, rfl, Own.nil _ _ _ _, (fun _ => okW_nil), (by omega), (HU.Zb hU21)⟩)))))))))))
  refine Zj (Zy rfl call135 (v1 := .int .i64 ((l0.toNat : Nat) : Int)) rfl Zt) (YB _ hR2 (by omega) q2) ?_
  rintro v w22 ⟨rfl, hR22, hU22⟩
  have:=hU22.size
  exact Qs 5 rfl (Za (Sm (Qs 1 rfl (Zf (v := .bool true) (Yh (a := 14) (b := 0) rfl rfl) (Za (Ct (Sn (Qs 3 rfl (Za (Zn (Zg rfl (Z2 results109 rfl rfl) ⟨_, rfl, none, 0, 0, [], 14, rfl, Own.nil _ _ _ _, (fun _ => okW_nil), (by omega), (HU.Zb hU22)⟩)))))))))))
 refine Zj (Zv rfl call133 rfl) (wbwd_no _ hs.any hb (by omega) q1) ?_
 rintro v w23 ⟨rfl, hU23⟩
 have:=hU23.size
 exact Qs 5 rfl (Za (Sm (Qs 1 rfl (Zf (v := .bool true) (Yh (a := 14) (b := 0) rfl rfl) (Za (Ct (Sn (Qs 3 rfl (Za (Zn (Zg rfl (Z2 results109 rfl rfl) ⟨_, rfl, none, 0, 0, [], 14, rfl, Own.nil _ _ _ _, (fun _ => okW_nil), (by omega), (HU.Zb hU23)⟩)))))))))))
end Go.Proofs.YtbjjhfoeckkacaaGreatDoor
