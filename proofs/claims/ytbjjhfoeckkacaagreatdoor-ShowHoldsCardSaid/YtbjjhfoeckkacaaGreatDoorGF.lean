/-
  Several texts of this project, put together.
-/
import Derived.Test.YtbjjhfoeckkacaaGreatDoorFZ
import Derived.Test.YtbjjhfoeckkacaaGreatDoorGD
set_option linter.unusedVariables false
set_option linter.unusedSimpArgs false
set_option maxRecDepth 100000
set_option maxHeartbeats 16000000
namespace Go.Proofs.YtbjjhfoeckkacaaGreatDoor
open Go.Fw _root_.Go.Proofs.Tryz
theorem rkind_short {a : Option Addr} {n c p : Nat} {bs : List Int} (w : World) (hs : Sl w (fun g => g < w.heap.size) 1 (.slice a n c) n (ints .u8 bs)) (hb : Byt bs) (hpn : p ≤ n) (hn : n ≤ 140737488355328) (h3 : n < p + 3) :
  Calls Tryz.prog 57 #[.slice a n c, .int .i64 p] w (Ret fun v w' => v = .tuple #[.int .i64 0, .int .i64 0, .bool false, .bool false] ∧ Upd No w w') := by
 have HU := Upd.Yo w
 have hl_hs := ZC hs
 have hc_hs := hs.cap.1
 refine Zq func57 rfl ntmps57 (by simp) (Sn (Qs 4 rfl (Za (Sm (Qs 1 rfl (Zf (ZM underlying22 rfl) (Qs 1 rfl (Xs rfl rfl (Qs 1 rfl (Za ?_))))))))))
 have q1 : ((n : Int) - (p : Int)) < 3 := (by omega)
 rw [decide_eq_true q1]
 exact Ct (Sn (Qs 4 rfl (Za (Zn (Zg rfl (res4 results57 rfl rfl rfl rfl) ⟨_, rfl, rfl, HU⟩)))))
theorem rkind_ok {a : Option Addr} {n c p : Nat} {bs : List Int} (w : World) (hs : Sl w (fun g => g < w.heap.size) 1 (.slice a n c) n (ints .u8 bs)) (hb : Byt bs) (hpn : p ≤ n) (hn : n ≤ 140737488355328) (h3 : ¬ n < p + 3) :
  Calls Tryz.prog 57 #[.slice a n c, .int .i64 p] w (Ret fun v w' => v = .tuple #[.int .i64 (bkd bs p), .int .i64 (bsz bs p), .bool (decide (bla bs p = true)), .bool true] ∧ Upd No w w') := by
 have HU := Upd.Yo w
 have hl_hs := ZC hs
 have hc_hs := hs.cap.1
 have hq0 := Yi hb p
 have hq1 := Yi hb ((p : Int) + 1).toNat
 have hq2 := Yi hb ((p : Int) + 2).toNat
 have hbn := bnum_bd hb p
 refine Zq func57 rfl ntmps57 (by simp) (Sn (Qs 4 rfl (Za (Sm (Qs 1 rfl (Zf (ZM underlying22 rfl) (Qs 1 rfl (Xs rfl rfl (Qs 1 rfl (Za ?_))))))))))
 have q1 : ¬ (((n : Int) - (p : Int)) < 3) := (by omega)
 rw [decide_eq_false q1]
 refine Cf (Zi (Zz (ZJ rfl (l0 := tf 0 22) (by kernel_rfl) (Tq rfl (Tq rfl ?_)))))
 obtain ⟨ib1, io1, ha1, hib1, hc1⟩ := (hs).iat (i := p) (by omega)
 replace hib1 : ib1 < w.heap.size := hib1
 refine Tv rfl (fun _ _ => Yl (b := ib1) (off := io1) (m := n) (c := c) (o' := io1 + p) underlying22 sizeOf5 (by rw [← ha1]; rfl) rfl (by omega) (by omega) (by omega)) (Tv rfl (v := .int .u8 (bs.getD p 0)) (fun w' hw' => Yd isAgg5 rfl (hw'.Y8 hc1)) (Tv rfl (fun _ _ => ZZ underlying5 underlying3 rfl ZY) (Tq rfl (Tq rfl (Tv rfl (fun _ _ => Yf rfl rfl ZY) ?_)))))
 obtain ⟨ib2, io2, ha2, hib2, hc2⟩ := (hs).iat (i := ((p : Int) + 1).toNat) (by omega)
 replace hib2 : ib2 < w.heap.size := hib2
 refine Tv rfl (fun _ _ => Yl (b := ib2) (off := io2) (m := n) (c := c) (o' := io2 + ((p : Int) + 1).toNat) underlying22 sizeOf5 (by rw [← ha2]; rfl) rfl (by omega) (by omega) (by omega)) (Tv rfl (v := .int .u8 (bs.getD ((p : Int) + 1).toNat 0)) (fun w' hw' => Yd isAgg5 rfl (hw'.Y8 hc2)) (Tv rfl (fun _ _ => ZZ underlying5 underlying3 rfl ZY) (Tv rfl (fun _ _ => YM rfl rfl ZY) (Tv rfl (fun _ _ => Yf rfl rfl ZY) (Tq rfl (Tq rfl (Tv rfl (fun _ _ => Yf rfl rfl ZY) ?_)))))))
 obtain ⟨ib3, io3, ha3, hib3, hc3⟩ := (hs).iat (i := ((p : Int) + 2).toNat) (by omega)
 replace hib3 : ib3 < w.heap.size := hib3
 refine Tv rfl (fun _ _ => Yl (b := ib3) (off := io3) (m := n) (c := c) (o' := io3 + ((p : Int) + 2).toNat) underlying22 sizeOf5 (by rw [← ha3]; rfl) rfl (by omega) (by omega) (by omega)) (Tv rfl (v := .int .u8 (bs.getD ((p : Int) + 2).toNat 0)) (fun w' hw' => Yd isAgg5 rfl (hw'.Y8 hc3)) (Tv rfl (fun _ _ => ZZ underlying5 underlying3 rfl ZY) (Tv rfl (fun _ _ => YM rfl rfl ZY) (Tv rfl (fun _ _ => Yf rfl rfl ZY) (Tq rfl ?_)))))
 rw [show (((bs.getD p 0) + (256 * (bs.getD ((p : Int) + 1).toNat 0))) + (65536 * (bs.getD ((p : Int) + 2).toNat 0)) : Int) = bnum bs p from by unfold bnum; rw [show ((p : Int) + 1).toNat = p + 1 from by omega, show ((p : Int) + 2).toNat = p + 2 from by omega]]
 intro w4 hU4
 have:=hU4.size
 replace hc1 := ZG hU4 hc1
 replace hc2 := ZG hU4 hc2
 replace hc3 := ZG hU4 hc3
 refine Wd (Sn (Qs 1 rfl (Zf (YT rfl rfl (by omega) (tq (by omega) ZY)) (Zf (YW rfl rfl (by omega) (tr (by omega))) (Qs 1 rfl (Zf (YT rfl rfl (by omega) (tq (by omega) ZY)) (Qs 1 rfl (Zf (YW rfl rfl (by omega) (tr (by omega))) (Qs 5 rfl (Za (Zn (Zg (v := .tuple #[.int .i64 (((bnum bs p) / 2) % 4), .int .i64 ((bnum bs p) / 8), .bool (decide (((bnum bs p) % 2) = 1)), .bool true]) rfl (res4 results57 rfl rfl rfl rfl) ?_))))))))))))
 exact ⟨_, rfl, (vtup4 rfl rfl (vbool bla_iff) rfl), (HU.Zb hU4)⟩
end Go.Proofs.YtbjjhfoeckkacaaGreatDoor
