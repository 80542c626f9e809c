/-
  Several texts of this project, put together.
-/
import Derived.Test.YtbjjhfoeckkacaaGreatDoorFZ
import Derived.Test.YtbjjhfoeckkacaaGreatDoorGF
import Derived.Test.YtbjjhfoeckkacaaGreatDoorTL
import Derived.Test.YtbjjhfoeckkacaaGreatDoorSA
set_option linter.unusedVariables false
set_option linter.unusedSimpArgs false
set_option linter.deprecated false
set_option maxRecDepth 100000
set_option maxHeartbeats 16000000
namespace Go.Proofs.YtbjjhfoeckkacaaGreatDoor
open Go.Fw _root_.Go.Proofs.Tryz
theorem Yv {x : Int} {g0 : Nat} (w : World) (ht : Tab w g0) (hr : rg x) : Calls Tryz.prog 38 #[.int .i64 x] w (Ret fun v w' => v = .string (strOfNums (dig x)) ∧ Upd No w w') :=
 (Tryz.strconv_Itoa x hr.1 hr.2 w ht.2.here).mono (by
  rintro e w' ⟨rfl, k, os, rfl⟩
  exact ⟨_, rfl, by rw [ba_nums]; rfl, upd_of_below (Lib.below_grow _ _ (Nat.le_refl _) k os)⟩)
theorem small_spec {u : Nat} (w : World) (hu : u < 100) : Calls Tryz.prog 114 #[.int .i64 (u : Int)] w (Ret fun v w' => v = .string (strOfNums (digN u)) ∧ Upd No w w') :=
 (Tryz.internal_strconv_small u hu w).mono (by
  rintro e w' ⟨rfl, rfl⟩
  exact ⟨_, rfl, by rw [ba_nums]; rfl, Upd.refl _ _⟩)
theorem ndig_spec {u g0 : Nat} (w : World) (ht : Tab w g0) (hu : 1 ≤ u ∧ u < 18446744073709551616) : Calls Tryz.prog 115 #[.int .u64 (u : Int)] w (Ret fun v w' => v = .int .i64 ((Lib.nDigits u : Nat) : Int) ∧ Upd No w w') :=
 (Tryz.internal_strconv_numDigits u hu.1 hu.2 w ht.2.here).mono (by
  rintro e w' ⟨rfl, rfl⟩
  exact ⟨_, rfl, rfl, Upd.refl _ _⟩)
theorem nd20 {u : Nat} (hu : u < 18446744073709551616) : 1 ≤ Lib.nDigits u ∧ Lib.nDigits u ≤ 20 := ⟨Lib.nDigits_pos u, nd_le 19 u (by omega)⟩
theorem fb10_spec {B u : Nat} (w : World) (hB : Blk w B (ints .u8 (List.replicate 24 0))) (hu : 1 ≤ u ∧ u < 18446744073709551616) :
  Calls Tryz.prog 116 #[.slice (some ⟨B, 0, none⟩) (Lib.nDigits u) 24, .int .u64 (u : Int)] w (Ret fun v w' => v = .tuple #[] ∧ Sl w' (fun g => g = B) 1 (.slice (some ⟨B, 0, none⟩) (Lib.nDigits u) 24) (Lib.nDigits u) (ints .u8 (digN u)) ∧ Upd (Is B) w w') := by
 have hd := nd20 hu.2
 obtain ⟨T, hT⟩ := hB
 have hH : Go.Sort.Holds (fun (b : UInt8) => Value.int .u8 (b.toNat : Int)) w B 0 (Array.replicate (Lib.nDigits u) (0 : UInt8)) := by
  intro j hj
  have hj2 : j < Lib.nDigits u := by simpa using hj
  refine ⟨?_, ?_⟩
  ·simp only [World.cell?, hT, Nat.zero_add, Option.isSome_none, Bool.false_eq_true, if_false]
   have hg : (ints .u8 (List.replicate 24 0)).toArray[j]? = some (.int .u8 0) := by
    rw [List.getElem?_toArray, ints, List.map_replicate, List.getElem?_replicate, if_pos (by omega)]
   rw [hg, getElem!_pos _ j hj, Array.getElem_replicate]
   rfl
  simp [World.frozen?, hT]
 have hc := Tryz.internal_strconv_formatBase10 B 0 24 u (Array.replicate (Lib.nDigits u) (0 : UInt8)) w hH (by rw [Array.size_replicate]; exact Lib.lt_pow_nDigits u) hu.2 (by rw [Array.size_replicate]; omega)
 rw [Array.size_replicate] at hc
 refine hc.mono ?_
 rintro e w' ⟨rfl, n, v', dk, rfl, hF⟩
 have hsz : dk.size = Lib.nDigits u := hF.size
 refine ⟨_, rfl, rfl, ?_, ?_⟩
 ·have hcell : ∀ i, i < Lib.nDigits u → ((Go.Sort.putRow (fun (b : UInt8) => Value.int .u8 (b.toNat : Int)) w B 0 dk).drewN n).cell? ⟨B, i, none⟩ = (ints .u8 (digN u))[i]? := by
   intro i hi
   have h1 := Go.Sort.cell?_putRow (fun (b : UInt8) => Value.int .u8 (b.toNat : Int)) w B 0 _ dk hH (by rw [hsz, Array.size_replicate]) i (by omega)
   rw [World.cell?_drewN]
   rw [Nat.zero_add] at h1
   rw [h1]
   have hl : i < (Lib.decDigits u).length := by rw [Lib.decDigits_length]; exact hi
   rw [← Lib.row_is_numeral hF i hl]
   simp [ints, digN, nums, List.getElem?_eq_getElem hl]
  refine ⟨by rw [digN, ints, List.length_map, nums_len, Lib.decDigits_length]; omega, _, _, rfl, by omega, by simp only [maxLen]; omega, Or.inr ?_⟩
  have h0 := hcell 0 (by omega)
  cases hb : ((Go.Sort.putRow (fun (b : UInt8) => Value.int .u8 (b.toNat : Int)) w B 0 dk).drewN n).heap[B]? with
  | none => simp only [World.cell?, hb] at h0; rw [List.getElem?_eq_getElem (by rw [digN, ints, List.length_map, nums_len, Lib.decDigits_length]; omega)] at h0; simp at h0
  | some o =>
   cases o with
   | cells c t f =>
    refine ⟨B, 0, c, t, f, rfl, rfl, hb, fun i hi => ?_⟩
    have h1 := hcell i (by omega)
    simp only [World.cell?, hb, Option.isSome_none, Bool.false_eq_true, if_false] at h1
    rw [Nat.zero_add]; exact h1
   | _ => simp only [World.cell?, hb] at h0; rw [List.getElem?_eq_getElem (by rw [digN, ints, List.length_map, nums_len, Lib.decDigits_length]; omega)] at h0; simp at h0
 refine ⟨rfl, rfl, rfl, by simp, fun b hb hs => ?_⟩
 show ((Go.Sort.putRow _ w B 0 dk).drewN n).heap[b]? = _
 rw [World.heap_drewN]
 simp only [Go.Sort.putRow, Go.Sort.mapBlock]
 rw [Array.getElem?_modify, if_neg (fun h => hs h.symm)]
theorem joinL_eq (l : List (List Int)) (h : ∀ x ∈ l, Byt x) : nums (Lib.join ((l.map strOfNums).map (·.data.toList)) [32]) = jnw l := by
 cases l with
 | nil => rfl
 | cons x r =>
  rw [List.map_cons, List.map_cons, Lib.join_cons, jnw_cons, nums_app, strOfNums_nums (h x (by simp))]
  congr 1
  have hr : ∀ y ∈ r, Byt y := fun y hy => h y (by simp [hy])
  clear h
  induction r with
  | nil => rfl
  | cons y r ih =>
   simp only [Lib.joinTail, List.map_cons, List.flatten_cons, nums_app] at ih ⊢
   rw [ih fun z hz => hr z (by simp [hz]), strOfNums_nums (hr y (by simp))]
   rfl
theorem join_spec {R : Nat → Prop} {a : Option Addr} {n c : Nat} {l : List (List Int)} (w : World) (hs : Sl w R 1 (.slice a n c) n (rows encS l)) (hb : ∀ x ∈ l, Byt x) (hl : ∀ x ∈ l, x.length ≤ 200) (hn : n ≤ 1000000) :
  Calls Tryz.prog 63 #[.slice a n c, .string (strOfNums [32])] w (Ret fun v w' => v = .string (strOfNums (jnw l)) ∧ Upd No w w') := by
 have hlen : l.length = n := Ya Y1 (by decide) hs
 have hj : ∀ l : List (List Int), (∀ x ∈ l, Byt x) → ByteArray.mk (Lib.join ((l.map strOfNums).map (·.data.toList)) (strOfNums [32]).data.toList).toArray = strOfNums (jnw l) := fun l h => by rw [ba_nums, show (strOfNums [32]).data.toList = [32] from rfl, joinL_eq l h]
 obtain ⟨h1, a', cap, h2, h3, h4, h5⟩ := hs
 simp only [Value.slice.injEq] at h2
 obtain ⟨rfl, _, rfl⟩ := h2
 rcases h5 with h0 | ⟨b, off, cc, t, f, rfl, hR, hh, hcc⟩
 ·obtain rfl : l = [] := List.eq_nil_of_length_eq_zero (by omega)
  subst h0
  exact (Tryz.strings_Join_none _ _ _ w).mono (by rintro e w' ⟨rfl, rfl⟩; exact ⟨_, rfl, rfl, Upd.refl _ _⟩)
 have hcells : ∀ (j : Nat) x, (l.map strOfNums)[j]? = some x → w.cell? ⟨b, off + j, none⟩ = some (.string x) := by
  intro j x hx
  rw [List.getElem?_map] at hx
  cases hy : l[j]? with
  | none => rw [hy] at hx; cases hx
  | some y =>
   rw [hy] at hx
   obtain rfl : strOfNums y = x := by simpa using hx
   have hjl : j < l.length := (List.getElem?_eq_some_iff.1 hy).1
   have h6 := hcc j (by omega)
   have h7 := rows_get Y1 [] l j 0 hjl (by decide)
   simp only [World.cell?, hh, Option.isSome_none, Bool.false_eq_true, if_false]
   rw [h6]
   rw [Nat.mul_one, Nat.add_zero] at h7
   rw [h7, List.getD_eq_getElem?_getD, hy]; rfl
 have := Tryz.strings_Join b off c (l.map strOfNums) (strOfNums [32]) w hcells (Array.getElem?_eq_some_iff.1 hh).1 (by simp; omega) (by simp; omega) (by
  have e : (Lib.join ((l.map strOfNums).map (·.data.toList)) (strOfNums [32]).data.toList).length = (jnw l).length := by
   rw [← nums_len, show (strOfNums [32]).data.toList = [32] from rfl, joinL_eq l hb]
  have := jnw_len (l := l) (k := 200) hl
  rw [e]; omega)
 rw [List.length_map, hlen] at this
 refine this.mono ?_
 rintro e w' ⟨rfl, hbw⟩
 exact ⟨_, rfl, by rw [hj l hb], upd_of_below hbw⟩
theorem iformat_spec {u g0 : Nat} (w : World) (ht : Tab w g0) (hu : u < 18446744073709551616) :
  Calls Tryz.prog 93 #[.int .u64 u, .int .i64 10] w (Ret fun v w' => v = .string (strOfNums (digN u)) ∧ Upd No w w') := by
 have HU := Upd.Yo w
 have hnd := nd20 hu
 have htl := ht.1
 refine Zq func93 rfl ntmps93 (by simp) (Sn (Qs 1 rfl (Za (Sm (Qs 1 rfl (Zf (v := .bool true) (YK (a := 10) (b := 10) rfl rfl) (Za (Ct (Sm (Qs 2 rfl (Za (W_if rfl (fun q1 => ?_) fun q1 => ?_))))))))))))
 ·refine Sn (Qs 1 rfl (Zf (ZZ underlying101 underlying3 rfl ZY) (Zj (Zv rfl call114 rfl) (small_spec _ (by omega)) ?_)))
  rintro v w1 ⟨rfl, hU1⟩
  have:=hU1.size
  exact Qs 1 rfl (Za (Zn (Zg rfl (Z9 results93 rfl) ⟨_, rfl, rfl, (HU.Zb hU1)⟩)))
 refine Zi (Sn (ZB zeroValue208 rfl ?_))
 intro B2 w2 hB2 hU2 hzz2 hb2
 replace hb2 : Blk w2 B2 (ints .u8 ([0, 0, 0, 0, 0, 0, 0, 0, 0, 0, 0, 0, 0, 0, 0, 0, 0, 0, 0, 0, 0, 0, 0, 0])) := hb2
 refine Za (Sn (Qs 1 rfl (Zj (Zv rfl call115 rfl) (ndig_spec _ (ht.Zc hU2) (by omega)) ?_)))
 rintro v w3 ⟨rfl, hU3⟩
 have:=hU3.size
 refine Qs 1 rfl (Za (Sn (Qs 1 rfl (Zf (r_slicearrh (h' := (Lib.nDigits u)) (len := 24) underlying208 sizeOf5 rfl rfl rfl (by omega)) (Qs 1 rfl (Zj (Zy rfl call116 rfl rfl) (fb10_spec _ (hb2.Zc hU3) (by omega)) ?_))))))
 rintro v w4 ⟨rfl, hS4, hU4⟩
 have:=hU4.size
 exact Za (Sn (Qs 1 rfl (Zf (r_slicearrh (h' := (Lib.nDigits u)) (len := 24) underlying208 sizeOf5 rfl rfl rfl (by omega)) (Wl_bstr underlying22 underlying5 underlying9 rfl hS4 (Qs 1 rfl (Za (Zn (Zg rfl (Z9 results93 rfl) ⟨_, rfl, rfl, (((HU.Zb hU2).Zb hU3).t1 hU4)⟩))))))))
theorem format_spec {u g0 : Nat} (w : World) (ht : Tab w g0) (hu : u < 18446744073709551616) :
  Calls Tryz.prog 69 #[.int .u64 u, .int .i64 10] w (Ret fun v w' => v = .string (strOfNums (digN u)) ∧ Upd No w w') := by
 have HU := Upd.Yo w
 refine Zq func69 rfl ntmps69 (by simp) (Sn (Qs 1 rfl (Za (Sn (Qs 2 rfl (Zj (Zy rfl call93 rfl rfl) (iformat_spec _ ht (by omega)) ?_))))))
 rintro v w1 ⟨rfl, hU1⟩
 have:=hU1.size
 exact Qs 1 rfl (Za (Zn (Zg rfl (Z9 results69 rfl) ⟨_, rfl, rfl, (HU.Zb hU1)⟩)))
end Go.Proofs.YtbjjhfoeckkacaaGreatDoor
