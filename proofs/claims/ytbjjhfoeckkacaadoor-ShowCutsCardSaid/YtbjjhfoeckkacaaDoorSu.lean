/-
  Several texts of this project, put together.
-/
import Derived.Test.YtbjjhfoeckkacaaDoorSQ
set_option linter.unusedVariables false
set_option linter.unusedSimpArgs false
set_option linter.deprecated false
set_option maxRecDepth 100000
namespace Go.Proofs.YtbjjhfoeckkacaaDoor
open Go.Fw _root_.Go.Proofs.Tryd
theorem cnt_snoc {L : List PT} {c : Int} {k : Nat} (h : k < L.length) : cnt c (L.take (k + 1)) = cnt c (L.take k) + (if (L.getD k pt0).at_ + (L.getD k pt0).sz ≤ c then 1 else 0) := by
 rw [tk_snoc L pt0 h]
 unfold cnt
 rw [List.filter_append, List.length_append]
 by_cases h1 : (L.getD k pt0).at_ + (L.getD k pt0).sz ≤ c
 ·rw [if_pos h1, List.filter_cons_of_pos (by simpa using h1)]; rfl
 rw [if_neg h1, List.filter_cons_of_neg (by simpa using h1)]; rfl
theorem whl_snoc {L : List PT} {c : Int} {k : Nat} (h : k < L.length) : whl c (L.take (k + 1)) = (whl c (L.take k) || decide ((L.getD k pt0).at_ + (L.getD k pt0).sz = c)) := by
 rw [tk_snoc L pt0 h]
 unfold whl
 rw [List.any_append, List.any_cons, List.any_nil, Bool.or_false]
theorem cnt_le {L : List PT} {c : Int} : cnt c L ≤ L.length := List.length_filter_le _ _
theorem ga_end2 {bs : List Int} (hb : Byt bs) (hn : bs.length ≤ 100000) (k : Nat) : 0 ≤ ((ga bs 0).1.getD k pt0).at_ + ((ga bs 0).1.getD k pt0).sz ∧ ((ga bs 0).1.getD k pt0).at_ + ((ga bs 0).1.getD k pt0).sz ≤ 100000 := by
 rw [List.getD_eq_getElem?_getD]
 cases h : (ga bs 0).1[k]? with
 | none => exact ⟨by decide, by decide⟩
 | some x =>
  have := ga_ends 0 x (List.mem_of_getElem? h)
  show 0 ≤ x.at_ + x.sz ∧ x.at_ + x.sz ≤ 100000
  omega
theorem cut_all {bs : List Int} (hb : Byt bs) {i : Int} (h0 : 0 ≤ i) (hi : i ≤ bs.length) (h : (ga bs 0).2 = 0) {wb : Bool} (hw : wb = (decide (i = 0) || whl i ((ga bs 0).1.take (ga bs 0).1.length))) :
  (wb = true → (ga (bs.take i.toNat) 0).2 = 0 ∧ (ga (bs.take i.toNat) 0).1.length = cnt i (ga bs 0).1) ∧ (¬ wb = true → ¬ (ga (bs.take i.toNat) 0).2 = 0) := by
 rw [List.take_length] at hw
 have h1 := ga_cut hb (c := i.toNat) (by omega) 0 (Nat.zero_le _) h
 rw [show ((i.toNat : Nat) : Int) = i from by omega] at h1
 have h2 : wb = true ↔ (0 = i.toNat ∨ whl i (ga bs 0).1 = true) := by rw [hw, Bool.or_eq_true, decide_eq_true_eq]; constructor <;> rintro (h | h) <;> first | exact .inl (by omega) | exact .inr h
 exact ⟨fun h => h1.1 (h2.1 h), fun h => h1.2 fun h3 => h (h2.2 h3)⟩
set_option maxHeartbeats 4000000 in
theorem showcuts {a : Option Addr} {n c : Nat} {bs : List Int} {g0 : Nat} {i : Int} (w : World) (ht : Tab w g0) (hs : Sl w (fun g => g < w.heap.size) 1 (.slice a n c) n (ints .u8 bs)) (hb : Byt bs) (hm9 : n ≤ 140737488351232) :
  Calls Tryd.prog 7 #[.slice a n c, .int .i64 i] w (Ret fun v w' => v = .bool true ∧ Upd No w w') := by
 have HU := Upd.rno w
 have hl_hs := ilen hs
 have hc_hs := hs.cap.1
 have htl := ht.1
 refine calls_of_W func7 rfl ntmps7 (by simp) ?_
 refine W_seq (W_region ?_)
 refine Was (.bool false) ?_
 refine Wl_nil (W_seq (W_seq (W_region ?_)))
 refine Wmv (.slice a n c) ?_
 refine Wl_v (r_len underlying22 rfl) ?_
 refine Wl_v (r_gt rfl rfl) ?_
 refine Wmv (.bool (decide (600 < ((n : Nat) : Int)))) ?_
 by_cases q1 : 600 < ((n : Nat) : Int)
 ·rw [decide_eq_true q1]
  refine Wl_guard_f rfl (Wl_guard_f rfl ?_)
  refine Wl_v (r_pick_t (v := .bool true) rfl rfl) ?_
  refine Wmv (.bool true) ?_
  refine Wl_guard_f rfl (Wl_guard_f rfl (Wl_guard_f rfl (Wl_guard_f rfl ?_)))
  refine Wl_v (r_pick_t (v := .bool true) rfl rfl) ?_
  refine Wl_nil ?_
  refine W_cond_t rfl ?_
  refine W_seq (W_region ?_)
  refine Wl_call (r_call0 rfl call10 ) (works44 _ ht) ?_
  rintro v w1 ⟨rfl, hU1⟩
  have hzw1 := hU1.size
  replace HU := HU.trans0 hU1
  refine Was (.bool true) ?_
  refine Wl_nil ?_
  refine W_ret ?_
  refine ret_end (v := .bool true) rfl (res1 results7 rfl) ?_
  exact ⟨_, rfl, rfl, HU⟩
 rw [decide_eq_false q1]
 refine Wl_guard_t rfl ?_
 refine Wmv (.int .i64 i) ?_
 refine Wl_guard_t rfl ?_
 refine Wl_v (r_lt rfl rfl) ?_
 refine Wl_v (r_pick_f (v := .bool (decide (i < 0))) rfl rfl) ?_
 refine Wmv (.bool (decide (i < 0))) ?_
 by_cases q2 : i < 0
 ·rw [decide_eq_true q2]
  refine Wl_guard_f rfl (Wl_guard_f rfl (Wl_guard_f rfl (Wl_guard_f rfl ?_)))
  refine Wl_v (r_pick_t (v := .bool true) rfl rfl) ?_
  refine Wl_nil ?_
  refine W_cond_t rfl ?_
  refine W_seq (W_region ?_)
  refine Wl_call (r_call0 rfl call10 ) (works44 _ ht) ?_
  rintro v w2 ⟨rfl, hU2⟩
  have hzw2 := hU2.size
  replace HU := HU.trans0 hU2
  refine Was (.bool true) ?_
  refine Wl_nil ?_
  refine W_ret ?_
  refine ret_end (v := .bool true) rfl (res1 results7 rfl) ?_
  exact ⟨_, rfl, rfl, HU⟩
 rw [decide_eq_false q2]
 refine Wl_guard_t rfl ?_
 refine Wmv (.int .i64 i) ?_
 refine Wl_guard_t rfl ?_
 refine Wmv (.slice a n c) ?_
 refine Wl_guard_t rfl ?_
 refine Wl_v (r_len underlying22 rfl) ?_
 refine Wl_guard_t rfl ?_
 refine Wl_v (r_gt rfl rfl) ?_
 refine Wl_v (r_pick_f (v := .bool (decide (((n : Nat) : Int) < i))) rfl rfl) ?_
 refine Wl_nil ?_
 by_cases q3 : ((n : Nat) : Int) < i
 ·rw [decide_eq_true q3]
  refine W_cond_t rfl ?_
  refine W_seq (W_region ?_)
  refine Wl_call (r_call0 rfl call10 ) (works44 _ ht) ?_
  rintro v w3 ⟨rfl, hU3⟩
  have hzw3 := hU3.size
  replace HU := HU.trans0 hU3
  refine Was (.bool true) ?_
  refine Wl_nil ?_
  refine W_ret ?_
  refine ret_end (v := .bool true) rfl (res1 results7 rfl) ?_
  exact ⟨_, rfl, rfl, HU⟩
 rw [decide_eq_false q3]
 refine W_cond_f rfl ?_
 refine W_skip (W_seq (W_region ?_))
 refine Wmv (.slice a n c) ?_
 by_cases q4 : (ga bs 0).2 = 0
 ·refine Wl_call (r_call1 rfl call19 rfl) (read_ok _ hs.any hb (by omega) q4) ?_
  rintro v w4 ⟨a4, m4, c4, rfl, hT4, hU4⟩
  have hzw4 := hU4.size
  replace ht := ht.upd0 hU4
  replace hs := hs.upd0 hU4
  replace HU := HU.trans0 hU4
  obtain ⟨vs5, hv5, hS5, hP5⟩ := hT4
  have hl_hS5 := rlen encP_len (by decide) hS5
  have hc_hS5 := hS5.cap.1
  have hlm5 : (ga bs 0).1.length = m4 := by rw [← hv5, List.length_map]; exact hl_hS5
  refine Wmv (.tuple #[.slice a4 m4 c4, .int .i64 0]) ?_
  refine Wl_v (r_ext (v := .slice a4 m4 c4) rfl rfl) ?_
  refine Wl_v (r_ext (v := .int .i64 0) rfl rfl) ?_
  refine Was (.slice a4 m4 c4) ?_
  refine Was (.int .i64 0) ?_
  refine Wl_nil (W_seq (W_seq (W_region ?_)))
  refine Wmv (.int .i64 0) ?_
  refine Wl_call (r_call1 rfl call13 rfl) (num44 _ ) ?_
  rintro v w6 ⟨rfl, hU6⟩
  have hzw6 := hU6.size
  replace ht := ht.upd0 hU6
  replace hs := hs.upd0 hU6
  replace HU := HU.trans0 hU6
  replace hS5 := hS5.upd0 hU6
  replace hP5 := hP5.upd0 hU6
  refine Wl_v (v := .bool false) (r_ne (a := 0) (b := 0) rfl rfl) ?_
  refine Wl_nil ?_
  refine W_cond_f rfl ?_
  refine W_skip (W_seq (W_region ?_))
  refine Wmv (.slice a n c) ?_
  refine Wmv (.int .i64 i) ?_
  refine Wl_v (r_slicehn (h' := (i).toNat) underlying22 sizeOf5 rfl rfl (by omega) (by omega)) ?_
  have hT7 := Sl.cuth (n := (i).toNat) hs (by omega)
  have hl_hT7 := ilen hT7
  have hc_hT7 := hT7.cap.1
  by_cases q5 : (ga (bs.take i.toNat) 0).2 = 0
  ·refine Wl_call (r_call1 rfl call19 rfl) (read_ok _ hT7.any (byt_take hb _) (by omega) q5) ?_
   rintro v w8 ⟨a8, m8, c8, rfl, hT8, hU8⟩
   have hzw8 := hU8.size
   replace ht := ht.upd0 hU8
   replace HU := HU.trans0 hU8
   replace hS5 := hS5.upd0 hU8
   replace hP5 := hP5.upd0 hU8
   have hl2 := hT8.len
   refine Wmv (.tuple #[.slice a8 m8 c8, .int .i64 0]) ?_
   refine Wl_v (r_ext (v := .slice a8 m8 c8) rfl rfl) ?_
   refine Wl_v (r_ext (v := .int .i64 0) rfl rfl) ?_
   refine Was (.slice a8 m8 c8) ?_
   refine Was (.int .i64 0) ?_
   refine Wl_nil (W_seq (W_region ?_))
   refine Wmv (.int .i64 i) ?_
   refine Wl_v (r_eq rfl rfl) ?_
   refine Was (.bool (decide (i = 0))) ?_
   refine Was (.int .i64 0) ?_
   refine Wl_nil (W_seq (W_seq (W_region ?_)))
   refine Was (.int .i64 0) ?_
   refine Wl_nil (W_block ?_)
   refine W_loop (fun mu ρ ds w' => ∃ (k : Nat) (wb : Bool), m4 - k = mu ∧ ds = [] ∧ Liv ρ [(1, .int .i64 i), (5, .slice a4 m4 c4), (7, .slice a8 m8 c8), (8, .int .i64 0), (9, .bool (decide (wb = true))), (10, .int .i64 ((cnt i ((ga bs 0).1.take k) : Nat) : Int)), (11, .int .i64 ((k : Nat) : Int))] ∧ k ≤ m4 ∧ wb = (decide (i = 0) || whl i ((ga bs 0).1.take k)) ∧ Upd No w8 w') _ ⟨0, (decide (i = 0)), rfl, rfl, ⟨rfl, rfl, rfl, rfl, (Eq.trans (b := .bool (decide (i = 0))) rfl (vbool (by rw [decide_eq_true_eq]))), rfl, (by first | rfl | exact vint (by omega) | exact vint (by simp)), trivial⟩, (by omega), (by simp [whl]), Upd.refl _ _⟩ ?_
   rintro m9 ρ9 ds9 w9 ⟨k, wb, rfl, rfl, hl9, hk, hwb, hU9⟩
   obtain ⟨ρ9x, rfl⟩ : ∃ ρx, ρ9 = upds ρx [(1, .int .i64 i), (5, .slice a4 m4 c4), (7, .slice a8 m8 c8), (8, .int .i64 0), (9, .bool (decide (wb = true))), (10, .int .i64 ((cnt i ((ga bs 0).1.take k) : Nat) : Int)), (11, .int .i64 ((k : Nat) : Int))] := ⟨_, upds_self hl9⟩
   clear hl9
   have hzw9 := hU9.size
   replace ht := ht.upd0 hU9
   replace HU := HU.trans0 hU9
   replace hS5 := hS5.upd0 hU9
   replace hP5 := hP5.upd0 hU9
   have hgn := ga_len hb (by omega)
   have hcl := cnt_le (L := (ga bs 0).1.take k) (c := i)
   have htl2 : ((ga bs 0).1.take k).length ≤ k := by rw [List.length_take]; omega
   have hgo := (ga_okd hb (by omega) k).1
   have hg1 := hgo.at_
   have hg2 := hgo.sz
   unfold rg at hg1 hg2
   have hge := ga_end2 hb (by omega) k
   have HL9 := hU9
   refine W_seq (W_seq (W_region ?_))
   refine Wmv (.int .i64 ((k : Nat) : Int)) ?_
   refine Wmv (.slice a4 m4 c4) ?_
   refine Wl_v (r_len underlying57 rfl) ?_
   refine Wl_v (r_lt rfl rfl) ?_
   refine Wl_nil ?_
   by_cases q6 : ((k : Nat) : Int) < ((m4 : Nat) : Int)
   ·rw [decide_eq_true q6]
    refine W_cond_t rfl ?_
    refine W_skip (W_seq (W_block (W_seq (W_seq ?_))))
    refine W_drawt rfl (l0 := tf 0 13) (by kernel_rfl) ?_
    refine Tk 0 (tf 1 13) rfl (YI_v (v := .slice a4 m4 c4) rfl (fun w' hw' => r_mv (v := .slice a4 m4 c4) rfl)) ?_
    refine Tk 1 (tf 2 13) rfl (YI_v (v := .int .i64 ((k : Nat) : Int)) rfl (fun w' hw' => r_mv (v := .int .i64 ((k : Nat) : Int)) rfl)) ?_
    obtain ⟨ib10, io10, ha10, hib10, hc10⟩ := Sl.rat pv0 encP_len (by decide) (hS5) (i := k) (by omega)
    obtain ⟨ba11, bm11, bc11, hbe11⟩ := gd_part (i := k) hv5
    rw [hbe11] at hc10
    have hB12 := hPget hP5 hbe11 (by omega)
    have hl_hB12 := rlen encK_len (by decide) hB12
    have hc_hB12 := hB12.cap.1
    refine Tk 2 (tf 3 13) rfl (YI_v (v := .pointer (some ⟨ib10, io10 + k * 10, none⟩)) rfl (fun w' hw' => r_idx (b := ib10) (off := io10) (m := m4) (c := c4) (o' := io10 + k * 10) underlying57 sizeOf45 (by rw [← ha10]; rfl) rfl (by omega) (by omega) (by omega))) ?_
    refine Tk 3 (tf 4 13) rfl (YI_v (v := .pointer (some ⟨ib10, io10 + k * 10, none⟩)) rfl (fun w' hw' => r_fld underlying45 rfl sizeOf3 rfl rfl)) ?_
    refine Tk 4 (tf 5 13) rfl (YI_v (v := .int .i64 (((ga bs 0).1.getD k pt0).at_)) rfl (fun w' hw' => r_load (v := .int .i64 (((ga bs 0).1.getD k pt0).at_)) isAgg3 rfl (hw'.cellk (hc10 0 (by decide))))) ?_
    refine Tk 5 (tf 6 13) rfl (YI_v (v := .slice a4 m4 c4) rfl (fun w' hw' => r_mv (v := .slice a4 m4 c4) rfl)) ?_
    refine Tk 6 (tf 7 13) rfl (YI_v (v := .int .i64 ((k : Nat) : Int)) rfl (fun w' hw' => r_mv (v := .int .i64 ((k : Nat) : Int)) rfl)) ?_
    obtain ⟨ib13, io13, ha13, hib13, hc13⟩ := Sl.rat pv0 encP_len (by decide) (hS5) (i := k) (by omega)
    rw [hbe11] at hc13
    refine Tk 7 (tf 8 13) rfl (YI_v (v := .pointer (some ⟨ib13, io13 + k * 10, none⟩)) rfl (fun w' hw' => r_idx (b := ib13) (off := io13) (m := m4) (c := c4) (o' := io13 + k * 10) underlying57 sizeOf45 (by rw [← ha13]; rfl) rfl (by omega) (by omega) (by omega))) ?_
    refine Tk 8 (tf 9 13) rfl (YI_v (v := .pointer (some ⟨ib13, io13 + k * 10 + 1, none⟩)) rfl (fun w' hw' => r_fld underlying45 rfl sizeOf3 rfl rfl)) ?_
    refine Tk 9 (tf 10 13) rfl (YI_v (v := .int .i64 (((ga bs 0).1.getD k pt0).sz)) rfl (fun w' hw' => r_load (v := .int .i64 (((ga bs 0).1.getD k pt0).sz)) isAgg3 rfl (hw'.cellk (hc13 1 (by decide))))) ?_
    refine Tk 10 (tf 11 13) rfl (YI_v (v := .int .i64 ((((ga bs 0).1.getD k pt0).at_) + (((ga bs 0).1.getD k pt0).sz))) rfl (fun w' hw' => r_add rfl rfl (wi64 (by omega) (by omega)))) ?_
    refine Tk 11 (tf 12 13) rfl (YI_v (v := .int .i64 i) rfl (fun w' hw' => r_mv (v := .int .i64 i) rfl)) ?_
    refine Tk 12 (tf 13 13) rfl (YI_v (v := .bool (decide (((((ga bs 0).1.getD k pt0).at_) + (((ga bs 0).1.getD k pt0).sz)) ≤ i))) rfl (fun w' hw' => r_le rfl rfl)) ?_
    intro w14 hU14
    have hzw14 := hU14.size
    replace hS5 := hS5.upd0 hU14
    replace HL9 := HL9.trans0 hU14
    refine Wa_done (by kernel_rfl) ?_
    by_cases q7 : ((((ga bs 0).1.getD k pt0).at_) + (((ga bs 0).1.getD k pt0).sz)) ≤ i
    ·rw [decide_eq_true q7]
     refine W_cond_t rfl ?_
     refine W_region ?_
     refine Wmv (.int .i64 ((cnt i ((ga bs 0).1.take k) : Nat) : Int)) ?_
     refine Wl_v (r_add rfl rfl (wi64 (by omega) (by omega))) ?_
     refine Was (.int .i64 (((cnt i ((ga bs 0).1.take k) : Nat) : Int) + 1)) ?_
     refine Wl_nil ?_
     refine W_drawt rfl (l0 := tf 0 17) (by kernel_rfl) ?_
     refine Tk 0 (tf 1 17) rfl (YI_v (v := .bool (decide (wb = true))) rfl (fun w' hw' => r_mv (v := .bool (decide (wb = true))) rfl)) ?_
     refine Tk 1 (tf 2 17) rfl (YI_v (v := .bool (decide (wb = true))) rfl (fun w' hw' => r_mv (v := .bool (decide (wb = true))) rfl)) ?_
     by_cases q8 : wb = true
     ·rw [decide_eq_true q8]
      refine Tk 2 (tf 3 17) rfl (YI_no rfl) ?_
      refine Tk 3 (tf 4 17) rfl (YI_no rfl) ?_
      refine Tk 4 (tf 5 17) rfl (YI_no rfl) ?_
      refine Tk 5 (tf 6 17) rfl (YI_no rfl) ?_
      refine Tk 6 (tf 7 17) rfl (YI_no rfl) ?_
      refine Tk 7 (tf 8 17) rfl (YI_no rfl) ?_
      refine Tk 8 (tf 9 17) rfl (YI_no rfl) ?_
      refine Tk 9 (tf 10 17) rfl (YI_no rfl) ?_
      refine Tk 10 (tf 11 17) rfl (YI_no rfl) ?_
      refine Tk 11 (tf 12 17) rfl (YI_no rfl) ?_
      refine Tk 12 (tf 13 17) rfl (YI_no rfl) ?_
      refine Tk 13 (tf 14 17) rfl (YI_no rfl) ?_
      refine Tk 14 (tf 15 17) rfl (YI_no rfl) ?_
      refine Tk 15 (tf 16 17) rfl (YI_v rfl (fun w' hw' => r_pick_t (v := .bool true) rfl rfl)) ?_
      refine Tk 16 (tf 17 17) rfl (YI_v (v := .bool true) rfl (fun w' hw' => r_as (v := .bool true) rfl)) ?_
      intro w15 hU15
      have hzw15 := hU15.size
      replace HL9 := HL9.trans0 hU15
      refine Wa_done (by kernel_rfl) ?_
      refine W_region ?_
      refine Wmv (.int .i64 ((k : Nat) : Int)) ?_
      refine Wl_v (r_add rfl rfl (wi64 (by omega) (by omega))) ?_
      refine Was (.int .i64 (((k : Nat) : Int) + 1)) ?_
      refine Wl_nil ?_
      refine ⟨_, ?_, (k + 1), true, rfl, rfl, ⟨rfl, rfl, rfl, rfl, rfl, (Eq.trans (b := .int .i64 (((cnt i ((ga bs 0).1.take k) : Nat) : Int) + 1)) rfl (vint (by rw [cnt_snoc (by omega), if_pos q7]; omega))), (Eq.trans (b := .int .i64 (((k : Nat) : Int) + 1)) rfl (vint (by omega))), trivial⟩, (by omega), (by rw [whl_snoc (by omega), ← Bool.or_assoc, ← hwb, q8]; rfl), HL9⟩
      omega
     rw [decide_eq_false q8]
     refine Tk 2 (tf 3 17) rfl (YI_v (v := .slice a4 m4 c4) rfl (fun w' hw' => r_mv (v := .slice a4 m4 c4) rfl)) ?_
     refine Tk 3 (tf 4 17) rfl (YI_v (v := .int .i64 ((k : Nat) : Int)) rfl (fun w' hw' => r_mv (v := .int .i64 ((k : Nat) : Int)) rfl)) ?_
     obtain ⟨ib16, io16, ha16, hib16, hc16⟩ := Sl.rat pv0 encP_len (by decide) (hS5) (i := k) (by omega)
     rw [hbe11] at hc16
     refine Tk 4 (tf 5 17) rfl (YI_v (v := .pointer (some ⟨ib16, io16 + k * 10, none⟩)) rfl (fun w' hw' => r_idx (b := ib16) (off := io16) (m := m4) (c := c4) (o' := io16 + k * 10) underlying57 sizeOf45 (by rw [← ha16]; rfl) rfl (by omega) (by omega) (by omega))) ?_
     refine Tk 5 (tf 6 17) rfl (YI_v (v := .pointer (some ⟨ib16, io16 + k * 10, none⟩)) rfl (fun w' hw' => r_fld underlying45 rfl sizeOf3 rfl rfl)) ?_
     refine Tk 6 (tf 7 17) rfl (YI_v (v := .int .i64 (((ga bs 0).1.getD k pt0).at_)) rfl (fun w' hw' => r_load (v := .int .i64 (((ga bs 0).1.getD k pt0).at_)) isAgg3 rfl (hw'.cellk (hc16 0 (by decide))))) ?_
     refine Tk 7 (tf 8 17) rfl (YI_v (v := .slice a4 m4 c4) rfl (fun w' hw' => r_mv (v := .slice a4 m4 c4) rfl)) ?_
     refine Tk 8 (tf 9 17) rfl (YI_v (v := .int .i64 ((k : Nat) : Int)) rfl (fun w' hw' => r_mv (v := .int .i64 ((k : Nat) : Int)) rfl)) ?_
     obtain ⟨ib17, io17, ha17, hib17, hc17⟩ := Sl.rat pv0 encP_len (by decide) (hS5) (i := k) (by omega)
     rw [hbe11] at hc17
     refine Tk 9 (tf 10 17) rfl (YI_v (v := .pointer (some ⟨ib17, io17 + k * 10, none⟩)) rfl (fun w' hw' => r_idx (b := ib17) (off := io17) (m := m4) (c := c4) (o' := io17 + k * 10) underlying57 sizeOf45 (by rw [← ha17]; rfl) rfl (by omega) (by omega) (by omega))) ?_
     refine Tk 10 (tf 11 17) rfl (YI_v (v := .pointer (some ⟨ib17, io17 + k * 10 + 1, none⟩)) rfl (fun w' hw' => r_fld underlying45 rfl sizeOf3 rfl rfl)) ?_
     refine Tk 11 (tf 12 17) rfl (YI_v (v := .int .i64 (((ga bs 0).1.getD k pt0).sz)) rfl (fun w' hw' => r_load (v := .int .i64 (((ga bs 0).1.getD k pt0).sz)) isAgg3 rfl (hw'.cellk (hc17 1 (by decide))))) ?_
     refine Tk 12 (tf 13 17) rfl (YI_v (v := .int .i64 ((((ga bs 0).1.getD k pt0).at_) + (((ga bs 0).1.getD k pt0).sz))) rfl (fun w' hw' => r_add rfl rfl (wi64 (by omega) (by omega)))) ?_
     refine Tk 13 (tf 14 17) rfl (YI_v (v := .int .i64 i) rfl (fun w' hw' => r_mv (v := .int .i64 i) rfl)) ?_
     refine Tk 14 (tf 15 17) rfl (YI_v (v := .bool (decide (((((ga bs 0).1.getD k pt0).at_) + (((ga bs 0).1.getD k pt0).sz)) = i))) rfl (fun w' hw' => r_eq rfl rfl)) ?_
     refine Tk 15 (tf 16 17) rfl (YI_v rfl (fun w' hw' => r_pick_f (v := .bool (decide (((((ga bs 0).1.getD k pt0).at_) + (((ga bs 0).1.getD k pt0).sz)) = i))) rfl rfl)) ?_
     refine Tk 16 (tf 17 17) rfl (YI_v (v := .bool (decide (((((ga bs 0).1.getD k pt0).at_) + (((ga bs 0).1.getD k pt0).sz)) = i))) rfl (fun w' hw' => r_as (v := .bool (decide (((((ga bs 0).1.getD k pt0).at_) + (((ga bs 0).1.getD k pt0).sz)) = i))) rfl)) ?_
     intro w18 hU18
     have hzw18 := hU18.size
     replace HL9 := HL9.trans0 hU18
     refine Wa_done (by kernel_rfl) ?_
     refine W_region ?_
     refine Wmv (.int .i64 ((k : Nat) : Int)) ?_
     refine Wl_v (r_add rfl rfl (wi64 (by omega) (by omega))) ?_
     refine Was (.int .i64 (((k : Nat) : Int) + 1)) ?_
     refine Wl_nil ?_
     refine ⟨_, ?_, (k + 1), (decide (((ga bs 0).1.getD k pt0).at_ + ((ga bs 0).1.getD k pt0).sz = i)), rfl, rfl, ⟨rfl, rfl, rfl, rfl, (Eq.trans (b := .bool (decide (((((ga bs 0).1.getD k pt0).at_) + (((ga bs 0).1.getD k pt0).sz)) = i))) rfl (vbool (by rw [decide_eq_true_eq]))), (Eq.trans (b := .int .i64 (((cnt i ((ga bs 0).1.take k) : Nat) : Int) + 1)) rfl (vint (by rw [cnt_snoc (by omega), if_pos q7]; omega))), (Eq.trans (b := .int .i64 (((k : Nat) : Int) + 1)) rfl (vint (by omega))), trivial⟩, (by omega), (by rw [whl_snoc (by omega), ← Bool.or_assoc, ← hwb, Bool.eq_false_iff.2 q8, Bool.false_or]), HL9⟩
     omega
    rw [decide_eq_false q7]
    refine W_cond_f rfl ?_
    refine W_skip ?_
    refine W_drawt rfl (l0 := tf 0 17) (by kernel_rfl) ?_
    refine Tk 0 (tf 1 17) rfl (YI_v (v := .bool (decide (wb = true))) rfl (fun w' hw' => r_mv (v := .bool (decide (wb = true))) rfl)) ?_
    refine Tk 1 (tf 2 17) rfl (YI_v (v := .bool (decide (wb = true))) rfl (fun w' hw' => r_mv (v := .bool (decide (wb = true))) rfl)) ?_
    by_cases q9 : wb = true
    ·rw [decide_eq_true q9]
     refine Tk 2 (tf 3 17) rfl (YI_no rfl) ?_
     refine Tk 3 (tf 4 17) rfl (YI_no rfl) ?_
     refine Tk 4 (tf 5 17) rfl (YI_no rfl) ?_
     refine Tk 5 (tf 6 17) rfl (YI_no rfl) ?_
     refine Tk 6 (tf 7 17) rfl (YI_no rfl) ?_
     refine Tk 7 (tf 8 17) rfl (YI_no rfl) ?_
     refine Tk 8 (tf 9 17) rfl (YI_no rfl) ?_
     refine Tk 9 (tf 10 17) rfl (YI_no rfl) ?_
     refine Tk 10 (tf 11 17) rfl (YI_no rfl) ?_
     refine Tk 11 (tf 12 17) rfl (YI_no rfl) ?_
     refine Tk 12 (tf 13 17) rfl (YI_no rfl) ?_
     refine Tk 13 (tf 14 17) rfl (YI_no rfl) ?_
     refine Tk 14 (tf 15 17) rfl (YI_no rfl) ?_
     refine Tk 15 (tf 16 17) rfl (YI_v rfl (fun w' hw' => r_pick_t (v := .bool true) rfl rfl)) ?_
     refine Tk 16 (tf 17 17) rfl (YI_v (v := .bool true) rfl (fun w' hw' => r_as (v := .bool true) rfl)) ?_
     intro w19 hU19
     have hzw19 := hU19.size
     replace HL9 := HL9.trans0 hU19
     refine Wa_done (by kernel_rfl) ?_
     refine W_region ?_
     refine Wmv (.int .i64 ((k : Nat) : Int)) ?_
     refine Wl_v (r_add rfl rfl (wi64 (by omega) (by omega))) ?_
     refine Was (.int .i64 (((k : Nat) : Int) + 1)) ?_
     refine Wl_nil ?_
     refine ⟨_, ?_, (k + 1), true, rfl, rfl, ⟨rfl, rfl, rfl, rfl, rfl, (Eq.trans (b := .int .i64 ((cnt i ((ga bs 0).1.take k) : Nat) : Int)) rfl (vint (by rw [cnt_snoc (by omega), if_neg q7]; omega))), (Eq.trans (b := .int .i64 (((k : Nat) : Int) + 1)) rfl (vint (by omega))), trivial⟩, (by omega), (by rw [whl_snoc (by omega), ← Bool.or_assoc, ← hwb, q9]; rfl), HL9⟩
     omega
    rw [decide_eq_false q9]
    refine Tk 2 (tf 3 17) rfl (YI_v (v := .slice a4 m4 c4) rfl (fun w' hw' => r_mv (v := .slice a4 m4 c4) rfl)) ?_
    refine Tk 3 (tf 4 17) rfl (YI_v (v := .int .i64 ((k : Nat) : Int)) rfl (fun w' hw' => r_mv (v := .int .i64 ((k : Nat) : Int)) rfl)) ?_
    obtain ⟨ib20, io20, ha20, hib20, hc20⟩ := Sl.rat pv0 encP_len (by decide) (hS5) (i := k) (by omega)
    rw [hbe11] at hc20
    refine Tk 4 (tf 5 17) rfl (YI_v (v := .pointer (some ⟨ib20, io20 + k * 10, none⟩)) rfl (fun w' hw' => r_idx (b := ib20) (off := io20) (m := m4) (c := c4) (o' := io20 + k * 10) underlying57 sizeOf45 (by rw [← ha20]; rfl) rfl (by omega) (by omega) (by omega))) ?_
    refine Tk 5 (tf 6 17) rfl (YI_v (v := .pointer (some ⟨ib20, io20 + k * 10, none⟩)) rfl (fun w' hw' => r_fld underlying45 rfl sizeOf3 rfl rfl)) ?_
    refine Tk 6 (tf 7 17) rfl (YI_v (v := .int .i64 (((ga bs 0).1.getD k pt0).at_)) rfl (fun w' hw' => r_load (v := .int .i64 (((ga bs 0).1.getD k pt0).at_)) isAgg3 rfl (hw'.cellk (hc20 0 (by decide))))) ?_
    refine Tk 7 (tf 8 17) rfl (YI_v (v := .slice a4 m4 c4) rfl (fun w' hw' => r_mv (v := .slice a4 m4 c4) rfl)) ?_
    refine Tk 8 (tf 9 17) rfl (YI_v (v := .int .i64 ((k : Nat) : Int)) rfl (fun w' hw' => r_mv (v := .int .i64 ((k : Nat) : Int)) rfl)) ?_
    obtain ⟨ib21, io21, ha21, hib21, hc21⟩ := Sl.rat pv0 encP_len (by decide) (hS5) (i := k) (by omega)
    rw [hbe11] at hc21
    refine Tk 9 (tf 10 17) rfl (YI_v (v := .pointer (some ⟨ib21, io21 + k * 10, none⟩)) rfl (fun w' hw' => r_idx (b := ib21) (off := io21) (m := m4) (c := c4) (o' := io21 + k * 10) underlying57 sizeOf45 (by rw [← ha21]; rfl) rfl (by omega) (by omega) (by omega))) ?_
    refine Tk 10 (tf 11 17) rfl (YI_v (v := .pointer (some ⟨ib21, io21 + k * 10 + 1, none⟩)) rfl (fun w' hw' => r_fld underlying45 rfl sizeOf3 rfl rfl)) ?_
    refine Tk 11 (tf 12 17) rfl (YI_v (v := .int .i64 (((ga bs 0).1.getD k pt0).sz)) rfl (fun w' hw' => r_load (v := .int .i64 (((ga bs 0).1.getD k pt0).sz)) isAgg3 rfl (hw'.cellk (hc21 1 (by decide))))) ?_
    refine Tk 12 (tf 13 17) rfl (YI_v (v := .int .i64 ((((ga bs 0).1.getD k pt0).at_) + (((ga bs 0).1.getD k pt0).sz))) rfl (fun w' hw' => r_add rfl rfl (wi64 (by omega) (by omega)))) ?_
    refine Tk 13 (tf 14 17) rfl (YI_v (v := .int .i64 i) rfl (fun w' hw' => r_mv (v := .int .i64 i) rfl)) ?_
    refine Tk 14 (tf 15 17) rfl (YI_v (v := .bool (decide (((((ga bs 0).1.getD k pt0).at_) + (((ga bs 0).1.getD k pt0).sz)) = i))) rfl (fun w' hw' => r_eq rfl rfl)) ?_
    refine Tk 15 (tf 16 17) rfl (YI_v rfl (fun w' hw' => r_pick_f (v := .bool (decide (((((ga bs 0).1.getD k pt0).at_) + (((ga bs 0).1.getD k pt0).sz)) = i))) rfl rfl)) ?_
    refine Tk 16 (tf 17 17) rfl (YI_v (v := .bool (decide (((((ga bs 0).1.getD k pt0).at_) + (((ga bs 0).1.getD k pt0).sz)) = i))) rfl (fun w' hw' => r_as (v := .bool (decide (((((ga bs 0).1.getD k pt0).at_) + (((ga bs 0).1.getD k pt0).sz)) = i))) rfl)) ?_
    intro w22 hU22
    have hzw22 := hU22.size
    replace HL9 := HL9.trans0 hU22
    refine Wa_done (by kernel_rfl) ?_
    refine W_region ?_
    refine Wmv (.int .i64 ((k : Nat) : Int)) ?_
    refine Wl_v (r_add rfl rfl (wi64 (by omega) (by omega))) ?_
    refine Was (.int .i64 (((k : Nat) : Int) + 1)) ?_
    refine Wl_nil ?_
    refine ⟨_, ?_, (k + 1), (decide (((ga bs 0).1.getD k pt0).at_ + ((ga bs 0).1.getD k pt0).sz = i)), rfl, rfl, ⟨rfl, rfl, rfl, rfl, (Eq.trans (b := .bool (decide (((((ga bs 0).1.getD k pt0).at_) + (((ga bs 0).1.getD k pt0).sz)) = i))) rfl (vbool (by rw [decide_eq_true_eq]))), (Eq.trans (b := .int .i64 ((cnt i ((ga bs 0).1.take k) : Nat) : Int)) rfl (vint (by rw [cnt_snoc (by omega), if_neg q7]; omega))), (Eq.trans (b := .int .i64 (((k : Nat) : Int) + 1)) rfl (vint (by omega))), trivial⟩, (by omega), (by rw [whl_snoc (by omega), ← Bool.or_assoc, ← hwb, Bool.eq_false_iff.2 q9, Bool.false_or]), HL9⟩
    omega
   rw [decide_eq_false q6]
   refine W_cond_f rfl ?_
   refine W_exit ?_
   refine W_seq (W_seq (W_region ?_))
   refine Wmv (.bool (decide (wb = true))) ?_
   refine Wl_v (r_not rfl) ?_
   refine Wl_nil ?_
   by_cases q10 : wb = true
   ·rw [decide_eq_true q10]
    simp only [Bool.not_true, Bool.not_false]
    refine W_cond_f rfl ?_
    refine W_skip (W_seq (W_region ?_))
    refine Wmv (.int .i64 0) ?_
    refine Wl_call (r_call1 rfl call13 rfl) (num44 _ ) ?_
    rintro v w23 ⟨rfl, hU23⟩
    have hzw23 := hU23.size
    replace ht := ht.upd0 hU23
    replace HU := HU.trans0 hU23
    refine Wl_v (v := .bool true) (r_eq (a := 0) (b := 0) rfl rfl) ?_
    refine Wmv (.bool true) ?_
    refine Wl_guard_t rfl ?_
    refine Wmv (.slice a8 m8 c8) ?_
    refine Wl_guard_t rfl ?_
    refine Wl_v (r_len underlying57 rfl) ?_
    refine Wl_guard_t rfl ?_
    refine Wmv (.int .i64 ((cnt i ((ga bs 0).1.take k) : Nat) : Int)) ?_
    refine Wl_guard_t rfl ?_
    refine Wl_v (r_eq rfl rfl) ?_
    refine Wl_v (r_pick_t (v := .bool (decide (((m8 : Nat) : Int) = ((cnt i ((ga bs 0).1.take k) : Nat) : Int)))) rfl rfl) ?_
    refine Wmv (.bool (decide (((m8 : Nat) : Int) = ((cnt i ((ga bs 0).1.take k) : Nat) : Int)))) ?_
    have q11 : ((m8 : Nat) : Int) = ((cnt i ((ga bs 0).1.take k) : Nat) : Int) := (by have h9 := (cut_all (i := i) hb (by omega) (by omega) q4 (wb := wb) (by rw [show (ga bs 0).1.length = k from by omega]; exact hwb)).1 q10; have h8 := h9.2; rw [show k = (ga bs 0).1.length from by omega, List.take_length]; omega)
    rw [decide_eq_true q11]
    refine Wl_guard_t rfl ?_
    refine Wl_call (r_call0 rfl call10 ) (works44 _ ht) ?_
    rintro v w24 ⟨rfl, hU24⟩
    have hzw24 := hU24.size
    replace HU := HU.trans0 hU24
    refine Wl_v (r_pick_t (v := .bool true) rfl rfl) ?_
    refine Was (.bool true) ?_
    refine Wl_nil ?_
    refine W_ret ?_
    refine ret_end (v := .bool true) rfl (res1 results7 rfl) ?_
    exact ⟨_, rfl, rfl, HU⟩
   exact absurd q5 ((cut_all (i := i) hb (by omega) (by omega) q4 (wb := wb) (by rw [show (ga bs 0).1.length = k from by omega]; exact hwb)).2 q10)
  refine Wl_call (r_call1 rfl call19 rfl) (read_no _ hT7.any (byt_take hb _) (by omega) q5) ?_
  rintro v w25 ⟨rfl, hU25⟩
  have hzw25 := hU25.size
  replace ht := ht.upd0 hU25
  replace HU := HU.trans0 hU25
  replace hS5 := hS5.upd0 hU25
  replace hP5 := hP5.upd0 hU25
  refine Wmv (.tuple #[.slice none 0 0, .int .i64 ((ga (bs.take ((i).toNat)) 0).2)]) ?_
  refine Wl_v (r_ext (v := .slice none 0 0) rfl rfl) ?_
  refine Wl_v (r_ext (v := .int .i64 ((ga (bs.take ((i).toNat)) 0).2)) rfl rfl) ?_
  refine Was (.slice none 0 0) ?_
  refine Was (.int .i64 ((ga (bs.take ((i).toNat)) 0).2)) ?_
  refine Wl_nil (W_seq (W_region ?_))
  refine Wmv (.int .i64 i) ?_
  refine Wl_v (r_eq rfl rfl) ?_
  refine Was (.bool (decide (i = 0))) ?_
  refine Was (.int .i64 0) ?_
  refine Wl_nil (W_seq (W_seq (W_region ?_)))
  refine Was (.int .i64 0) ?_
  refine Wl_nil (W_block ?_)
  refine W_loop (fun mu ρ ds w' => ∃ (k : Nat) (wb : Bool), m4 - k = mu ∧ ds = [] ∧ Liv ρ [(1, .int .i64 i), (5, .slice a4 m4 c4), (7, .slice none 0 0), (8, .int .i64 ((ga (bs.take ((i).toNat)) 0).2)), (9, .bool (decide (wb = true))), (10, .int .i64 ((cnt i ((ga bs 0).1.take k) : Nat) : Int)), (11, .int .i64 ((k : Nat) : Int))] ∧ k ≤ m4 ∧ wb = (decide (i = 0) || whl i ((ga bs 0).1.take k)) ∧ Upd No w25 w') _ ⟨0, (decide (i = 0)), rfl, rfl, ⟨rfl, rfl, rfl, rfl, (Eq.trans (b := .bool (decide (i = 0))) rfl (vbool (by rw [decide_eq_true_eq]))), rfl, (by first | rfl | exact vint (by omega) | exact vint (by simp)), trivial⟩, (by omega), (by simp [whl]), Upd.refl _ _⟩ ?_
  rintro m26 ρ26 ds26 w26 ⟨k, wb, rfl, rfl, hl26, hk, hwb, hU26⟩
  obtain ⟨ρ26x, rfl⟩ : ∃ ρx, ρ26 = upds ρx [(1, .int .i64 i), (5, .slice a4 m4 c4), (7, .slice none 0 0), (8, .int .i64 ((ga (bs.take ((i).toNat)) 0).2)), (9, .bool (decide (wb = true))), (10, .int .i64 ((cnt i ((ga bs 0).1.take k) : Nat) : Int)), (11, .int .i64 ((k : Nat) : Int))] := ⟨_, upds_self hl26⟩
  clear hl26
  have hzw26 := hU26.size
  replace ht := ht.upd0 hU26
  replace HU := HU.trans0 hU26
  replace hS5 := hS5.upd0 hU26
  replace hP5 := hP5.upd0 hU26
  have hgn := ga_len hb (by omega)
  have hcl := cnt_le (L := (ga bs 0).1.take k) (c := i)
  have htl2 : ((ga bs 0).1.take k).length ≤ k := by rw [List.length_take]; omega
  have hgo := (ga_okd hb (by omega) k).1
  have hg1 := hgo.at_
  have hg2 := hgo.sz
  unfold rg at hg1 hg2
  have hge := ga_end2 hb (by omega) k
  have HL26 := hU26
  refine W_seq (W_seq (W_region ?_))
  refine Wmv (.int .i64 ((k : Nat) : Int)) ?_
  refine Wmv (.slice a4 m4 c4) ?_
  refine Wl_v (r_len underlying57 rfl) ?_
  refine Wl_v (r_lt rfl rfl) ?_
  refine Wl_nil ?_
  by_cases q12 : ((k : Nat) : Int) < ((m4 : Nat) : Int)
  ·rw [decide_eq_true q12]
   refine W_cond_t rfl ?_
   refine W_skip (W_seq (W_block (W_seq (W_seq ?_))))
   refine W_drawt rfl (l0 := tf 0 13) (by kernel_rfl) ?_
   refine Tk 0 (tf 1 13) rfl (YI_v (v := .slice a4 m4 c4) rfl (fun w' hw' => r_mv (v := .slice a4 m4 c4) rfl)) ?_
   refine Tk 1 (tf 2 13) rfl (YI_v (v := .int .i64 ((k : Nat) : Int)) rfl (fun w' hw' => r_mv (v := .int .i64 ((k : Nat) : Int)) rfl)) ?_
   obtain ⟨ib27, io27, ha27, hib27, hc27⟩ := Sl.rat pv0 encP_len (by decide) (hS5) (i := k) (by omega)
   obtain ⟨ba28, bm28, bc28, hbe28⟩ := gd_part (i := k) hv5
   rw [hbe28] at hc27
   have hB29 := hPget hP5 hbe28 (by omega)
   have hl_hB29 := rlen encK_len (by decide) hB29
   have hc_hB29 := hB29.cap.1
   refine Tk 2 (tf 3 13) rfl (YI_v (v := .pointer (some ⟨ib27, io27 + k * 10, none⟩)) rfl (fun w' hw' => r_idx (b := ib27) (off := io27) (m := m4) (c := c4) (o' := io27 + k * 10) underlying57 sizeOf45 (by rw [← ha27]; rfl) rfl (by omega) (by omega) (by omega))) ?_
   refine Tk 3 (tf 4 13) rfl (YI_v (v := .pointer (some ⟨ib27, io27 + k * 10, none⟩)) rfl (fun w' hw' => r_fld underlying45 rfl sizeOf3 rfl rfl)) ?_
   refine Tk 4 (tf 5 13) rfl (YI_v (v := .int .i64 (((ga bs 0).1.getD k pt0).at_)) rfl (fun w' hw' => r_load (v := .int .i64 (((ga bs 0).1.getD k pt0).at_)) isAgg3 rfl (hw'.cellk (hc27 0 (by decide))))) ?_
   refine Tk 5 (tf 6 13) rfl (YI_v (v := .slice a4 m4 c4) rfl (fun w' hw' => r_mv (v := .slice a4 m4 c4) rfl)) ?_
   refine Tk 6 (tf 7 13) rfl (YI_v (v := .int .i64 ((k : Nat) : Int)) rfl (fun w' hw' => r_mv (v := .int .i64 ((k : Nat) : Int)) rfl)) ?_
   obtain ⟨ib30, io30, ha30, hib30, hc30⟩ := Sl.rat pv0 encP_len (by decide) (hS5) (i := k) (by omega)
   rw [hbe28] at hc30
   refine Tk 7 (tf 8 13) rfl (YI_v (v := .pointer (some ⟨ib30, io30 + k * 10, none⟩)) rfl (fun w' hw' => r_idx (b := ib30) (off := io30) (m := m4) (c := c4) (o' := io30 + k * 10) underlying57 sizeOf45 (by rw [← ha30]; rfl) rfl (by omega) (by omega) (by omega))) ?_
   refine Tk 8 (tf 9 13) rfl (YI_v (v := .pointer (some ⟨ib30, io30 + k * 10 + 1, none⟩)) rfl (fun w' hw' => r_fld underlying45 rfl sizeOf3 rfl rfl)) ?_
   refine Tk 9 (tf 10 13) rfl (YI_v (v := .int .i64 (((ga bs 0).1.getD k pt0).sz)) rfl (fun w' hw' => r_load (v := .int .i64 (((ga bs 0).1.getD k pt0).sz)) isAgg3 rfl (hw'.cellk (hc30 1 (by decide))))) ?_
   refine Tk 10 (tf 11 13) rfl (YI_v (v := .int .i64 ((((ga bs 0).1.getD k pt0).at_) + (((ga bs 0).1.getD k pt0).sz))) rfl (fun w' hw' => r_add rfl rfl (wi64 (by omega) (by omega)))) ?_
   refine Tk 11 (tf 12 13) rfl (YI_v (v := .int .i64 i) rfl (fun w' hw' => r_mv (v := .int .i64 i) rfl)) ?_
   refine Tk 12 (tf 13 13) rfl (YI_v (v := .bool (decide (((((ga bs 0).1.getD k pt0).at_) + (((ga bs 0).1.getD k pt0).sz)) ≤ i))) rfl (fun w' hw' => r_le rfl rfl)) ?_
   intro w31 hU31
   have hzw31 := hU31.size
   replace hS5 := hS5.upd0 hU31
   replace HL26 := HL26.trans0 hU31
   refine Wa_done (by kernel_rfl) ?_
   by_cases q13 : ((((ga bs 0).1.getD k pt0).at_) + (((ga bs 0).1.getD k pt0).sz)) ≤ i
   ·rw [decide_eq_true q13]
    refine W_cond_t rfl ?_
    refine W_region ?_
    refine Wmv (.int .i64 ((cnt i ((ga bs 0).1.take k) : Nat) : Int)) ?_
    refine Wl_v (r_add rfl rfl (wi64 (by omega) (by omega))) ?_
    refine Was (.int .i64 (((cnt i ((ga bs 0).1.take k) : Nat) : Int) + 1)) ?_
    refine Wl_nil ?_
    refine W_drawt rfl (l0 := tf 0 17) (by kernel_rfl) ?_
    refine Tk 0 (tf 1 17) rfl (YI_v (v := .bool (decide (wb = true))) rfl (fun w' hw' => r_mv (v := .bool (decide (wb = true))) rfl)) ?_
    refine Tk 1 (tf 2 17) rfl (YI_v (v := .bool (decide (wb = true))) rfl (fun w' hw' => r_mv (v := .bool (decide (wb = true))) rfl)) ?_
    by_cases q14 : wb = true
    ·rw [decide_eq_true q14]
     refine Tk 2 (tf 3 17) rfl (YI_no rfl) ?_
     refine Tk 3 (tf 4 17) rfl (YI_no rfl) ?_
     refine Tk 4 (tf 5 17) rfl (YI_no rfl) ?_
     refine Tk 5 (tf 6 17) rfl (YI_no rfl) ?_
     refine Tk 6 (tf 7 17) rfl (YI_no rfl) ?_
     refine Tk 7 (tf 8 17) rfl (YI_no rfl) ?_
     refine Tk 8 (tf 9 17) rfl (YI_no rfl) ?_
     refine Tk 9 (tf 10 17) rfl (YI_no rfl) ?_
     refine Tk 10 (tf 11 17) rfl (YI_no rfl) ?_
     refine Tk 11 (tf 12 17) rfl (YI_no rfl) ?_
     refine Tk 12 (tf 13 17) rfl (YI_no rfl) ?_
     refine Tk 13 (tf 14 17) rfl (YI_no rfl) ?_
     refine Tk 14 (tf 15 17) rfl (YI_no rfl) ?_
     refine Tk 15 (tf 16 17) rfl (YI_v rfl (fun w' hw' => r_pick_t (v := .bool true) rfl rfl)) ?_
     refine Tk 16 (tf 17 17) rfl (YI_v (v := .bool true) rfl (fun w' hw' => r_as (v := .bool true) rfl)) ?_
     intro w32 hU32
     have hzw32 := hU32.size
     replace HL26 := HL26.trans0 hU32
     refine Wa_done (by kernel_rfl) ?_
     refine W_region ?_
     refine Wmv (.int .i64 ((k : Nat) : Int)) ?_
     refine Wl_v (r_add rfl rfl (wi64 (by omega) (by omega))) ?_
     refine Was (.int .i64 (((k : Nat) : Int) + 1)) ?_
     refine Wl_nil ?_
     refine ⟨_, ?_, (k + 1), true, rfl, rfl, ⟨rfl, rfl, rfl, rfl, rfl, (Eq.trans (b := .int .i64 (((cnt i ((ga bs 0).1.take k) : Nat) : Int) + 1)) rfl (vint (by rw [cnt_snoc (by omega), if_pos q13]; omega))), (Eq.trans (b := .int .i64 (((k : Nat) : Int) + 1)) rfl (vint (by omega))), trivial⟩, (by omega), (by rw [whl_snoc (by omega), ← Bool.or_assoc, ← hwb, q14]; rfl), HL26⟩
     omega
    rw [decide_eq_false q14]
    refine Tk 2 (tf 3 17) rfl (YI_v (v := .slice a4 m4 c4) rfl (fun w' hw' => r_mv (v := .slice a4 m4 c4) rfl)) ?_
    refine Tk 3 (tf 4 17) rfl (YI_v (v := .int .i64 ((k : Nat) : Int)) rfl (fun w' hw' => r_mv (v := .int .i64 ((k : Nat) : Int)) rfl)) ?_
    obtain ⟨ib33, io33, ha33, hib33, hc33⟩ := Sl.rat pv0 encP_len (by decide) (hS5) (i := k) (by omega)
    rw [hbe28] at hc33
    refine Tk 4 (tf 5 17) rfl (YI_v (v := .pointer (some ⟨ib33, io33 + k * 10, none⟩)) rfl (fun w' hw' => r_idx (b := ib33) (off := io33) (m := m4) (c := c4) (o' := io33 + k * 10) underlying57 sizeOf45 (by rw [← ha33]; rfl) rfl (by omega) (by omega) (by omega))) ?_
    refine Tk 5 (tf 6 17) rfl (YI_v (v := .pointer (some ⟨ib33, io33 + k * 10, none⟩)) rfl (fun w' hw' => r_fld underlying45 rfl sizeOf3 rfl rfl)) ?_
    refine Tk 6 (tf 7 17) rfl (YI_v (v := .int .i64 (((ga bs 0).1.getD k pt0).at_)) rfl (fun w' hw' => r_load (v := .int .i64 (((ga bs 0).1.getD k pt0).at_)) isAgg3 rfl (hw'.cellk (hc33 0 (by decide))))) ?_
    refine Tk 7 (tf 8 17) rfl (YI_v (v := .slice a4 m4 c4) rfl (fun w' hw' => r_mv (v := .slice a4 m4 c4) rfl)) ?_
    refine Tk 8 (tf 9 17) rfl (YI_v (v := .int .i64 ((k : Nat) : Int)) rfl (fun w' hw' => r_mv (v := .int .i64 ((k : Nat) : Int)) rfl)) ?_
    obtain ⟨ib34, io34, ha34, hib34, hc34⟩ := Sl.rat pv0 encP_len (by decide) (hS5) (i := k) (by omega)
    rw [hbe28] at hc34
    refine Tk 9 (tf 10 17) rfl (YI_v (v := .pointer (some ⟨ib34, io34 + k * 10, none⟩)) rfl (fun w' hw' => r_idx (b := ib34) (off := io34) (m := m4) (c := c4) (o' := io34 + k * 10) underlying57 sizeOf45 (by rw [← ha34]; rfl) rfl (by omega) (by omega) (by omega))) ?_
    refine Tk 10 (tf 11 17) rfl (YI_v (v := .pointer (some ⟨ib34, io34 + k * 10 + 1, none⟩)) rfl (fun w' hw' => r_fld underlying45 rfl sizeOf3 rfl rfl)) ?_
    refine Tk 11 (tf 12 17) rfl (YI_v (v := .int .i64 (((ga bs 0).1.getD k pt0).sz)) rfl (fun w' hw' => r_load (v := .int .i64 (((ga bs 0).1.getD k pt0).sz)) isAgg3 rfl (hw'.cellk (hc34 1 (by decide))))) ?_
    refine Tk 12 (tf 13 17) rfl (YI_v (v := .int .i64 ((((ga bs 0).1.getD k pt0).at_) + (((ga bs 0).1.getD k pt0).sz))) rfl (fun w' hw' => r_add rfl rfl (wi64 (by omega) (by omega)))) ?_
    refine Tk 13 (tf 14 17) rfl (YI_v (v := .int .i64 i) rfl (fun w' hw' => r_mv (v := .int .i64 i) rfl)) ?_
    refine Tk 14 (tf 15 17) rfl (YI_v (v := .bool (decide (((((ga bs 0).1.getD k pt0).at_) + (((ga bs 0).1.getD k pt0).sz)) = i))) rfl (fun w' hw' => r_eq rfl rfl)) ?_
    refine Tk 15 (tf 16 17) rfl (YI_v rfl (fun w' hw' => r_pick_f (v := .bool (decide (((((ga bs 0).1.getD k pt0).at_) + (((ga bs 0).1.getD k pt0).sz)) = i))) rfl rfl)) ?_
    refine Tk 16 (tf 17 17) rfl (YI_v (v := .bool (decide (((((ga bs 0).1.getD k pt0).at_) + (((ga bs 0).1.getD k pt0).sz)) = i))) rfl (fun w' hw' => r_as (v := .bool (decide (((((ga bs 0).1.getD k pt0).at_) + (((ga bs 0).1.getD k pt0).sz)) = i))) rfl)) ?_
    intro w35 hU35
    have hzw35 := hU35.size
    replace HL26 := HL26.trans0 hU35
    refine Wa_done (by kernel_rfl) ?_
    refine W_region ?_
    refine Wmv (.int .i64 ((k : Nat) : Int)) ?_
    refine Wl_v (r_add rfl rfl (wi64 (by omega) (by omega))) ?_
    refine Was (.int .i64 (((k : Nat) : Int) + 1)) ?_
    refine Wl_nil ?_
    refine ⟨_, ?_, (k + 1), (decide (((ga bs 0).1.getD k pt0).at_ + ((ga bs 0).1.getD k pt0).sz = i)), rfl, rfl, ⟨rfl, rfl, rfl, rfl, (Eq.trans (b := .bool (decide (((((ga bs 0).1.getD k pt0).at_) + (((ga bs 0).1.getD k pt0).sz)) = i))) rfl (vbool (by rw [decide_eq_true_eq]))), (Eq.trans (b := .int .i64 (((cnt i ((ga bs 0).1.take k) : Nat) : Int) + 1)) rfl (vint (by rw [cnt_snoc (by omega), if_pos q13]; omega))), (Eq.trans (b := .int .i64 (((k : Nat) : Int) + 1)) rfl (vint (by omega))), trivial⟩, (by omega), (by rw [whl_snoc (by omega), ← Bool.or_assoc, ← hwb, Bool.eq_false_iff.2 q14, Bool.false_or]), HL26⟩
    omega
   rw [decide_eq_false q13]
   refine W_cond_f rfl ?_
   refine W_skip ?_
   refine W_drawt rfl (l0 := tf 0 17) (by kernel_rfl) ?_
   refine Tk 0 (tf 1 17) rfl (YI_v (v := .bool (decide (wb = true))) rfl (fun w' hw' => r_mv (v := .bool (decide (wb = true))) rfl)) ?_
   refine Tk 1 (tf 2 17) rfl (YI_v (v := .bool (decide (wb = true))) rfl (fun w' hw' => r_mv (v := .bool (decide (wb = true))) rfl)) ?_
   by_cases q15 : wb = true
   ·rw [decide_eq_true q15]
    refine Tk 2 (tf 3 17) rfl (YI_no rfl) ?_
    refine Tk 3 (tf 4 17) rfl (YI_no rfl) ?_
    refine Tk 4 (tf 5 17) rfl (YI_no rfl) ?_
    refine Tk 5 (tf 6 17) rfl (YI_no rfl) ?_
    refine Tk 6 (tf 7 17) rfl (YI_no rfl) ?_
    refine Tk 7 (tf 8 17) rfl (YI_no rfl) ?_
    refine Tk 8 (tf 9 17) rfl (YI_no rfl) ?_
    refine Tk 9 (tf 10 17) rfl (YI_no rfl) ?_
    refine Tk 10 (tf 11 17) rfl (YI_no rfl) ?_
    refine Tk 11 (tf 12 17) rfl (YI_no rfl) ?_
    refine Tk 12 (tf 13 17) rfl (YI_no rfl) ?_
    refine Tk 13 (tf 14 17) rfl (YI_no rfl) ?_
    refine Tk 14 (tf 15 17) rfl (YI_no rfl) ?_
    refine Tk 15 (tf 16 17) rfl (YI_v rfl (fun w' hw' => r_pick_t (v := .bool true) rfl rfl)) ?_
    refine Tk 16 (tf 17 17) rfl (YI_v (v := .bool true) rfl (fun w' hw' => r_as (v := .bool true) rfl)) ?_
    intro w36 hU36
    have hzw36 := hU36.size
    replace HL26 := HL26.trans0 hU36
    refine Wa_done (by kernel_rfl) ?_
    refine W_region ?_
    refine Wmv (.int .i64 ((k : Nat) : Int)) ?_
    refine Wl_v (r_add rfl rfl (wi64 (by omega) (by omega))) ?_
    refine Was (.int .i64 (((k : Nat) : Int) + 1)) ?_
    refine Wl_nil ?_
    refine ⟨_, ?_, (k + 1), true, rfl, rfl, ⟨rfl, rfl, rfl, rfl, rfl, (Eq.trans (b := .int .i64 ((cnt i ((ga bs 0).1.take k) : Nat) : Int)) rfl (vint (by rw [cnt_snoc (by omega), if_neg q13]; omega))), (Eq.trans (b := .int .i64 (((k : Nat) : Int) + 1)) rfl (vint (by omega))), trivial⟩, (by omega), (by rw [whl_snoc (by omega), ← Bool.or_assoc, ← hwb, q15]; rfl), HL26⟩
    omega
   rw [decide_eq_false q15]
   refine Tk 2 (tf 3 17) rfl (YI_v (v := .slice a4 m4 c4) rfl (fun w' hw' => r_mv (v := .slice a4 m4 c4) rfl)) ?_
   refine Tk 3 (tf 4 17) rfl (YI_v (v := .int .i64 ((k : Nat) : Int)) rfl (fun w' hw' => r_mv (v := .int .i64 ((k : Nat) : Int)) rfl)) ?_
   obtain ⟨ib37, io37, ha37, hib37, hc37⟩ := Sl.rat pv0 encP_len (by decide) (hS5) (i := k) (by omega)
   rw [hbe28] at hc37
   refine Tk 4 (tf 5 17) rfl (YI_v (v := .pointer (some ⟨ib37, io37 + k * 10, none⟩)) rfl (fun w' hw' => r_idx (b := ib37) (off := io37) (m := m4) (c := c4) (o' := io37 + k * 10) underlying57 sizeOf45 (by rw [← ha37]; rfl) rfl (by omega) (by omega) (by omega))) ?_
   refine Tk 5 (tf 6 17) rfl (YI_v (v := .pointer (some ⟨ib37, io37 + k * 10, none⟩)) rfl (fun w' hw' => r_fld underlying45 rfl sizeOf3 rfl rfl)) ?_
   refine Tk 6 (tf 7 17) rfl (YI_v (v := .int .i64 (((ga bs 0).1.getD k pt0).at_)) rfl (fun w' hw' => r_load (v := .int .i64 (((ga bs 0).1.getD k pt0).at_)) isAgg3 rfl (hw'.cellk (hc37 0 (by decide))))) ?_
   refine Tk 7 (tf 8 17) rfl (YI_v (v := .slice a4 m4 c4) rfl (fun w' hw' => r_mv (v := .slice a4 m4 c4) rfl)) ?_
   refine Tk 8 (tf 9 17) rfl (YI_v (v := .int .i64 ((k : Nat) : Int)) rfl (fun w' hw' => r_mv (v := .int .i64 ((k : Nat) : Int)) rfl)) ?_
   obtain ⟨ib38, io38, ha38, hib38, hc38⟩ := Sl.rat pv0 encP_len (by decide) (hS5) (i := k) (by omega)
   rw [hbe28] at hc38
   refine Tk 9 (tf 10 17) rfl (YI_v (v := .pointer (some ⟨ib38, io38 + k * 10, none⟩)) rfl (fun w' hw' => r_idx (b := ib38) (off := io38) (m := m4) (c := c4) (o' := io38 + k * 10) underlying57 sizeOf45 (by rw [← ha38]; rfl) rfl (by omega) (by omega) (by omega))) ?_
   refine Tk 10 (tf 11 17) rfl (YI_v (v := .pointer (some ⟨ib38, io38 + k * 10 + 1, none⟩)) rfl (fun w' hw' => r_fld underlying45 rfl sizeOf3 rfl rfl)) ?_
   refine Tk 11 (tf 12 17) rfl (YI_v (v := .int .i64 (((ga bs 0).1.getD k pt0).sz)) rfl (fun w' hw' => r_load (v := .int .i64 (((ga bs 0).1.getD k pt0).sz)) isAgg3 rfl (hw'.cellk (hc38 1 (by decide))))) ?_
   refine Tk 12 (tf 13 17) rfl (YI_v (v := .int .i64 ((((ga bs 0).1.getD k pt0).at_) + (((ga bs 0).1.getD k pt0).sz))) rfl (fun w' hw' => r_add rfl rfl (wi64 (by omega) (by omega)))) ?_
   refine Tk 13 (tf 14 17) rfl (YI_v (v := .int .i64 i) rfl (fun w' hw' => r_mv (v := .int .i64 i) rfl)) ?_
   refine Tk 14 (tf 15 17) rfl (YI_v (v := .bool (decide (((((ga bs 0).1.getD k pt0).at_) + (((ga bs 0).1.getD k pt0).sz)) = i))) rfl (fun w' hw' => r_eq rfl rfl)) ?_
   refine Tk 15 (tf 16 17) rfl (YI_v rfl (fun w' hw' => r_pick_f (v := .bool (decide (((((ga bs 0).1.getD k pt0).at_) + (((ga bs 0).1.getD k pt0).sz)) = i))) rfl rfl)) ?_
   refine Tk 16 (tf 17 17) rfl (YI_v (v := .bool (decide (((((ga bs 0).1.getD k pt0).at_) + (((ga bs 0).1.getD k pt0).sz)) = i))) rfl (fun w' hw' => r_as (v := .bool (decide (((((ga bs 0).1.getD k pt0).at_) + (((ga bs 0).1.getD k pt0).sz)) = i))) rfl)) ?_
   intro w39 hU39
   have hzw39 := hU39.size
   replace HL26 := HL26.trans0 hU39
   refine Wa_done (by kernel_rfl) ?_
   refine W_region ?_
   refine Wmv (.int .i64 ((k : Nat) : Int)) ?_
   refine Wl_v (r_add rfl rfl (wi64 (by omega) (by omega))) ?_
   refine Was (.int .i64 (((k : Nat) : Int) + 1)) ?_
   refine Wl_nil ?_
   refine ⟨_, ?_, (k + 1), (decide (((ga bs 0).1.getD k pt0).at_ + ((ga bs 0).1.getD k pt0).sz = i)), rfl, rfl, ⟨rfl, rfl, rfl, rfl, (Eq.trans (b := .bool (decide (((((ga bs 0).1.getD k pt0).at_) + (((ga bs 0).1.getD k pt0).sz)) = i))) rfl (vbool (by rw [decide_eq_true_eq]))), (Eq.trans (b := .int .i64 ((cnt i ((ga bs 0).1.take k) : Nat) : Int)) rfl (vint (by rw [cnt_snoc (by omega), if_neg q13]; omega))), (Eq.trans (b := .int .i64 (((k : Nat) : Int) + 1)) rfl (vint (by omega))), trivial⟩, (by omega), (by rw [whl_snoc (by omega), ← Bool.or_assoc, ← hwb, Bool.eq_false_iff.2 q15, Bool.false_or]), HL26⟩
   omega
  rw [decide_eq_false q12]
  refine W_cond_f rfl ?_
  refine W_exit ?_
  refine W_seq (W_seq (W_region ?_))
  refine Wmv (.bool (decide (wb = true))) ?_
  refine Wl_v (r_not rfl) ?_
  refine Wl_nil ?_
  by_cases q16 : wb = true
  ·exact absurd ((cut_all (i := i) hb (by omega) (by omega) q4 (wb := wb) (by rw [show (ga bs 0).1.length = k from by omega]; exact hwb)).1 q16).1 q5
  rw [decide_eq_false q16]
  simp only [Bool.not_true, Bool.not_false]
  refine W_cond_t rfl ?_
  refine W_seq (W_region ?_)
  refine Wmv (.int .i64 ((ga (bs.take ((i).toNat)) 0).2)) ?_
  refine Wl_call (r_call1 rfl call13 rfl) (num44 _ ) ?_
  rintro v w40 ⟨rfl, hU40⟩
  have hzw40 := hU40.size
  replace ht := ht.upd0 hU40
  replace HU := HU.trans0 hU40
  refine Wl_v (r_ne rfl rfl) ?_
  refine Wmv (.bool (decide (((ga (bs.take ((i).toNat)) 0).2) ≠ 0))) ?_
  have q17 : ((ga (bs.take ((i).toNat)) 0).2) ≠ 0 := q5
  rw [decide_eq_true q17]
  refine Wl_guard_t rfl ?_
  refine Wmv (.slice none 0 0) ?_
  refine Wl_guard_t rfl ?_
  refine Wl_v (r_len underlying57 rfl) ?_
  refine Wl_guard_t rfl ?_
  refine Wl_v (v := .bool true) (r_eq (a := 0) (b := 0) rfl rfl) ?_
  refine Wl_v (r_pick_t (v := .bool true) rfl rfl) ?_
  refine Wmv (.bool true) ?_
  refine Wl_guard_t rfl ?_
  refine Wl_call (r_call0 rfl call10 ) (works44 _ ht) ?_
  rintro v w41 ⟨rfl, hU41⟩
  have hzw41 := hU41.size
  replace HU := HU.trans0 hU41
  refine Wl_v (r_pick_t (v := .bool true) rfl rfl) ?_
  refine Was (.bool true) ?_
  refine Wl_nil ?_
  refine W_ret ?_
  refine ret_end (v := .bool true) rfl (res1 results7 rfl) ?_
  exact ⟨_, rfl, rfl, HU⟩
 refine Wl_call (r_call1 rfl call19 rfl) (read_no _ hs.any hb (by omega) q4) ?_
 rintro v w42 ⟨rfl, hU42⟩
 have hzw42 := hU42.size
 replace ht := ht.upd0 hU42
 replace HU := HU.trans0 hU42
 refine Wmv (.tuple #[.slice none 0 0, .int .i64 ((ga bs 0).2)]) ?_
 refine Wl_v (r_ext (v := .slice none 0 0) rfl rfl) ?_
 refine Wl_v (r_ext (v := .int .i64 ((ga bs 0).2)) rfl rfl) ?_
 refine Was (.slice none 0 0) ?_
 refine Was (.int .i64 ((ga bs 0).2)) ?_
 refine Wl_nil (W_seq (W_seq (W_region ?_)))
 refine Wmv (.int .i64 ((ga bs 0).2)) ?_
 refine Wl_call (r_call1 rfl call13 rfl) (num44 _ ) ?_
 rintro v w43 ⟨rfl, hU43⟩
 have hzw43 := hU43.size
 replace ht := ht.upd0 hU43
 replace HU := HU.trans0 hU43
 refine Wl_v (r_ne rfl rfl) ?_
 refine Wl_nil ?_
 have q18 : ((ga bs 0).2) ≠ 0 := q4
 rw [decide_eq_true q18]
 refine W_cond_t rfl ?_
 refine W_seq (W_region ?_)
 refine Wmv (.slice none 0 0) ?_
 refine Wl_v (r_len underlying57 rfl) ?_
 refine Wl_v (v := .bool true) (r_eq (a := 0) (b := 0) rfl rfl) ?_
 refine Wmv (.bool true) ?_
 refine Wl_guard_t rfl ?_
 refine Wl_call (r_call0 rfl call10 ) (works44 _ ht) ?_
 rintro v w44 ⟨rfl, hU44⟩
 have hzw44 := hU44.size
 replace HU := HU.trans0 hU44
 refine Wl_v (r_pick_t (v := .bool true) rfl rfl) ?_
 refine Was (.bool true) ?_
 refine Wl_nil ?_
 refine W_ret ?_
 refine ret_end (v := .bool true) rfl (res1 results7 rfl) ?_
 exact ⟨_, rfl, rfl, HU⟩
end Go.Proofs.YtbjjhfoeckkacaaDoor
