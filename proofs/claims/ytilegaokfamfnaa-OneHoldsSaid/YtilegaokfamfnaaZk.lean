/-
 Walks, printed by a small program of this project (gen.py).
-/
import Derived.Test.YtilegaokfamfnaaZj
import Derived.Test.YtilegaokfamfnaaZq
set_option linter.unusedVariables false
set_option linter.unusedSimpArgs false
namespace Go.Proofs.Ytilegaokfamfnaa
open Go.Fw

set_option maxHeartbeats 2000000 in
set_option maxRecDepth 100000 in
theorem renc_spec {a a2 : Option Addr} {n c m d : Nat} {l b : List Int} {R : Nat → Prop} (w : World) (hs : Sl w R 1 (.slice a n c) n (ints .i64 l)) (hn : n ≤ 1000) (hsb : Sl w (fun g => g < w.heap.size) 1 (.slice a2 m d) m (ints .u8 b)) (hb : Byt b) (hm : m ≤ 100000) :
  Calls Try.prog 13 #[.slice a n c, .slice a2 m d] w (Ret fun v w' => ∃ (a' : Option Addr) (m' : Nat) (c' : Nat), v = .tuple #[.slice a' m' c', .int .i64 ((ecF l b).2)] ∧ Own w' (fun g => w.heap.size ≤ g) 5 1 (.slice a' m' c') m' (ints .u8 ((ecF l b).1)) ∧ Upd No w w') := by
 have HU : Upd (fun b => False) w w := Upd.refl _ _
 have hl_hs := ilen hs
 have hc_hs := hs.cap.1
 replace hs := hs.tight
 have hl_hsb := ilen hsb
 have hc_hsb := hsb.cap.1
 refine calls_of_W Try.func13 rfl Try.ntmps13 (by simp) ?_
 refine W_seq ?_
 refine W_region ?_
 refine Wl_v (r_as (v := .slice none 0 0) rfl) ?_
 refine Wl_v (r_as (v := .int .i64 0) rfl) ?_
 refine Wl_nil ?_
 refine W_seq ?_
 refine W_seq ?_
 refine W_region ?_
 refine Wl_v (r_mv (v := .slice a n c) rfl) ?_
 refine Wl_v (r_mv (v := .slice a2 m d) rfl) ?_
 refine Wl_call (r_call2 rfl Try.call39 rfl rfl) (rmay_spec _ hs (by omega) hsb.any hb (by omega)) ?_
 rintro v w1 ⟨rfl, hU1⟩
 have hzw1 := hU1.size
 replace hs := hs.upd0 hU1
 replace hsb := hsb.upd0 hU1
 replace HU := HU.trans0 hU1
 refine Wl_v (r_as (v := .int .i64 (myF l b)) rfl) ?_
 refine Wl_nil ?_
 refine W_seq ?_
 refine W_region ?_
 refine Wl_v (r_mv (v := .int .i64 (myF l b)) rfl) ?_
 refine Wl_v (r_ne rfl rfl) ?_
 refine Wl_nil ?_
 by_cases q1 : (myF l b) ≠ 0
 ·rw [decide_eq_true q1]
  refine W_cond_t rfl ?_
  refine W_seq ?_
  refine W_region ?_
  refine Wl_v (r_mv (v := .int .i64 (myF l b)) rfl) ?_
  refine Wl_v (r_as (v := .slice none 0 0) rfl) ?_
  refine Wl_v (r_as (v := .int .i64 (myF l b)) rfl) ?_
  refine Wl_nil ?_
  refine W_ret ?_
  refine ret_end (v := .tuple #[.slice none 0 0, .int .i64 (myF l b)]) rfl (res2 Try.results13 rfl rfl) ?_
  have hF : ecF l b = ([], myF l b) := ecF_err q1
  exact ⟨_, rfl, none, 0, 0, (vtup2 rfl (vint (by rw [hF]))), (by rw [hF]; exact (Own.nil _ _ 5 1)), HU⟩
 ·have hr := (my_ok q1).1
  have hHs := (my_ok q1).2
  rw [decide_eq_false q1]
  refine W_cond_f rfl ?_
  refine W_skip ?_
  refine W_seq ?_
  refine W_region ?_
  refine Wl_v (r_mv (v := .slice a n c) rfl) ?_
  refine Wl_call (r_call1 rfl Try.call40 rfl) (rcodes_ok _ hs (by omega) hr) ?_
  rintro v w2 ⟨a2x, c2, rfl, hO2, hU2⟩
  have hzw2 := hU2.size
  replace hsb := hsb.upd0 hU2
  replace HU := HU.trans0 hU2
  replace hO2 := hO2.tight
  have hl_hO2 := rlen encC_len (by decide) hO2.sl
  have hc_hO2 := hO2.sl.cap.1
  refine Wl_v (r_mv (v := .tuple #[.slice a2x n c2, .int .i64 0]) rfl) ?_
  refine Wl_v (r_ext (v := .slice a2x n c2) rfl rfl) ?_
  refine Wl_v (r_ext (v := .int .i64 0) rfl rfl) ?_
  refine Wl_v (r_as (v := .slice a2x n c2) rfl) ?_
  refine Wl_v (r_as (v := .int .i64 0) rfl) ?_
  refine Wl_nil ?_
  refine W_seq ?_
  refine W_region ?_
  refine Wl_v (r_as (v := .slice none 0 0) rfl) ?_
  refine Wl_nil ?_
  refine W_seq ?_
  refine W_seq ?_
  refine W_region ?_
  refine Wl_v (r_mv (v := .slice a2 m d) rfl) ?_
  refine Wl_v (r_len Try.underlying23 rfl) ?_
  refine Wl_v (r_sub rfl rfl (wi64 (by omega) (by omega))) ?_
  refine Wl_v (r_as (v := .int .i64 (((m : Nat) : Int) - 1)) rfl) ?_
  refine Wl_nil ?_
  refine W_block ?_
  refine W_loop (fun mu ρ ds w' => ∃ (j : Nat) (a9 : Option Addr) (c9 : Nat), m - j = mu ∧ ds = [] ∧ Liv ρ [(1, .slice a2 m d), (7, .slice a2x n c2), (9, .slice a9 (eL l (b.drop (m - j))) c9), (10, .int .i64 (((m : Nat) : Int) - 1 - ((j : Nat) : Int)))] ∧ j ≤ m ∧ Own w' (fun g => w2.heap.size ≤ g) 4 1 (.slice a9 (eL l (b.drop (m - j))) c9) (eL l (b.drop (m - j))) (rows encB (bl (eV l (b.drop (m - j))) (eL l (b.drop (m - j))))) ∧ Upd (fun g => w2.heap.size ≤ g) w2 w') _ ⟨0, none, 0, rfl, rfl, ⟨rfl, rfl, (Eq.trans (b := .slice none 0 0) rfl (by rw [List.drop_of_length_le (by omega)]; rfl)), (Eq.trans (b := .int .i64 (((m : Nat) : Int) - 1)) rfl (vint (by omega))), trivial⟩, (by omega), (by rw [List.drop_of_length_le (by omega)]; simpa [bl, tabn, rows, eV, eL] using Own.nil _ _ _ _), Upd.refl _ _⟩ ?_
  rintro m3 ρ3 ds3 w3 ⟨j, a9, c9, rfl, rfl, hl3, hj, hO, hU3⟩
  obtain ⟨ρ3x, rfl⟩ : ∃ ρx, ρ3 = upds ρx [(1, .slice a2 m d), (7, .slice a2x n c2), (9, .slice a9 (eL l (b.drop (m - j))) c9), (10, .int .i64 (((m : Nat) : Int) - 1 - ((j : Nat) : Int)))] := ⟨_, upds_self hl3⟩
  clear hl3
  have hzw3 := hU3.size
  replace hsb := hsb.upd hU3 (by intro x h1 h2; have h3 : x < w.heap.size := h1; have h4 : w2.heap.size ≤ x := h2; omega)
  replace HU := HU.trans hU3 (by intro x hx; have hx2 : w2.heap.size ≤ x := hx; show (False) ∨ w.heap.size ≤ x; omega)
  replace hO2 := hO2.upd hU3 (by intro x h1 h2; have h3 : ((w1.heap.size ≤ x) ∧ x < w2.heap.size) := h1; have h4 : w2.heap.size ≤ x := h2; omega)
  have HL3 := hU3
  refine W_seq ?_
  refine W_seq ?_
  refine W_region ?_
  refine Wl_v (r_mv (v := .int .i64 (((m : Nat) : Int) - 1 - ((j : Nat) : Int))) rfl) ?_
  refine Wl_v (r_ge rfl rfl) ?_
  refine Wl_nil ?_
  by_cases q2 : 0 ≤ (((m : Nat) : Int) - 1 - ((j : Nat) : Int))
  ·have hgt := hHs.get (k := m - 1 - j) (by omega)
   have hbk := byt_get hb (m - 1 - j)
   have hgd := hr.1.gd (b.getD (m - 1 - j) 0).toNat
   have hEi : (((m : Nat) : Int) - 1 - ((j : Nat) : Int)).toNat = m - 1 - j := by omega
   have hEb : b.getD (((m : Nat) : Int) - 1 - ((j : Nat) : Int)).toNat 0 = b.getD (m - 1 - j) 0 := by rw [hEi]
   have hcg : (cds l).getD (b.getD (m - 1 - j) 0).toNat (0, 0) = cd l (b.getD (m - 1 - j) 0).toNat := cds_get hgt.1
   have hcb := cd_bd hr hgt.1 (by omega)
   have hbl2 := bits_lt hr hgt.1 (by omega)
   obtain ⟨k9, hk9, hk8⟩ : ∃ k9 : Nat, ((cds l).getD (b.getD (((m : Nat) : Int) - 1 - ((j : Nat) : Int)).toNat 0).toNat (0, 0)).1 = ((k9 : Nat) : Int) ∧ (l.getD (b.getD (m - 1 - j) 0).toNat 0).toNat = k9 := ⟨_, by rw [hEi, hcg, hcb.2.2.1]; omega, rfl⟩
   obtain ⟨x9, hx9, hx8⟩ : ∃ x9 : Nat, ((cds l).getD (b.getD (((m : Nat) : Int) - 1 - ((j : Nat) : Int)).toNat 0).toNat (0, 0)).2 = ((x9 : Nat) : Int) ∧ (cd l (b.getD (m - 1 - j) 0).toNat).2.toNat = x9 := ⟨_, by rw [hEi, hcg]; omega, rfl⟩
   have hes := enc_step (i := j) (by omega) (by omega) hk8 hx8
   have hVd := eV_lt hr (hHs.drop (m - j))
   have hLd := eL_le hr (b.drop (m - j))
   rw [List.length_drop] at hLd
   rw [hk8, hx8] at hbl2
   have hbE := byt_get hb (((m : Nat) : Int) - 1 - ((j : Nat) : Int)).toNat
   replace hO := hO.tight
   rw [decide_eq_true q2]
   refine W_cond_t rfl ?_
   refine W_skip ?_
   refine W_seq ?_
   refine W_block ?_
   refine W_seq ?_
   refine W_region ?_
   refine Wl_v (r_mv (v := .slice a2x n c2) rfl) ?_
   refine Wl_v (r_mv (v := .slice a2 m d) rfl) ?_
   refine Wl_v (r_mv (v := .int .i64 (((m : Nat) : Int) - 1 - ((j : Nat) : Int))) rfl) ?_
   refine Wl_idxi Try.underlying23 Try.sizeOf5 rfl rfl hsb (by omega) (by omega) ?_
   intro ib4 io4 hc4
   refine Wl_loadc Try.isAgg5 rfl hc4 ?_
   refine Wl_v (r_cvt Try.underlying5 Try.underlying3 rfl (wi64 (by omega) (by omega))) ?_
   refine Wl_idxr (0, 0) encC_len (by decide) Try.underlying53 Try.sizeOf67 rfl rfl hO2.sl (by omega) (by omega) ?_
   intro ib5 io5 hc5
   refine Wl_v (r_loada (cs := [.int .i64 (((cds l).getD (b.getD (((m : Nat) : Int) - 1 - ((j : Nat) : Int)).toNat 0).toNat (0, 0)).1), .int .u32 (((cds l).getD (b.getD (((m : Nat) : Int) - 1 - ((j : Nat) : Int)).toNat 0).toNat (0, 0)).2)]) Try.isAgg67 Try.sizeOf67 rfl rfl hc5) ?_
   refine Wl_alloc (cs := [.int .i64 0, .int .u32 0]) Try.zeroValue67 rfl ?_
   intro B6 w6 hB6 hU6 hzz6 hb6
   have hzw6 := hU6.size
   replace hO := hO.upd0 hU6
   replace HL3 := HL3.trans0 hU6
   refine Wl_storea (off := 0) (vs := [.int .i64 (((cds l).getD (b.getD (((m : Nat) : Int) - 1 - ((j : Nat) : Int)).toNat 0).toNat (0, 0)).1), .int .u32 (((cds l).getD (b.getD (((m : Nat) : Int) - 1 - ((j : Nat) : Int)).toNat 0).toNat (0, 0)).2)]) (cs' := [.int .i64 (((cds l).getD (b.getD (((m : Nat) : Int) - 1 - ((j : Nat) : Int)).toNat 0).toNat (0, 0)).1), .int .u32 (((cds l).getD (b.getD (((m : Nat) : Int) - 1 - ((j : Nat) : Int)).toNat 0).toNat (0, 0)).2)]) Try.sizeOf67 rfl rfl rfl (by simp only [List.mem_cons, List.not_mem_nil, or_false, forall_eq_or_imp, forall_eq]; exact ⟨rfl, rfl⟩) hb6 (by simp) rfl ?_
   intro w7 hU7 hzz7 hb6n
   replace hb6 := hb6n; clear hb6n
   have hzw7 := hU7.size
   replace hO := hO.upd1 hU7 (by intro h1; have h3 : ((w2.heap.size ≤ B6) ∧ B6 < w3.heap.size) := h1; omega)
   replace HL3 := HL3.trans1 hU7 (by show (w2.heap.size ≤ B6) ∨ w2.heap.size ≤ B6; omega)
   refine Wl_nil ?_
   refine W_region ?_
   refine Wl_v (r_mv (v := .slice a9 (eL l (b.drop (m - j))) c9) rfl) ?_
   refine Wl_v (r_fld Try.underlying67 rfl Try.sizeOf65 rfl rfl) ?_
   refine Wl_load (v := .int .u32 (((cds l).getD (b.getD (((m : Nat) : Int) - 1 - ((j : Nat) : Int)).toNat 0).toNat (0, 0)).2)) Try.isAgg65 rfl hb6 rfl ?_
   refine Wl_v (r_cvt Try.underlying65 Try.underlying55 rfl (wu64 (by omega) (by omega))) ?_
   rw [show (((cds l).getD (b.getD (((m : Nat) : Int) - 1 - ((j : Nat) : Int)).toNat 0).toNat (0, 0)).2 : Int) = ((x9 : Nat) : Int) from hx9]
   refine Wl_v (r_fld Try.underlying67 rfl Try.sizeOf3 rfl rfl) ?_
   refine Wl_load (v := .int .i64 (((cds l).getD (b.getD (((m : Nat) : Int) - 1 - ((j : Nat) : Int)).toNat 0).toNat (0, 0)).1)) Try.isAgg3 rfl hb6 rfl ?_
   rw [show (((cds l).getD (b.getD (((m : Nat) : Int) - 1 - ((j : Nat) : Int)).toNat 0).toNat (0, 0)).1 : Int) = ((k9 : Nat) : Int) from hk9]
   refine Wl_call (r_call2 rfl Try.call41 rfl rfl) (rbits_spec _ ⟨lt64 (by omega) hbl2.1, by omega⟩) ?_
   rintro v w8 ⟨a8, c8, rfl, hO8, hU8⟩
   have hzw8 := hU8.size
   replace hO := hO.upd0 hU8
   replace HL3 := HL3.trans0 hU8
   replace hO8 := hO8.tight
   have hl_hO8 := rlen encB_len (by decide) hO8.sl
   have hc_hO8 := hO8.sl.cap.1
   refine Wl_appendc (cs3 := rows encB ((bl (eV l (b.drop (m - j))) (eL l (b.drop (m - j)))) ++ (bl x9 k9))) (tot := (eL l (b.drop (m - j))) + k9) (by first | rfl | exact (rows_app _ _).symm | simp) Try.underlying72 (ti := Try.t4) (z := .bool false) (sz := 1) (by' := 1) rfl rfl rfl rfl rfl (by decide) rfl hO rfl hO8.sl (rows_one encB_one _) (by omega) (by simp only [maxLen]; omega) (by omega) ?_
   intro a9 c9 w9 hU9 hzz9 hO9
   clear hO
   have hzw9 := hU9.size
   replace HL3 := HL3.trans hU9 (by intro x hx; have hx2 : ((w2.heap.size ≤ x) ∧ x < w3.heap.size) := hx; show (w2.heap.size ≤ x) ∨ w2.heap.size ≤ x; omega)
   replace hO9 := hO9.tight
   have hl_hO9 := rlen encB_len (by decide) hO9.sl
   have hc_hO9 := hO9.sl.cap.1
   refine Wl_v (r_as (v := .slice a9 ((eL l (b.drop (m - j))) + k9) c9) rfl) ?_
   refine Wl_nil ?_
   refine W_region ?_
   refine Wl_v (r_mv (v := .int .i64 (((m : Nat) : Int) - 1 - ((j : Nat) : Int))) rfl) ?_
   refine Wl_v (r_sub rfl rfl (wi64 (by omega) (by omega))) ?_
   refine Wl_v (r_as (v := .int .i64 ((((m : Nat) : Int) - 1 - ((j : Nat) : Int)) - 1)) rfl) ?_
   refine Wl_nil ?_
   refine ⟨_, ?_, (j + 1), a9, c9, rfl, rfl, ⟨rfl, rfl, (Eq.trans (b := .slice a9 ((eL l (b.drop (m - j))) + k9) c9) rfl (by rw [← hes.2])), (Eq.trans (b := .int .i64 ((((m : Nat) : Int) - 1 - ((j : Nat) : Int)) - 1)) rfl (vint (by omega))), trivial⟩, (by omega), (by rw [← hes.1, ← hes.2]; exact (hO9.weak (by intro g hg; have h3 : ((((((w2.heap.size ≤ g) ∧ g < w3.heap.size)) ∨ g = w8.heap.size)) ∧ g < w9.heap.size) := hg; show w2.heap.size ≤ g; omega)).rcong (bl_enc hVd)), HL3⟩
   omega
  ·rw [decide_eq_false q2]
   obtain rfl : m = j := by omega
   rw [Nat.sub_self, List.drop_zero] at hO
   simp only [Nat.sub_self, List.drop_zero]
   have hVd := eV_lt hr hHs
   have hLd := eL_le hr b
   refine W_cond_f rfl ?_
   refine W_exit ?_
   refine W_seq ?_
   refine W_region ?_
   refine Wl_v (r_mv (v := .slice a9 (eL l b) c9) rfl) ?_
   refine Wl_call (r_call1 rfl Try.call42 rfl) (rclose_spec (V := eV l b) (L := eL l b) _ hO.sl.any (by omega) hVd) ?_
   rintro v w10 ⟨a10, c10, rfl, hO10, hU10⟩
   have hzw10 := hU10.size
   replace HU := HU.trans0 hU10
   replace hO10 := hO10.tight
   have hl_hO10 := ilen hO10.sl
   have hc_hO10 := hO10.sl.cap.1
   refine Wl_v (r_as (v := .slice a10 ((eL l b) / 8 + 1) c10) rfl) ?_
   refine Wl_v (r_as (v := .int .i64 0) rfl) ?_
   refine Wl_nil ?_
   refine W_ret ?_
   refine ret_end (v := .tuple #[.slice a10 ((eL l b) / 8 + 1) c10, .int .i64 0]) rfl (res2 Try.results13 rfl rfl) ?_
   have hF : ecF l b = (out l b, 0) := by rw [ecF, if_neg (fun h => h hr), if_neg (fun h => h hHs)]
   exact ⟨_, rfl, a10, (eL l b) / 8 + 1, c10, (vtup2 rfl (vint (by rw [hF]))), (by rw [hF]; exact (hO10.weak (by intro g hg; have h3 : ((w3.heap.size ≤ g) ∧ g < w10.heap.size) := hg; show w.heap.size ≤ g; omega))), HU⟩

theorem yms_take {l : List Int} {W t n k : Nat} (h : k ≤ n) : (yms l W t n).take k = yms l W t k := by
 unfold yms tabn
 rw [← List.map_take, List.take_range, show min k n = k from by omega]

set_option maxRecDepth 100000 in
theorem rdec_spec {a a2 : Option Addr} {n c m d : Nat} {l b : List Int} {nn : Int} {R : Nat → Prop} (w : World) (hs : Sl w R 1 (.slice a n c) n (ints .i64 l)) (hn : n ≤ 1000) (hsb : Sl w (fun g => g < w.heap.size) 1 (.slice a2 m d) m (ints .u8 b)) (hb : Byt b) (hm : m ≤ 100000) (hni : -9223372036854775808 ≤ nn ∧ nn ≤ 9223372036854775807) :
  Calls Try.prog 20 #[.slice a n c, .slice a2 m d, .int .i64 nn] w (Ret fun v w' => ∃ (a' : Option Addr) (m' : Nat) (c' : Nat), v = .tuple #[.slice a' m' c', .int .i64 ((dcF l b nn).2)] ∧ Own w' (fun g => w.heap.size ≤ g) 5 1 (.slice a' m' c') m' (ints .u8 ((dcF l b nn).1)) ∧ Upd No w w') := by
 have HU : Upd (fun b => False) w w := Upd.refl _ _
 have hl_hs := ilen hs
 have hc_hs := hs.cap.1
 replace hs := hs.tight
 have hl_hsb := ilen hsb
 have hc_hsb := hsb.cap.1
 refine calls_of_W Try.func20 rfl Try.ntmps20 (by simp) ?_
 refine W_seq ?_
 refine W_region ?_
 refine Wl_v (r_as (v := .slice none 0 0) rfl) ?_
 refine Wl_v (r_as (v := .int .i64 0) rfl) ?_
 refine Wl_nil ?_
 refine W_seq ?_
 refine W_seq ?_
 refine W_region ?_
 refine Wl_v (r_mv (v := .slice a n c) rfl) ?_
 refine Wl_call (r_call1 rfl Try.call26 rfl) (rright_spec _ hs (by omega)) ?_
 rintro v w1 ⟨rfl, hU1⟩
 have hzw1 := hU1.size
 replace hs := hs.upd0 hU1
 replace hsb := hsb.upd0 hU1
 replace HU := HU.trans0 hU1
 refine Wl_v (r_not rfl) ?_
 refine Wl_nil ?_
 by_cases q1 : Rt l
 ·rw [decide_eq_true q1]
  simp only [Bool.not_true, Bool.not_false]
  refine W_cond_f rfl ?_
  refine W_skip ?_
  refine W_seq ?_
  refine W_seq ?_
  refine W_region ?_
  refine Wl_v (r_mv (v := .int .i64 nn) rfl) ?_
  refine Wl_v (r_lt rfl rfl) ?_
  refine Wl_v (r_mv (v := .bool (decide (nn < 0))) rfl) ?_
  by_cases q2 : nn < 0
  ·rw [decide_eq_true q2]
   refine Wl_guard_f rfl ?_
   refine Wl_guard_f rfl ?_
   refine Wl_v (r_pick_t (v := .bool true) rfl rfl) ?_
   refine Wl_nil ?_
   refine W_cond_t rfl ?_
   refine W_seq ?_
   refine W_region ?_
   refine Wl_v (r_as (v := .slice none 0 0) rfl) ?_
   refine Wl_v (r_as (v := .int .i64 2) rfl) ?_
   refine Wl_nil ?_
   refine W_ret ?_
   refine ret_end (v := .tuple #[.slice none 0 0, .int .i64 2]) rfl (res2 Try.results20 rfl rfl) ?_
   have hF : dcF l b nn = ([], 2) := by rw [dcF, if_neg (fun h => h q1), if_pos (by omega)]
   exact ⟨_, rfl, none, 0, 0, (vtup2 rfl (vint (by rw [hF]))), (by rw [hF]; first | exact (Own.nil _ _ 5 1) | (refine Own.icong (Own.nil _ _ 5 1) ?_; congr 1; omega)), HU⟩
  ·rw [decide_eq_false q2]
   refine Wl_guard_t rfl ?_
   refine Wl_v (r_mv (v := .int .i64 nn) rfl) ?_
   refine Wl_guard_t rfl ?_
   refine Wl_v (r_gt rfl rfl) ?_
   refine Wl_v (r_pick_f (v := .bool (decide (131072 < nn))) rfl rfl) ?_
   refine Wl_nil ?_
   by_cases q3 : 131072 < nn
   ·rw [decide_eq_true q3]
    refine W_cond_t rfl ?_
    refine W_seq ?_
    refine W_region ?_
    refine Wl_v (r_as (v := .slice none 0 0) rfl) ?_
    refine Wl_v (r_as (v := .int .i64 2) rfl) ?_
    refine Wl_nil ?_
    refine W_ret ?_
    refine ret_end (v := .tuple #[.slice none 0 0, .int .i64 2]) rfl (res2 Try.results20 rfl rfl) ?_
    have hF : dcF l b nn = ([], 2) := by rw [dcF, if_neg (fun h => h q1), if_pos (by omega)]
    exact ⟨_, rfl, none, 0, 0, (vtup2 rfl (vint (by rw [hF]))), (by rw [hF]; first | exact (Own.nil _ _ 5 1) | (refine Own.icong (Own.nil _ _ 5 1) ?_; congr 1; omega)), HU⟩
   ·rw [decide_eq_false q3]
    refine W_cond_f rfl ?_
    refine W_skip ?_
    refine W_seq ?_
    refine W_region ?_
    refine Wl_v (r_mv (v := .slice a n c) rfl) ?_
    refine Wl_v (r_mv (v := .slice a2 m d) rfl) ?_
    by_cases q4 : Cl b
    ·refine Wl_call (r_call2 rfl Try.call28 rfl rfl) (reach_ok _ hs (by omega) hsb.any hb (by omega) q1 q4) ?_
     rintro v w2 ⟨a2x, c2, e2, f2, rfl, hO2, hP2, hU2⟩
     have hzw2 := hU2.size
     replace HU := HU.trans0 hU2
     replace hO2 := hO2.tight
     have hl_hO2 := ilen hO2.sl
     have hc_hO2 := hO2.sl.cap.1
     replace hP2 := hP2.tight
     have hl_hP2 := ilen hP2.sl
     have hc_hP2 := hP2.sl.cap.1
     refine Wl_v (r_mv (v := .tuple #[.slice a2x (nb l (wn b) (tbt b)) c2, .slice e2 (nb l (wn b) (tbt b)) f2, .bool (decide (st l (wn b) (tbt b) (nb l (wn b) (tbt b)) = 0))]) rfl) ?_
     refine Wl_v (r_ext (v := .slice a2x (nb l (wn b) (tbt b)) c2) rfl rfl) ?_
     refine Wl_v (r_ext (v := .slice e2 (nb l (wn b) (tbt b)) f2) rfl rfl) ?_
     refine Wl_v (r_ext (v := .bool (decide (st l (wn b) (tbt b) (nb l (wn b) (tbt b)) = 0))) rfl rfl) ?_
     refine Wl_v (r_as (v := .slice a2x (nb l (wn b) (tbt b)) c2) rfl) ?_
     refine Wl_v (r_as (v := .slice e2 (nb l (wn b) (tbt b)) f2) rfl) ?_
     refine Wl_v (r_as (v := .bool (decide (st l (wn b) (tbt b) (nb l (wn b) (tbt b)) = 0))) rfl) ?_
     refine Wl_nil ?_
     refine W_seq ?_
     refine W_seq ?_
     refine W_region ?_
     refine Wl_v (r_mv (v := .bool (decide (st l (wn b) (tbt b) (nb l (wn b) (tbt b)) = 0))) rfl) ?_
     refine Wl_v (r_not rfl) ?_
     refine Wl_v (r_mv (v := .bool (!decide (st l (wn b) (tbt b) (nb l (wn b) (tbt b)) = 0))) rfl) ?_
     by_cases q5 : st l (wn b) (tbt b) (nb l (wn b) (tbt b)) = 0
     ·rw [decide_eq_true q5]
      simp only [Bool.not_true, Bool.not_false]
      refine Wl_guard_t rfl ?_
      refine Wl_v (r_mv (v := .slice a2x (nb l (wn b) (tbt b)) c2) rfl) ?_
      refine Wl_guard_t rfl ?_
      refine Wl_v (r_len Try.underlying23 rfl) ?_
      refine Wl_guard_t rfl ?_
      refine Wl_v (r_mv (v := .int .i64 nn) rfl) ?_
      refine Wl_guard_t rfl ?_
      refine Wl_v (r_ne rfl rfl) ?_
      refine Wl_v (r_pick_f (v := .bool (decide ((((nb l (wn b) (tbt b)) : Nat) : Int) ≠ nn))) rfl rfl) ?_
      refine Wl_nil ?_
      by_cases q6 : (((nb l (wn b) (tbt b)) : Nat) : Int) ≠ nn
      ·rw [decide_eq_true q6]
       refine W_cond_t rfl ?_
       refine W_seq ?_
       refine W_region ?_
       refine Wl_v (r_as (v := .slice none 0 0) rfl) ?_
       refine Wl_v (r_as (v := .int .i64 14) rfl) ?_
       refine Wl_nil ?_
       refine W_ret ?_
       refine ret_end (v := .tuple #[.slice none 0 0, .int .i64 14]) rfl (res2 Try.results20 rfl rfl) ?_
       have hF : dcF l b nn = ([], 14) := by rw [dcF, if_neg (fun h => h q1), if_neg (by omega), if_neg (fun h => h q4), if_neg (fun h => q6 (by have := ((gd_end q1).1 h).1; omega))]
       exact ⟨_, rfl, none, 0, 0, (vtup2 rfl (vint (by rw [hF]))), (by rw [hF]; first | exact (Own.nil _ _ 5 1) | (refine Own.icong (Own.nil _ _ 5 1) ?_; congr 1; omega)), HU⟩
      ·rw [decide_eq_false q6]
       refine W_cond_f rfl ?_
       refine W_skip ?_
       refine W_seq ?_
       refine W_region ?_
       refine Wl_v (r_mv (v := .slice a2x (nb l (wn b) (tbt b)) c2) rfl) ?_
       refine Wl_v (r_as (v := .slice a2x (nb l (wn b) (tbt b)) c2) rfl) ?_
       refine Wl_v (r_as (v := .int .i64 0) rfl) ?_
       refine Wl_nil ?_
       refine W_ret ?_
       refine ret_end (v := .tuple #[.slice a2x (nb l (wn b) (tbt b)) c2, .int .i64 0]) rfl (res2 Try.results20 rfl rfl) ?_
       have hF : dcF l b nn = (yms l (wn b) (tbt b) nn.toNat, 0) := by rw [dcF, if_neg (fun h => h q1), if_neg (by omega), if_neg (fun h => h q4), if_pos ((gd_end q1).2 ⟨by omega, q5⟩)]
       exact ⟨_, rfl, a2x, (nb l (wn b) (tbt b)), c2, (vtup2 rfl (vint (by rw [hF]))), (by rw [hF]; first | exact (hO2.weak (by intro g hg; have h3 : ((w1.heap.size ≤ g) ∧ g < w2.heap.size) := hg; show w.heap.size ≤ g; omega)) | (refine Own.icong (hO2.weak (by intro g hg; have h3 : ((w1.heap.size ≤ g) ∧ g < w2.heap.size) := hg; show w.heap.size ≤ g; omega)) ?_; congr 1; omega)), HU⟩
     ·rw [decide_eq_false q5]
      simp only [Bool.not_true, Bool.not_false]
      refine Wl_guard_f rfl ?_
      refine Wl_guard_f rfl ?_
      refine Wl_guard_f rfl ?_
      refine Wl_guard_f rfl ?_
      refine Wl_v (r_pick_t (v := .bool true) rfl rfl) ?_
      refine Wl_nil ?_
      refine W_cond_t rfl ?_
      refine W_seq ?_
      refine W_region ?_
      refine Wl_v (r_as (v := .slice none 0 0) rfl) ?_
      refine Wl_v (r_as (v := .int .i64 14) rfl) ?_
      refine Wl_nil ?_
      refine W_ret ?_
      refine ret_end (v := .tuple #[.slice none 0 0, .int .i64 14]) rfl (res2 Try.results20 rfl rfl) ?_
      have hF : dcF l b nn = ([], 14) := by rw [dcF, if_neg (fun h => h q1), if_neg (by omega), if_neg (fun h => h q4), if_neg (fun h => q5 ((gd_end q1).1 h).2)]
      exact ⟨_, rfl, none, 0, 0, (vtup2 rfl (vint (by rw [hF]))), (by rw [hF]; first | exact (Own.nil _ _ 5 1) | (refine Own.icong (Own.nil _ _ 5 1) ?_; congr 1; omega)), HU⟩
    ·refine Wl_call (r_call2 rfl Try.call28 rfl rfl) (reach_no _ hs (by omega) hsb.any hb (by omega) q4) ?_
     rintro v w3 ⟨rfl, hU3⟩
     have hzw3 := hU3.size
     replace HU := HU.trans0 hU3
     refine Wl_v (r_mv (v := .tuple #[.slice none 0 0, .slice none 0 0, .bool false]) rfl) ?_
     refine Wl_v (r_ext (v := .slice none 0 0) rfl rfl) ?_
     refine Wl_v (r_ext (v := .slice none 0 0) rfl rfl) ?_
     refine Wl_v (r_ext (v := .bool false) rfl rfl) ?_
     refine Wl_v (r_as (v := .slice none 0 0) rfl) ?_
     refine Wl_v (r_as (v := .slice none 0 0) rfl) ?_
     refine Wl_v (r_as (v := .bool false) rfl) ?_
     refine Wl_nil ?_
     refine W_seq ?_
     refine W_seq ?_
     refine W_region ?_
     refine Wl_v (r_mv (v := .bool false) rfl) ?_
     refine Wl_v (r_not (b := false) rfl) ?_
     refine Wl_v (r_mv (v := .bool true) rfl) ?_
     refine Wl_guard_f rfl ?_
     refine Wl_guard_f rfl ?_
     refine Wl_guard_f rfl ?_
     refine Wl_guard_f rfl ?_
     refine Wl_v (r_pick_t (v := .bool true) rfl rfl) ?_
     refine Wl_nil ?_
     refine W_cond_t rfl ?_
     refine W_seq ?_
     refine W_region ?_
     refine Wl_v (r_as (v := .slice none 0 0) rfl) ?_
     refine Wl_v (r_as (v := .int .i64 14) rfl) ?_
     refine Wl_nil ?_
     refine W_ret ?_
     refine ret_end (v := .tuple #[.slice none 0 0, .int .i64 14]) rfl (res2 Try.results20 rfl rfl) ?_
     have hF : dcF l b nn = ([], 14) := by rw [dcF, if_neg (fun h => h q1), if_neg (by omega), if_pos q4]
     exact ⟨_, rfl, none, 0, 0, (vtup2 rfl (vint (by rw [hF]))), (by rw [hF]; first | exact (Own.nil _ _ 5 1) | (refine Own.icong (Own.nil _ _ 5 1) ?_; congr 1; omega)), HU⟩
 ·rw [decide_eq_false q1]
  simp only [Bool.not_true, Bool.not_false]
  refine W_cond_t rfl ?_
  refine W_seq ?_
  refine W_region ?_
  refine Wl_v (r_as (v := .slice none 0 0) rfl) ?_
  refine Wl_v (r_as (v := .int .i64 12) rfl) ?_
  refine Wl_nil ?_
  refine W_ret ?_
  refine ret_end (v := .tuple #[.slice none 0 0, .int .i64 12]) rfl (res2 Try.results20 rfl rfl) ?_
  have hF : dcF l b nn = ([], 12) := by rw [dcF, if_pos q1]
  exact ⟨_, rfl, none, 0, 0, (vtup2 rfl (vint (by rw [hF]))), (by rw [hF]; first | exact (Own.nil _ _ 5 1) | (refine Own.icong (Own.nil _ _ 5 1) ?_; congr 1; omega)), HU⟩

set_option maxRecDepth 100000 in
theorem rcnt_spec {a a2 : Option Addr} {n c m d : Nat} {l b : List Int} {R : Nat → Prop} (w : World) (hs : Sl w R 1 (.slice a n c) n (ints .i64 l)) (hn : n ≤ 1000) (hsb : Sl w (fun g => g < w.heap.size) 1 (.slice a2 m d) m (ints .u8 b)) (hb : Byt b) (hm : m ≤ 100000) :
  Calls Try.prog 22 #[.slice a n c, .slice a2 m d] w (Ret fun v w' => v = .tuple #[.int .i64 ((ctF l b).1), .int .i64 ((ctF l b).2)] ∧ Upd No w w') := by
 have HU : Upd (fun b => False) w w := Upd.refl _ _
 have hl_hs := ilen hs
 have hc_hs := hs.cap.1
 replace hs := hs.tight
 have hl_hsb := ilen hsb
 have hc_hsb := hsb.cap.1
 refine calls_of_W Try.func22 rfl Try.ntmps22 (by simp) ?_
 refine W_seq ?_
 refine W_region ?_
 refine Wl_v (r_as (v := .int .i64 0) rfl) ?_
 refine Wl_v (r_as (v := .int .i64 0) rfl) ?_
 refine Wl_nil ?_
 refine W_seq ?_
 refine W_seq ?_
 refine W_region ?_
 refine Wl_v (r_mv (v := .slice a n c) rfl) ?_
 refine Wl_call (r_call1 rfl Try.call26 rfl) (rright_spec _ hs (by omega)) ?_
 rintro v w1 ⟨rfl, hU1⟩
 have hzw1 := hU1.size
 replace hs := hs.upd0 hU1
 replace hsb := hsb.upd0 hU1
 replace HU := HU.trans0 hU1
 refine Wl_v (r_not rfl) ?_
 refine Wl_nil ?_
 by_cases q1 : Rt l
 ·rw [decide_eq_true q1]
  simp only [Bool.not_true, Bool.not_false]
  refine W_cond_f rfl ?_
  refine W_skip ?_
  refine W_seq ?_
  refine W_region ?_
  refine Wl_v (r_mv (v := .slice a n c) rfl) ?_
  refine Wl_v (r_mv (v := .slice a2 m d) rfl) ?_
  by_cases q2 : Cl b
  ·refine Wl_call (r_call2 rfl Try.call28 rfl rfl) (reach_ok _ hs (by omega) hsb.any hb (by omega) q1 q2) ?_
   rintro v w2 ⟨a2x, c2, e2, f2, rfl, hO2, hP2, hU2⟩
   have hzw2 := hU2.size
   replace HU := HU.trans0 hU2
   replace hO2 := hO2.tight
   have hl_hO2 := ilen hO2.sl
   have hc_hO2 := hO2.sl.cap.1
   replace hP2 := hP2.tight
   have hl_hP2 := ilen hP2.sl
   have hc_hP2 := hP2.sl.cap.1
   refine Wl_v (r_mv (v := .tuple #[.slice a2x (nb l (wn b) (tbt b)) c2, .slice e2 (nb l (wn b) (tbt b)) f2, .bool (decide (st l (wn b) (tbt b) (nb l (wn b) (tbt b)) = 0))]) rfl) ?_
   refine Wl_v (r_ext (v := .slice a2x (nb l (wn b) (tbt b)) c2) rfl rfl) ?_
   refine Wl_v (r_ext (v := .slice e2 (nb l (wn b) (tbt b)) f2) rfl rfl) ?_
   refine Wl_v (r_ext (v := .bool (decide (st l (wn b) (tbt b) (nb l (wn b) (tbt b)) = 0))) rfl rfl) ?_
   refine Wl_v (r_as (v := .slice a2x (nb l (wn b) (tbt b)) c2) rfl) ?_
   refine Wl_v (r_as (v := .slice e2 (nb l (wn b) (tbt b)) f2) rfl) ?_
   refine Wl_v (r_as (v := .bool (decide (st l (wn b) (tbt b) (nb l (wn b) (tbt b)) = 0))) rfl) ?_
   refine Wl_nil ?_
   refine W_seq ?_
   refine W_seq ?_
   refine W_region ?_
   refine Wl_v (r_mv (v := .bool (decide (st l (wn b) (tbt b) (nb l (wn b) (tbt b)) = 0))) rfl) ?_
   refine Wl_v (r_not rfl) ?_
   refine Wl_nil ?_
   by_cases q3 : st l (wn b) (tbt b) (nb l (wn b) (tbt b)) = 0
   ·rw [decide_eq_true q3]
    simp only [Bool.not_true, Bool.not_false]
    refine W_cond_f rfl ?_
    refine W_skip ?_
    refine W_seq ?_
    refine W_region ?_
    refine Wl_v (r_mv (v := .slice a2x (nb l (wn b) (tbt b)) c2) rfl) ?_
    refine Wl_v (r_len Try.underlying23 rfl) ?_
    refine Wl_v (r_as (v := .int .i64 (((nb l (wn b) (tbt b)) : Nat) : Int)) rfl) ?_
    refine Wl_v (r_as (v := .int .i64 0) rfl) ?_
    refine Wl_nil ?_
    refine W_ret ?_
    refine ret_end (v := .tuple #[.int .i64 (((nb l (wn b) (tbt b)) : Nat) : Int), .int .i64 0]) rfl (res2 Try.results22 rfl rfl) ?_
    have hF : ctF l b = (((nb l (wn b) (tbt b) : Nat) : Int), 0) := by rw [ctF, if_neg (fun h => h q1), if_neg (fun h => h q2), if_pos q3]
    exact ⟨_, rfl, (vtup2 (vint (by rw [hF])) (vint (by rw [hF]))), HU⟩
   ·rw [decide_eq_false q3]
    simp only [Bool.not_true, Bool.not_false]
    refine W_cond_t rfl ?_
    refine W_seq ?_
    refine W_region ?_
    refine Wl_v (r_as (v := .int .i64 0) rfl) ?_
    refine Wl_v (r_as (v := .int .i64 14) rfl) ?_
    refine Wl_nil ?_
    refine W_ret ?_
    refine ret_end (v := .tuple #[.int .i64 0, .int .i64 14]) rfl (res2 Try.results22 rfl rfl) ?_
    have hF : ctF l b = (0, 14) := by rw [ctF, if_neg (fun h => h q1), if_neg (fun h => h q2), if_neg q3]
    exact ⟨_, rfl, (vtup2 (vint (by rw [hF])) (vint (by rw [hF]))), HU⟩
  ·refine Wl_call (r_call2 rfl Try.call28 rfl rfl) (reach_no _ hs (by omega) hsb.any hb (by omega) q2) ?_
   rintro v w3 ⟨rfl, hU3⟩
   have hzw3 := hU3.size
   replace HU := HU.trans0 hU3
   refine Wl_v (r_mv (v := .tuple #[.slice none 0 0, .slice none 0 0, .bool false]) rfl) ?_
   refine Wl_v (r_ext (v := .slice none 0 0) rfl rfl) ?_
   refine Wl_v (r_ext (v := .slice none 0 0) rfl rfl) ?_
   refine Wl_v (r_ext (v := .bool false) rfl rfl) ?_
   refine Wl_v (r_as (v := .slice none 0 0) rfl) ?_
   refine Wl_v (r_as (v := .slice none 0 0) rfl) ?_
   refine Wl_v (r_as (v := .bool false) rfl) ?_
   refine Wl_nil ?_
   refine W_seq ?_
   refine W_seq ?_
   refine W_region ?_
   refine Wl_v (r_mv (v := .bool false) rfl) ?_
   refine Wl_v (r_not (b := false) rfl) ?_
   refine Wl_nil ?_
   refine W_cond_t rfl ?_
   refine W_seq ?_
   refine W_region ?_
   refine Wl_v (r_as (v := .int .i64 0) rfl) ?_
   refine Wl_v (r_as (v := .int .i64 14) rfl) ?_
   refine Wl_nil ?_
   refine W_ret ?_
   refine ret_end (v := .tuple #[.int .i64 0, .int .i64 14]) rfl (res2 Try.results22 rfl rfl) ?_
   have hF : ctF l b = (0, 14) := by rw [ctF, if_neg (fun h => h q1), if_pos q2]
   exact ⟨_, rfl, (vtup2 (vint (by rw [hF])) (vint (by rw [hF]))), HU⟩
 ·rw [decide_eq_false q1]
  simp only [Bool.not_true, Bool.not_false]
  refine W_cond_t rfl ?_
  refine W_seq ?_
  refine W_region ?_
  refine Wl_v (r_as (v := .int .i64 0) rfl) ?_
  refine Wl_v (r_as (v := .int .i64 12) rfl) ?_
  refine Wl_nil ?_
  refine W_ret ?_
  refine ret_end (v := .tuple #[.int .i64 0, .int .i64 12]) rfl (res2 Try.results22 rfl rfl) ?_
  have hF : ctF l b = (0, 12) := by rw [ctF, if_pos q1]
  exact ⟨_, rfl, (vtup2 (vint (by rw [hF])) (vint (by rw [hF]))), HU⟩

theorem _root_.Go.Fw.Sl.icong2 {w : World} {R : Nat → Prop} {n : Nat} {v : Value} {k : IntKind} {l l' : List Int} (h : Sl w R 1 v n (ints k l)) (e : l = l') : Sl w R 1 v n (ints k l') := e ▸ h

set_option maxRecDepth 100000 in
theorem rfst_spec {a a2 : Option Addr} {n c m d : Nat} {l b : List Int} {nn : Int} {R : Nat → Prop} (w : World) (hs : Sl w R 1 (.slice a n c) n (ints .i64 l)) (hn : n ≤ 1000) (hsb : Sl w (fun g => g < w.heap.size) 1 (.slice a2 m d) m (ints .u8 b)) (hb : Byt b) (hm : m ≤ 100000) (hni : -9223372036854775808 ≤ nn ∧ nn ≤ 9223372036854775807) :
  Calls Try.prog 24 #[.slice a n c, .slice a2 m d, .int .i64 nn] w (Ret fun v w' => ∃ (a' : Option Addr) (m' : Nat) (c' : Nat), v = .tuple #[.slice a' m' c', .int .i64 ((pfF l b nn).2)] ∧ Sl w' (fun g => w.heap.size ≤ g) 1 (.slice a' m' c') m' (ints .u8 ((pfF l b nn).1)) ∧ Upd No w w') := by
 have HU : Upd (fun b => False) w w := Upd.refl _ _
 have hl_hs := ilen hs
 have hc_hs := hs.cap.1
 replace hs := hs.tight
 have hl_hsb := ilen hsb
 have hc_hsb := hsb.cap.1
 refine calls_of_W Try.func24 rfl Try.ntmps24 (by simp) ?_
 refine W_seq ?_
 refine W_region ?_
 refine Wl_v (r_as (v := .slice none 0 0) rfl) ?_
 refine Wl_v (r_as (v := .int .i64 0) rfl) ?_
 refine Wl_nil ?_
 refine W_seq ?_
 refine W_seq ?_
 refine W_region ?_
 refine Wl_v (r_mv (v := .slice a n c) rfl) ?_
 refine Wl_call (r_call1 rfl Try.call26 rfl) (rright_spec _ hs (by omega)) ?_
 rintro v w1 ⟨rfl, hU1⟩
 have hzw1 := hU1.size
 replace hs := hs.upd0 hU1
 replace hsb := hsb.upd0 hU1
 replace HU := HU.trans0 hU1
 refine Wl_v (r_not rfl) ?_
 refine Wl_nil ?_
 by_cases q1 : Rt l
 ·rw [decide_eq_true q1]
  simp only [Bool.not_true, Bool.not_false]
  refine W_cond_f rfl ?_
  refine W_skip ?_
  refine W_seq ?_
  refine W_seq ?_
  refine W_region ?_
  refine Wl_v (r_mv (v := .int .i64 nn) rfl) ?_
  refine Wl_v (r_lt rfl rfl) ?_
  refine Wl_v (r_mv (v := .bool (decide (nn < 0))) rfl) ?_
  by_cases q2 : nn < 0
  ·rw [decide_eq_true q2]
   refine Wl_guard_f rfl ?_
   refine Wl_guard_f rfl ?_
   refine Wl_v (r_pick_t (v := .bool true) rfl rfl) ?_
   refine Wl_nil ?_
   refine W_cond_t rfl ?_
   refine W_seq ?_
   refine W_region ?_
   refine Wl_v (r_as (v := .slice none 0 0) rfl) ?_
   refine Wl_v (r_as (v := .int .i64 2) rfl) ?_
   refine Wl_nil ?_
   refine W_ret ?_
   refine ret_end (v := .tuple #[.slice none 0 0, .int .i64 2]) rfl (res2 Try.results24 rfl rfl) ?_
   have hF : pfF l b nn = ([], 2) := by rw [pfF, if_neg (fun h => h q1), if_pos (by omega)]
   exact ⟨_, rfl, none, 0, 0, (vtup2 rfl (vint (by rw [hF]))), (by rw [hF]; first | exact (Sl.nil _ _ 1) | exact (Sl.nil _ _ _) | exact (Sl.nil _ _ 1).icong2 (yms_take (by omega))), HU⟩
  ·rw [decide_eq_false q2]
   refine Wl_guard_t rfl ?_
   refine Wl_v (r_mv (v := .int .i64 nn) rfl) ?_
   refine Wl_guard_t rfl ?_
   refine Wl_v (r_gt rfl rfl) ?_
   refine Wl_v (r_pick_f (v := .bool (decide (131072 < nn))) rfl rfl) ?_
   refine Wl_nil ?_
   by_cases q3 : 131072 < nn
   ·rw [decide_eq_true q3]
    refine W_cond_t rfl ?_
    refine W_seq ?_
    refine W_region ?_
    refine Wl_v (r_as (v := .slice none 0 0) rfl) ?_
    refine Wl_v (r_as (v := .int .i64 2) rfl) ?_
    refine Wl_nil ?_
    refine W_ret ?_
    refine ret_end (v := .tuple #[.slice none 0 0, .int .i64 2]) rfl (res2 Try.results24 rfl rfl) ?_
    have hF : pfF l b nn = ([], 2) := by rw [pfF, if_neg (fun h => h q1), if_pos (by omega)]
    exact ⟨_, rfl, none, 0, 0, (vtup2 rfl (vint (by rw [hF]))), (by rw [hF]; first | exact (Sl.nil _ _ 1) | exact (Sl.nil _ _ _) | exact (Sl.nil _ _ 1).icong2 (yms_take (by omega))), HU⟩
   ·rw [decide_eq_false q3]
    refine W_cond_f rfl ?_
    refine W_skip ?_
    refine W_seq ?_
    refine W_seq ?_
    refine W_region ?_
    refine Wl_v (r_mv (v := .slice a2 m d) rfl) ?_
    by_cases q4 : Cl b
    ·refine Wl_call (r_call1 rfl Try.call54 rfl) (rbwd_ok _ hsb.any hb (by omega) q4) ?_
     rintro v w2 ⟨rr2, a2x, c2, rfl, hB2, hS2, hU2⟩
     have hzw2 := hU2.size
     replace hs := hs.upd0 hU2
     replace hsb := hsb.upd0 hU2
     replace HU := HU.trans0 hU2
     have hbl_hB2 := hB2.lt
     have hl_hS2 := rlen encB_len (by decide) hS2
     have hc_hS2 := hS2.cap.1
     refine Wl_v (r_mv (v := .tuple #[.pointer (some ⟨rr2, 0, none⟩), .int .i64 0]) rfl) ?_
     refine Wl_v (r_ext (v := .pointer (some ⟨rr2, 0, none⟩)) rfl rfl) ?_
     refine Wl_v (r_ext (v := .int .i64 0) rfl rfl) ?_
     refine Wl_v (r_as (v := .pointer (some ⟨rr2, 0, none⟩)) rfl) ?_
     refine Wl_v (r_as (v := .int .i64 0) rfl) ?_
     refine Wl_nil ?_
     refine W_seq ?_
     refine W_region ?_
     refine Wl_v (r_mv (v := .int .i64 0) rfl) ?_
     refine Wl_v (v := .bool false) (r_ne (a := 0) (b := 0) rfl rfl) ?_
     refine Wl_nil ?_
     refine W_cond_f rfl ?_
     refine W_skip ?_
     refine W_seq ?_
     refine W_region ?_
     refine Wl_v (r_mv (v := .slice a n c) rfl) ?_
     refine Wl_v (r_mv (v := .slice a2 m d) rfl) ?_
     have q5 : Cl b := q4
     refine Wl_call (r_call2 rfl Try.call28 rfl rfl) (reach_ok _ hs (by omega) hsb.any hb (by omega) q1 q5) ?_
     rintro v w3 ⟨a3, c3, e3, f3, rfl, hO3, hP3, hU3⟩
     have hzw3 := hU3.size
     replace HU := HU.trans0 hU3
     replace hO3 := hO3.tight
     have hl_hO3 := ilen hO3.sl
     have hc_hO3 := hO3.sl.cap.1
     replace hP3 := hP3.tight
     have hl_hP3 := ilen hP3.sl
     have hc_hP3 := hP3.sl.cap.1
     refine Wl_v (r_mv (v := .tuple #[.slice a3 (nb l (wn b) (tbt b)) c3, .slice e3 (nb l (wn b) (tbt b)) f3, .bool (decide (st l (wn b) (tbt b) (nb l (wn b) (tbt b)) = 0))]) rfl) ?_
     refine Wl_v (r_ext (v := .slice a3 (nb l (wn b) (tbt b)) c3) rfl rfl) ?_
     refine Wl_v (r_ext (v := .slice e3 (nb l (wn b) (tbt b)) f3) rfl rfl) ?_
     refine Wl_v (r_ext (v := .bool (decide (st l (wn b) (tbt b) (nb l (wn b) (tbt b)) = 0))) rfl rfl) ?_
     refine Wl_v (r_as (v := .slice a3 (nb l (wn b) (tbt b)) c3) rfl) ?_
     refine Wl_v (r_as (v := .slice e3 (nb l (wn b) (tbt b)) f3) rfl) ?_
     refine Wl_v (r_as (v := .bool (decide (st l (wn b) (tbt b) (nb l (wn b) (tbt b)) = 0))) rfl) ?_
     refine Wl_nil ?_
     refine W_seq ?_
     refine W_seq ?_
     refine W_region ?_
     refine Wl_v (r_mv (v := .slice a3 (nb l (wn b) (tbt b)) c3) rfl) ?_
     refine Wl_v (r_len Try.underlying23 rfl) ?_
     refine Wl_v (r_mv (v := .int .i64 nn) rfl) ?_
     refine Wl_v (r_lt rfl rfl) ?_
     refine Wl_nil ?_
     by_cases q6 : (((nb l (wn b) (tbt b)) : Nat) : Int) < nn
     ·rw [decide_eq_true q6]
      refine W_cond_t rfl ?_
      refine W_seq ?_
      refine W_region ?_
      refine Wl_v (r_as (v := .slice none 0 0) rfl) ?_
      refine Wl_v (r_as (v := .int .i64 14) rfl) ?_
      refine Wl_nil ?_
      refine W_ret ?_
      refine ret_end (v := .tuple #[.slice none 0 0, .int .i64 14]) rfl (res2 Try.results24 rfl rfl) ?_
      have hF : pfF l b nn = ([], 14) := by rw [pfF, if_neg (fun h => h q1), if_neg (by omega), if_neg (fun h => h q5), if_neg (fun h => by have := (gd_le q1).1 h; omega)]
      exact ⟨_, rfl, none, 0, 0, (vtup2 rfl (vint (by rw [hF]))), (by rw [hF]; first | exact (Sl.nil _ _ 1) | exact (Sl.nil _ _ _) | exact (Sl.nil _ _ 1).icong2 (yms_take (by omega))), HU⟩
     ·rw [decide_eq_false q6]
      refine W_cond_f rfl ?_
      refine W_skip ?_
      refine W_seq ?_
      refine W_region ?_
      refine Wl_v (r_mv (v := .slice a3 (nb l (wn b) (tbt b)) c3) rfl) ?_
      refine Wl_v (r_mv (v := .int .i64 nn) rfl) ?_
      refine Wl_v (r_slicehn (h' := (nn).toNat) Try.underlying23 Try.sizeOf5 rfl rfl (by omega) (by omega)) ?_
      have hT4 := Sl.cuth (n := (nn).toNat) hO3.sl (by omega)
      have hl_hT4 := ilen hT4
      have hc_hT4 := hT4.cap.1
      refine Wl_v (r_as (v := .slice a3 ((nn).toNat) c3) rfl) ?_
      refine Wl_v (r_as (v := .int .i64 0) rfl) ?_
      refine Wl_nil ?_
      refine W_ret ?_
      refine ret_end (v := .tuple #[.slice a3 ((nn).toNat) c3, .int .i64 0]) rfl (res2 Try.results24 rfl rfl) ?_
      have hF : pfF l b nn = (yms l (wn b) (tbt b) nn.toNat, 0) := by rw [pfF, if_neg (fun h => h q1), if_neg (by omega), if_neg (fun h => h q5), if_pos ((gd_le q1).2 (by omega))]
      exact ⟨_, rfl, a3, (nn).toNat, c3, (vtup2 rfl (vint (by rw [hF]))), (by rw [hF]; first | exact (hT4.weak (by intro g hg; have h3 : ((w2.heap.size ≤ g) ∧ g < w3.heap.size) := hg; show w.heap.size ≤ g; omega)) | exact (Sl.nil _ _ _) | exact (hT4.weak (by intro g hg; have h3 : ((w2.heap.size ≤ g) ∧ g < w3.heap.size) := hg; show w.heap.size ≤ g; omega)).icong2 (yms_take (by omega))), HU⟩
    ·refine Wl_call (r_call1 rfl Try.call54 rfl) (rbwd_no _ hsb.any hb (by omega) q4) ?_
     rintro v w5 ⟨rfl, hU5⟩
     have hzw5 := hU5.size
     replace HU := HU.trans0 hU5
     refine Wl_v (r_mv (v := .tuple #[.pointer none, .int .i64 14]) rfl) ?_
     refine Wl_v (r_ext (v := .pointer none) rfl rfl) ?_
     refine Wl_v (r_ext (v := .int .i64 14) rfl rfl) ?_
     refine Wl_v (r_as (v := .pointer none) rfl) ?_
     refine Wl_v (r_as (v := .int .i64 14) rfl) ?_
     refine Wl_nil ?_
     refine W_seq ?_
     refine W_region ?_
     refine Wl_v (r_mv (v := .int .i64 14) rfl) ?_
     refine Wl_v (v := .bool true) (r_ne (a := 14) (b := 0) rfl rfl) ?_
     refine Wl_nil ?_
     refine W_cond_t rfl ?_
     refine W_seq ?_
     refine W_region ?_
     refine Wl_v (r_as (v := .slice none 0 0) rfl) ?_
     refine Wl_v (r_as (v := .int .i64 14) rfl) ?_
     refine Wl_nil ?_
     refine W_ret ?_
     refine ret_end (v := .tuple #[.slice none 0 0, .int .i64 14]) rfl (res2 Try.results24 rfl rfl) ?_
     have hF : pfF l b nn = ([], 14) := by rw [pfF, if_neg (fun h => h q1), if_neg (by omega), if_pos q4]
     exact ⟨_, rfl, none, 0, 0, (vtup2 rfl (vint (by rw [hF]))), (by rw [hF]; first | exact (Sl.nil _ _ 1) | exact (Sl.nil _ _ _) | exact (Sl.nil _ _ 1).icong2 (yms_take (by omega))), HU⟩
 ·rw [decide_eq_false q1]
  simp only [Bool.not_true, Bool.not_false]
  refine W_cond_t rfl ?_
  refine W_seq ?_
  refine W_region ?_
  refine Wl_v (r_as (v := .slice none 0 0) rfl) ?_
  refine Wl_v (r_as (v := .int .i64 12) rfl) ?_
  refine Wl_nil ?_
  refine W_ret ?_
  refine ret_end (v := .tuple #[.slice none 0 0, .int .i64 12]) rfl (res2 Try.results24 rfl rfl) ?_
  have hF : pfF l b nn = ([], 12) := by rw [pfF, if_pos q1]
  exact ⟨_, rfl, none, 0, 0, (vtup2 rfl (vint (by rw [hF]))), (by rw [hF]; first | exact (Sl.nil _ _ 1) | exact (Sl.nil _ _ _) | exact (Sl.nil _ _ 1).icong2 (yms_take (by omega))), HU⟩

end Go.Proofs.Ytilegaokfamfnaa
