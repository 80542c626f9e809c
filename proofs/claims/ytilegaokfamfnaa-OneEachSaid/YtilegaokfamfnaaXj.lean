/-
 Walks, printed by a small program of this project (gen.py).
-/
import Derived.Test.YtilegaokfamfnaaXi
import Derived.Test.YtilegaokfamfnaaFl
set_option linter.unusedVariables false
set_option linter.unusedSimpArgs false
namespace Go.Proofs.Ytilegaokfamfnaa
open Go.Fw

def cdsR (l : List Int) : List (Int × Int) := if Rt l then cds l else []
def ordR (l : List Int) : List Int := if Rt l then ord l else []
theorem ord_nil : ord [] = [] := by decide

set_option maxRecDepth 100000 in
theorem all_spec {a : Option Addr} {n c : Nat} {l : List Int} {R : Nat → Prop} (w : World) (hs : Sl w R 1 (.slice a n c) n (ints .i64 l)) (hn : n ≤ 17592186044415) :
  Calls Try.prog 100 #[.slice a n c] w (Ret fun v w' => ∃ (Bo : Nat) (Bc : Nat) (a' : Option Addr) (m' : Nat) (c' : Nat) (b' : Option Addr) (n' : Nat) (d' : Nat), v = .func (.func 106) #[] #[.pointer (some ⟨Bo, 0, none⟩), .pointer (some ⟨Bc, 0, none⟩)] ∧ Blk w' Bo [.slice a' m' c'] ∧ Blk w' Bc [.slice b' n' d'] ∧ Own w' (fun g => w.heap.size ≤ g) 3 1 (.slice a' m' c') m' (ints .i64 (ordR l)) ∧ Own w' (fun g => w.heap.size ≤ g) 67 2 (.slice b' n' d') n' (rows encC (cdsR l)) ∧ w.heap.size ≤ Bo ∧ w.heap.size ≤ Bc ∧ Upd No w w') := by
 have HU : Upd (fun b => False) w w := Upd.refl _ _
 have hl_hs := ilen hs
 have hc_hs := hs.cap.1
 replace hs := hs.tight
 refine calls_of_W Try.func100 rfl Try.ntmps100 (by simp) ?_
 refine W_seq ?_
 refine W_region ?_
 refine Wl_v (r_as (v := .nilFunc) rfl) ?_
 refine Wl_nil ?_
 refine W_seq ?_
 refine W_region ?_
 refine Wl_v (r_mv (v := .slice a n c) rfl) ?_
 by_cases q1 : Rt l
 ·refine Wl_call (r_call1 rfl Try.call64 rfl) (codes_ok _ hs (by omega) q1) ?_
  rintro v w1 ⟨a1, c1, rfl, hO1, hU1⟩
  have hzw1 := hU1.size
  replace HU := HU.trans0 hU1
  replace hO1 := hO1.tight
  have hl_hO1 := rlen encC_len (by decide) hO1.sl
  have hc_hO1 := hO1.sl.cap.1
  have hr := q1
  have h256 := hr.2.1
  refine Wl_v (r_mv (v := .tuple #[.slice a1 n c1, .int .i64 0]) rfl) ?_
  refine Wl_v (r_ext (v := .slice a1 n c1) rfl rfl) ?_
  refine Wl_v (r_ext (v := .int .i64 0) rfl rfl) ?_
  refine Wl_alloc (cs := [.slice none 0 0]) Try.zeroValue53 rfl ?_
  intro B2 w2 hB2 hU2 hzz2 hb2
  have hzw2 := hU2.size
  replace HU := HU.trans0 hU2
  replace hO1 := hO1.upd0 hU2
  refine Wl_store (v := .slice a1 n c1) (cs' := [.slice a1 n c1]) Try.sizeOf53 rfl rfl rfl rfl hb2 rfl rfl ?_
  intro w3 hU3 hzz3 hb2n
  replace hb2 := hb2n; clear hb2n
  have hzw3 := hU3.size
  replace HU := HU.trans1 hU3 (by show (False) ∨ w.heap.size ≤ B2; omega)
  replace hO1 := hO1.upd1 hU3 (by intro h1; have h3 : ((w.heap.size ≤ B2) ∧ B2 < w1.heap.size) := h1; omega)
  refine Wl_v (r_as (v := .int .i64 0) rfl) ?_
  refine Wl_nil ?_
  refine W_seq ?_
  refine W_region ?_
  refine Wl_alloc (cs := [.slice none 0 0]) Try.zeroValue22 rfl ?_
  intro B4 w4 hB4 hU4 hzz4 hb4
  have hzw4 := hU4.size
  replace HU := HU.trans0 hU4
  replace hO1 := hO1.upd0 hU4
  replace hb2 := hb2.upd0 hU4
  refine Wl_nil ?_
  refine W_seq ?_
  refine W_seq ?_
  refine W_region ?_
  refine Wl_v (r_as (v := .int .i64 1) rfl) ?_
  refine Wl_nil ?_
  refine W_block ?_
  have hBlt := hb4.lt
  refine W_loop (fun mu ρ ds w' => ∃ (q : Nat) (a2 : Option Addr) (m c2 : Nat), 11 - q = mu ∧ ds = [] ∧ Liv ρ [(3, .pointer (some ⟨B2, 0, none⟩)), (5, .pointer (some ⟨B4, 0, none⟩)), (6, .int .i64 ((q + 1 : Nat) : Int))] ∧ q ≤ 11 ∧ Blk w' B4 [.slice a2 m c2] ∧ Own w' (fun g => w4.heap.size ≤ g) 3 1 (.slice a2 m c2) m (ints .i64 (ordU l q)) ∧ Upd (fun g => g = B4 ∨ w4.heap.size ≤ g) w4 w') _ ⟨0, none, 0, 0, rfl, rfl, ⟨rfl, rfl, (by first | rfl | exact vint (by omega) | exact vint (by simp)), trivial⟩, (by omega), hb4, (Own.nil _ _ _ _), Upd.refl _ _⟩ ?_
  rintro m5 ρ5 ds5 w5 ⟨q, a2, m, c2, rfl, rfl, hl5, hq, hb4, hO, hU5⟩
  obtain ⟨ρ5x, rfl⟩ : ∃ ρx, ρ5 = upds ρx [(3, .pointer (some ⟨B2, 0, none⟩)), (5, .pointer (some ⟨B4, 0, none⟩)), (6, .int .i64 ((q + 1 : Nat) : Int))] := ⟨_, upds_self hl5⟩
  clear hl5
  have hzw5 := hU5.size
  replace HU := HU.trans hU5 (by intro x hx; have hx2 : x = B4 ∨ w4.heap.size ≤ x := hx; show (False) ∨ w.heap.size ≤ x; omega)
  replace hO1 := hO1.upd hU5 (by intro x h1 h2; have h3 : ((w.heap.size ≤ x) ∧ x < w1.heap.size) := h1; have h4 : x = B4 ∨ w4.heap.size ≤ x := h2; omega)
  replace hb2 := hb2.upd hU5 (by intro hx; have hx2 : B2 = B4 ∨ w4.heap.size ≤ B2 := hx; omega)
  have HL5 := hU5
  refine W_seq ?_
  refine W_seq ?_
  refine W_region ?_
  refine Wl_v (r_mv (v := .int .i64 ((q + 1 : Nat) : Int)) rfl) ?_
  refine Wl_v (r_le rfl rfl) ?_
  refine Wl_nil ?_
  by_cases q2 : ((q + 1 : Nat) : Int) ≤ 11
  ·rw [decide_eq_true q2]
   refine W_cond_t rfl ?_
   refine W_skip ?_
   refine W_seq ?_
   refine W_block ?_
   refine W_seq ?_
   refine W_region ?_
   refine Wl_load (v := .slice a1 n c1) Try.isAgg53 rfl hb2 rfl ?_
   refine Wl_v (r_len Try.underlying53 rfl) ?_
   refine Wl_v (r_mv (v := .int .i64 0) rfl) ?_
   refine Wl_nil ?_
   refine W_block ?_
   refine W_loop (fun mu ρ ds w' => ∃ (k : Nat) (a3 : Option Addr) (m3 c3 : Nat), n - k = mu ∧ ds = [] ∧ Liv ρ [(3, .pointer (some ⟨B2, 0, none⟩)), (5, .pointer (some ⟨B4, 0, none⟩)), (6, .int .i64 ((q + 1 : Nat) : Int)), (18, .slice a1 n c1), (19, .int .i64 ((n : Nat) : Int)), (20, .int .i64 ((k : Nat) : Int))] ∧ k ≤ n ∧ Blk w' B4 [.slice a3 m3 c3] ∧ Own w' (fun g => w4.heap.size ≤ g) 3 1 (.slice a3 m3 c3) m3 (ints .i64 (ordU l q ++ blk l (q + 1) k)) ∧ Upd (fun g => g = B4 ∨ w4.heap.size ≤ g) w5 w') _ ⟨0, a2, m, c2, rfl, rfl, ⟨rfl, rfl, rfl, rfl, rfl, (by first | rfl | exact vint (by omega) | exact vint (by simp)), trivial⟩, (by omega), hb4, (hO.icong (by simp [blk])), Upd.refl _ _⟩ ?_
   rintro m6 ρ6 ds6 w6 ⟨k, a3, m3, c3, rfl, rfl, hl6, hk, hb4, hO3, hU6⟩
   obtain ⟨ρ6x, rfl⟩ : ∃ ρx, ρ6 = upds ρx [(3, .pointer (some ⟨B2, 0, none⟩)), (5, .pointer (some ⟨B4, 0, none⟩)), (6, .int .i64 ((q + 1 : Nat) : Int)), (18, .slice a1 n c1), (19, .int .i64 ((n : Nat) : Int)), (20, .int .i64 ((k : Nat) : Int))] := ⟨_, upds_self hl6⟩
   clear hl6
   have hzw6 := hU6.size
   replace hO1 := hO1.upd hU6 (by intro x h1 h2; have h3 : ((w.heap.size ≤ x) ∧ x < w1.heap.size) := h1; have h4 : x = B4 ∨ w4.heap.size ≤ x := h2; omega)
   replace HL5 := HL5.trans hU6 (by intro x hx; have hx2 : x = B4 ∨ w4.heap.size ≤ x := hx; show (x = B4 ∨ w4.heap.size ≤ x) ∨ w4.heap.size ≤ x; omega)
   have HL6 := hU6
   refine W_seq ?_
   refine W_region ?_
   refine Wl_v (r_lt rfl rfl) ?_
   refine Wl_nil ?_
   refine W_seq ?_
   by_cases q3 : ((k : Nat) : Int) < ((n : Nat) : Int)
   ·replace hO3 := hO3.tight
    have hcf : ((cds l).getD k (0, 0)).1 = l.getD k 0 := by rw [cds_get (by omega), cd_fst hr.1]
    have hou := ordU_len l q (by omega)
    have hbl := blk_len (l := l) (n := q + 1) (by omega) (i := k) (by omega)
    have hcl := cn_le (l.take k) (q + 1)
    rw [List.length_take] at hcl
    have hl3 := ilen hO3.sl
    rw [List.length_append] at hl3
    have hqq : q * l.length ≤ 11 * l.length := Nat.mul_le_mul_right _ (by omega)
    rw [decide_eq_true q3]
    refine W_cond_t rfl ?_
    refine W_skip ?_
    refine W_seq ?_
    refine W_block ?_
    refine W_seq ?_
    refine W_region ?_
    refine Wl_v (r_mv (v := .int .i64 ((k : Nat) : Int)) rfl) ?_
    refine Wl_idxr (0, 0) encC_len (by decide) Try.underlying53 Try.sizeOf67 rfl rfl hO1.sl (by omega) (by omega) ?_
    intro ib7 io7 hc7
    try rw [Int.toNat_natCast] at hc7
    refine Wl_v (r_loada (cs := [.int .i64 (((cds l).getD k (0, 0)).1), .int .u32 (((cds l).getD k (0, 0)).2)]) Try.isAgg67 Try.sizeOf67 rfl rfl hc7) ?_
    refine Wl_alloc (cs := [.int .i64 0, .int .u32 0]) Try.zeroValue67 rfl ?_
    intro B8 w8 hB8 hU8 hzz8 hb8
    have hzw8 := hU8.size
    replace hb4 := hb4.upd0 hU8
    replace hO3 := hO3.upd0 hU8
    replace HL6 := HL6.trans0 hU8
    refine Wl_v (r_as (v := .int .i64 ((k : Nat) : Int)) rfl) ?_
    refine Wl_storea (off := 0) (vs := [.int .i64 (((cds l).getD k (0, 0)).1), .int .u32 (((cds l).getD k (0, 0)).2)]) (cs' := [.int .i64 (((cds l).getD k (0, 0)).1), .int .u32 (((cds l).getD k (0, 0)).2)]) Try.sizeOf67 rfl rfl rfl (by simp only [List.mem_cons, List.not_mem_nil, or_false, forall_eq_or_imp, forall_eq]; exact ⟨rfl, rfl⟩) hb8 (by simp) rfl ?_
    intro w9 hU9 hzz9 hb8n
    replace hb8 := hb8n; clear hb8n
    have hzw9 := hU9.size
    replace hb4 := hb4.upd1 hU9 (by omega)
    replace hO3 := hO3.upd1 hU9 (by intro h1; have h3 : ((w4.heap.size ≤ B8) ∧ B8 < w6.heap.size) := h1; omega)
    replace HL6 := HL6.trans1 hU9 (by show (B8 = B4 ∨ w4.heap.size ≤ B8) ∨ w5.heap.size ≤ B8; omega)
    refine Wl_nil ?_
    refine W_seq ?_
    refine W_region ?_
    refine Wl_v (r_fld Try.underlying67 rfl Try.sizeOf3 rfl rfl) ?_
    refine Wl_load (v := .int .i64 (((cds l).getD k (0, 0)).1)) Try.isAgg3 rfl hb8 rfl ?_
    refine Wl_v (r_mv (v := .int .i64 ((q + 1 : Nat) : Int)) rfl) ?_
    refine Wl_v (r_eq rfl rfl) ?_
    refine Wl_nil ?_
    by_cases q4 : (((cds l).getD k (0, 0)).1) = ((q + 1 : Nat) : Int)
    ·rw [decide_eq_true q4]
     refine W_cond_t rfl ?_
     refine W_region ?_
     refine Wl_load (v := .slice a3 m3 c3) Try.isAgg22 rfl hb4 rfl ?_
     refine Wl_v (r_mv (v := .int .i64 ((k : Nat) : Int)) rfl) ?_
     refine Wl_lit (pv := [(0, .int .i64 ((k : Nat) : Int))]) (cs := [.int .i64 ((k : Nat) : Int)]) Try.underlying22 Try.sizeOf3 Try.zeroValue3 (by decide) (by decide) (by simp only [List.map_toArray, List.map_cons, List.map_nil] <;> rfl) (by kernel_rfl) rfl (by decide) ?_
     intro B10 w10 hB10 hU10 hzz10 hs10
     have hzw10 := hU10.size
     replace hb4 := hb4.upd0 hU10
     replace hO3 := hO3.upd0 hU10
     replace HL6 := HL6.trans0 hU10
     replace hs10 : Own w10 (Is B10) 3 1 (.slice (some ⟨B10, 0, none⟩) 1 1) 1 (ints .i64 [((k : Nat) : Int)]) := hs10
     refine Wl_appendi (xs := ordU l q ++ blk l (q + 1) k) (ys := [((k : Nat) : Int)]) (zs := ordU l q ++ blk l (q + 1) k ++ [((k : Nat) : Int)]) (k' := .i64) (tot := m3 + 1) (by first | rfl | exact (rows_app _ _).symm | simp) Try.underlying22 (ti := Try.t3) (z := .int .i64 0) (sz := 1) (by' := 8) rfl rfl rfl rfl rfl (by decide) rfl hO3 rfl hs10.sl  (by omega) (by simp only [maxLen]; omega) (by omega) ?_
     intro a11 c11 w11 hU11 hzz11 hO11
     clear hO3
     have hzw11 := hU11.size
     replace hb4 := hb4.upd hU11 (by intro hx; have hx2 : ((w4.heap.size ≤ B4) ∧ B4 < w6.heap.size) := hx; omega)
     replace HL6 := HL6.trans hU11 (by intro x hx; have hx2 : ((w4.heap.size ≤ x) ∧ x < w6.heap.size) := hx; show (x = B4 ∨ w4.heap.size ≤ x) ∨ w5.heap.size ≤ x; omega)
     replace hO11 := hO11.tight
     have hl_hO11 := ilen hO11.sl
     have hc_hO11 := hO11.sl.cap.1
     refine Wl_store (v := .slice a11 (m3 + 1) c11) (cs' := [.slice a11 (m3 + 1) c11]) Try.sizeOf22 rfl rfl rfl rfl hb4 rfl rfl ?_
     intro w12 hU12 hzz12 hb4n
     replace hb4 := hb4n; clear hb4n
     have hzw12 := hU12.size
     replace HL6 := HL6.trans1 hU12 (by show (B4 = B4 ∨ w4.heap.size ≤ B4) ∨ w5.heap.size ≤ B4; omega)
     replace hO11 := hO11.upd1 hU12 (by intro h1; have h3 : ((((((w4.heap.size ≤ B4) ∧ B4 < w6.heap.size)) ∨ B4 = w10.heap.size)) ∧ B4 < w11.heap.size) := h1; omega)
     refine Wl_nil ?_
     refine W_region ?_
     refine Wl_v (r_add rfl rfl (wi64 (by omega) (by omega))) ?_
     refine Wl_v (r_mv (v := .int .i64 (((k : Nat) : Int) + 1)) rfl) ?_
     refine Wl_nil ?_
     refine ⟨_, ?_, (k + 1), a11, m3 + 1, c11, rfl, rfl, ⟨rfl, rfl, rfl, rfl, rfl, (Eq.trans (b := .int .i64 (((k : Nat) : Int) + 1)) rfl (vint (by omega))), trivial⟩, (by omega), hb4, ((hO11.weak (by intro g hg; have h3 : ((((((w4.heap.size ≤ g) ∧ g < w6.heap.size)) ∨ g = w10.heap.size)) ∧ g < w11.heap.size) := hg; show _ ≤ _; omega)).icong (by rw [blk, if_pos (by omega), List.append_assoc])), HL6⟩
     omega
    ·rw [decide_eq_false q4]
     refine W_cond_f rfl ?_
     refine W_skip ?_
     refine W_region ?_
     refine Wl_v (r_add rfl rfl (wi64 (by omega) (by omega))) ?_
     refine Wl_v (r_mv (v := .int .i64 (((k : Nat) : Int) + 1)) rfl) ?_
     refine Wl_nil ?_
     refine ⟨_, ?_, (k + 1), a3, m3, c3, rfl, rfl, ⟨rfl, rfl, rfl, rfl, rfl, (Eq.trans (b := .int .i64 (((k : Nat) : Int) + 1)) rfl (vint (by omega))), trivial⟩, (by omega), hb4, ((hO3.weak (by intro g hg; have h3 : ((w4.heap.size ≤ g) ∧ g < w6.heap.size) := hg; show _ ≤ _; omega)).icong (by rw [blk, if_neg (by omega), List.append_nil])), HL6⟩
     omega
   ·rw [decide_eq_false q3]
    refine W_cond_f rfl ?_
    refine W_exit ?_
    refine W_region ?_
    refine Wl_v (r_mv (v := .int .i64 ((q + 1 : Nat) : Int)) rfl) ?_
    refine Wl_v (r_add rfl rfl (wi64 (by omega) (by omega))) ?_
    refine Wl_v (r_as (v := .int .i64 (((q + 1 : Nat) : Int) + 1)) rfl) ?_
    refine Wl_nil ?_
    refine ⟨_, ?_, (q + 1), a3, m3, c3, rfl, rfl, ⟨rfl, rfl, (Eq.trans (b := .int .i64 (((q + 1 : Nat) : Int) + 1)) rfl (vint (by omega))), trivial⟩, (by omega), hb4, ((hO3.weak (by intro g hg; have h3 : w4.heap.size ≤ g := hg; show _ ≤ _; omega)).icong (by rw [ordU, show k = l.length from by omega])), HL5⟩
    omega
  ·have hq11 : q = 11 := by omega
   rw [decide_eq_false q2]
   refine W_cond_f rfl ?_
   refine W_exit ?_
   refine W_seq ?_
   refine W_region ?_
   refine Wl_v (r_mkf2 (v0 := .pointer (some ⟨B4, 0, none⟩)) (v1 := .pointer (some ⟨B2, 0, none⟩)) rfl rfl) ?_
   refine Wl_v (r_as (v := .func (.func 106) #[] #[.pointer (some ⟨B4, 0, none⟩), .pointer (some ⟨B2, 0, none⟩)]) rfl) ?_
   refine Wl_nil ?_
   refine W_ret ?_
   refine ret_end (v := .func (.func 106) #[] #[.pointer (some ⟨B4, 0, none⟩), .pointer (some ⟨B2, 0, none⟩)]) rfl (res1 Try.results100 rfl) ?_
   rw [show cdsR l = cds l from if_pos q1, show ordR l = ord l from if_pos q1]
   exact ⟨_, rfl, B4, B2, a2, m, c2, a1, n, c1, rfl, hb4, hb2, ((hO.weak (by intro g hg; have h3 : w4.heap.size ≤ g := hg; show w.heap.size ≤ g; omega)).icong (by rw [hq11]; first | rfl | exact ord_nil)), (by first | exact hO1.weak (by intro g hg; have h3 : ((w.heap.size ≤ g) ∧ g < w1.heap.size) := hg; show w.heap.size ≤ g; omega) | simpa using hO1.weak (by intro g hg; have h3 : ((w.heap.size ≤ g) ∧ g < w1.heap.size) := hg; show w.heap.size ≤ g; omega)), (by omega), (by omega), HU⟩
 ·refine Wl_call (r_call1 rfl Try.call64 rfl) (codes_no _ hs (by omega) q1) ?_
  rintro v w13 ⟨rfl, hU13⟩
  have hzw13 := hU13.size
  replace HU := HU.trans0 hU13
  refine Wl_v (r_mv (v := .tuple #[.slice none 0 0, .int .i64 12]) rfl) ?_
  refine Wl_v (r_ext (v := .slice none 0 0) rfl rfl) ?_
  refine Wl_v (r_ext (v := .int .i64 12) rfl rfl) ?_
  refine Wl_alloc (cs := [.slice none 0 0]) Try.zeroValue53 rfl ?_
  intro B14 w14 hB14 hU14 hzz14 hb14
  have hzw14 := hU14.size
  replace HU := HU.trans0 hU14
  refine Wl_store (v := .slice none 0 0) (cs' := [.slice none 0 0]) Try.sizeOf53 rfl rfl rfl rfl hb14 rfl rfl ?_
  intro w15 hU15 hzz15 hb14n
  replace hb14 := hb14n; clear hb14n
  have hzw15 := hU15.size
  replace HU := HU.trans1 hU15 (by show (False) ∨ w.heap.size ≤ B14; omega)
  refine Wl_v (r_as (v := .int .i64 12) rfl) ?_
  refine Wl_nil ?_
  refine W_seq ?_
  refine W_region ?_
  refine Wl_alloc (cs := [.slice none 0 0]) Try.zeroValue22 rfl ?_
  intro B16 w16 hB16 hU16 hzz16 hb16
  have hzw16 := hU16.size
  replace HU := HU.trans0 hU16
  replace hb14 := hb14.upd0 hU16
  refine Wl_nil ?_
  refine W_seq ?_
  refine W_seq ?_
  refine W_region ?_
  refine Wl_v (r_as (v := .int .i64 1) rfl) ?_
  refine Wl_nil ?_
  refine W_block ?_
  have hBlt := hb16.lt
  refine W_loop (fun mu ρ ds w' => ∃ (q : Nat) (a2 : Option Addr) (m c2 : Nat), 11 - q = mu ∧ ds = [] ∧ Liv ρ [(3, .pointer (some ⟨B14, 0, none⟩)), (5, .pointer (some ⟨B16, 0, none⟩)), (6, .int .i64 ((q + 1 : Nat) : Int))] ∧ q ≤ 11 ∧ Blk w' B16 [.slice a2 m c2] ∧ Own w' (fun g => w16.heap.size ≤ g) 3 1 (.slice a2 m c2) m (ints .i64 (ordU ([] : List Int) q)) ∧ Upd (fun g => g = B16 ∨ w16.heap.size ≤ g) w16 w') _ ⟨0, none, 0, 0, rfl, rfl, ⟨rfl, rfl, (by first | rfl | exact vint (by omega) | exact vint (by simp)), trivial⟩, (by omega), hb16, (Own.nil _ _ _ _), Upd.refl _ _⟩ ?_
  rintro m17 ρ17 ds17 w17 ⟨q, a2, m, c2, rfl, rfl, hl17, hq, hb16, hO, hU17⟩
  obtain ⟨ρ17x, rfl⟩ : ∃ ρx, ρ17 = upds ρx [(3, .pointer (some ⟨B14, 0, none⟩)), (5, .pointer (some ⟨B16, 0, none⟩)), (6, .int .i64 ((q + 1 : Nat) : Int))] := ⟨_, upds_self hl17⟩
  clear hl17
  have hzw17 := hU17.size
  replace HU := HU.trans hU17 (by intro x hx; have hx2 : x = B16 ∨ w16.heap.size ≤ x := hx; show (False) ∨ w.heap.size ≤ x; omega)
  replace hb14 := hb14.upd hU17 (by intro hx; have hx2 : B14 = B16 ∨ w16.heap.size ≤ B14 := hx; omega)
  have HL17 := hU17
  refine W_seq ?_
  refine W_seq ?_
  refine W_region ?_
  refine Wl_v (r_mv (v := .int .i64 ((q + 1 : Nat) : Int)) rfl) ?_
  refine Wl_v (r_le rfl rfl) ?_
  refine Wl_nil ?_
  by_cases q5 : ((q + 1 : Nat) : Int) ≤ 11
  ·rw [decide_eq_true q5]
   refine W_cond_t rfl ?_
   refine W_skip ?_
   refine W_seq ?_
   refine W_block ?_
   refine W_seq ?_
   refine W_region ?_
   refine Wl_load (v := .slice none 0 0) Try.isAgg53 rfl hb14 rfl ?_
   refine Wl_v (r_len Try.underlying53 rfl) ?_
   refine Wl_v (r_mv (v := .int .i64 0) rfl) ?_
   refine Wl_nil ?_
   refine W_block ?_
   refine W_loop (fun mu ρ ds w' => ∃ (k : Nat) (a3 : Option Addr) (m3 c3 : Nat), 0 - k = mu ∧ ds = [] ∧ Liv ρ [(3, .pointer (some ⟨B14, 0, none⟩)), (5, .pointer (some ⟨B16, 0, none⟩)), (6, .int .i64 ((q + 1 : Nat) : Int)), (18, .slice none 0 0), (19, .int .i64 ((0 : Nat) : Int)), (20, .int .i64 ((k : Nat) : Int))] ∧ k ≤ 0 ∧ Blk w' B16 [.slice a3 m3 c3] ∧ Own w' (fun g => w16.heap.size ≤ g) 3 1 (.slice a3 m3 c3) m3 (ints .i64 (ordU ([] : List Int) q ++ blk ([] : List Int) (q + 1) k)) ∧ Upd (fun g => g = B16 ∨ w16.heap.size ≤ g) w17 w') _ ⟨0, a2, m, c2, rfl, rfl, ⟨rfl, rfl, rfl, rfl, rfl, (by first | rfl | exact vint (by omega) | exact vint (by simp)), trivial⟩, (by omega), hb16, (hO.icong (by simp [blk])), Upd.refl _ _⟩ ?_
   rintro m18 ρ18 ds18 w18 ⟨k, a3, m3, c3, rfl, rfl, hl18, hk, hb16, hO3, hU18⟩
   obtain ⟨ρ18x, rfl⟩ : ∃ ρx, ρ18 = upds ρx [(3, .pointer (some ⟨B14, 0, none⟩)), (5, .pointer (some ⟨B16, 0, none⟩)), (6, .int .i64 ((q + 1 : Nat) : Int)), (18, .slice none 0 0), (19, .int .i64 ((0 : Nat) : Int)), (20, .int .i64 ((k : Nat) : Int))] := ⟨_, upds_self hl18⟩
   clear hl18
   have hzw18 := hU18.size
   replace HL17 := HL17.trans hU18 (by intro x hx; have hx2 : x = B16 ∨ w16.heap.size ≤ x := hx; show (x = B16 ∨ w16.heap.size ≤ x) ∨ w16.heap.size ≤ x; omega)
   have HL18 := hU18
   refine W_seq ?_
   refine W_region ?_
   refine Wl_v (r_lt rfl rfl) ?_
   refine Wl_nil ?_
   refine W_seq ?_
   have q6 : ¬ (((k : Nat) : Int) < ((0 : Nat) : Int)) := (by omega)
   rw [decide_eq_false q6]
   refine W_cond_f rfl ?_
   refine W_exit ?_
   refine W_region ?_
   refine Wl_v (r_mv (v := .int .i64 ((q + 1 : Nat) : Int)) rfl) ?_
   refine Wl_v (r_add rfl rfl (wi64 (by omega) (by omega))) ?_
   refine Wl_v (r_as (v := .int .i64 (((q + 1 : Nat) : Int) + 1)) rfl) ?_
   refine Wl_nil ?_
   refine ⟨_, ?_, (q + 1), a3, m3, c3, rfl, rfl, ⟨rfl, rfl, (Eq.trans (b := .int .i64 (((q + 1 : Nat) : Int) + 1)) rfl (vint (by omega))), trivial⟩, (by omega), hb16, ((hO3.weak (by intro g hg; have h3 : w16.heap.size ≤ g := hg; show _ ≤ _; omega)).icong (by rw [ordU, show k = ([] : List Int).length from by simp; omega])), HL17⟩
   omega
  ·have hq11 : q = 11 := by omega
   rw [decide_eq_false q5]
   refine W_cond_f rfl ?_
   refine W_exit ?_
   refine W_seq ?_
   refine W_region ?_
   refine Wl_v (r_mkf2 (v0 := .pointer (some ⟨B16, 0, none⟩)) (v1 := .pointer (some ⟨B14, 0, none⟩)) rfl rfl) ?_
   refine Wl_v (r_as (v := .func (.func 106) #[] #[.pointer (some ⟨B16, 0, none⟩), .pointer (some ⟨B14, 0, none⟩)]) rfl) ?_
   refine Wl_nil ?_
   refine W_ret ?_
   refine ret_end (v := .func (.func 106) #[] #[.pointer (some ⟨B16, 0, none⟩), .pointer (some ⟨B14, 0, none⟩)]) rfl (res1 Try.results100 rfl) ?_
   rw [show cdsR l = [] from if_neg q1, show ordR l = [] from if_neg q1]
   exact ⟨_, rfl, B16, B14, a2, m, c2, none, 0, 0, rfl, hb16, hb14, ((hO.weak (by intro g hg; have h3 : w16.heap.size ≤ g := hg; show w.heap.size ≤ g; omega)).icong (by rw [hq11]; first | rfl | exact ord_nil)), (by first | exact Own.nil _ _ 67 2 | simpa using Own.nil _ _ 67 2), (by omega), (by omega), HU⟩

set_option maxRecDepth 100000 in
theorem all1_spec {ly Bo Bc n c m d : Nat} {a b : Option Addr} {xs : List Int} {cl : List (Int × Int)} {J : Nat → World → Prop} {Jx : World → Prop} {Sb R T : Nat → Prop} (w : World) (hB : Blk w Bo [.slice a n c]) (hs : Sl w R 1 (.slice a n c) n (ints .i64 xs)) (hB3 : Blk w Bc [.slice b m d]) (hs3 : Sl w T 2 (.slice b m d) m (rows encC cl)) (hn : n ≤ 17592186044415) (hm : m ≤ 17592186044415) (hx : ∀ i, i < n → 0 ≤ xs.getD i 0 ∧ xs.getD i 0 < m) (hSR : ∀ g, R g → ¬ Sb g) (hSB : ¬ Sb Bc) (hST : ∀ g, T g → ¬ Sb g) (hJ0 : J 0 w) (hy : ∀ j w, j < n → J j w → YieldC Try.prog ly #[.int .i64 (xs.getD j 0), .agg #[.int .i64 (cl.getD (xs.getD j 0).toNat (0, 0)).1, .int .u32 (cl.getD (xs.getD j 0).toNat (0, 0)).2]] w (fun e w' => (e = .returned (.bool true) ∧ (Upd Sb w w' ∧ J (j + 1) w')) ∨ (e = .returned (.bool false) ∧ Jx w'))) :
  Calls Try.prog 106 #[.func (.yield ly) #[] #[], .pointer (some ⟨Bo, 0, none⟩), .pointer (some ⟨Bc, 0, none⟩)] w (Ret fun v w' => J n w' ∨ Jx w') := by
 have HU : Upd (fun b => False) w w := Upd.refl _ _
 have hl_hs := ilen hs
 have hl_hs3 := rlen encC_len (by decide) hs3
 have hc_hs := hs.cap.1
 have hc_hs3 := hs3.cap.1
 refine calls_of_W Try.func106 rfl Try.ntmps106 (by simp) ?_
 refine W_scope ?_
 refine W_seq ?_
 refine W_label ?_
 refine W_seq ?_
 refine W_region ?_
 refine Wl_load (v := .slice a n c) Try.isAgg22 rfl hB rfl ?_
 refine Wl_v (r_len Try.underlying22 rfl) ?_
 refine Wl_v (r_mv (v := .int .i64 0) rfl) ?_
 refine Wl_nil ?_
 refine W_block ?_
 refine W_loop (fun mu ρ ds w' => ∃ (j : Nat), n - j = mu ∧ ds = [] ∧ Liv ρ [(0, .func (.yield ly) #[] #[]), (1, .pointer (some ⟨Bo, 0, none⟩)), (2, .pointer (some ⟨Bc, 0, none⟩)), (6, .slice a n c), (7, .int .i64 ((n : Nat) : Int)), (8, .int .i64 ((j : Nat) : Int))] ∧ j ≤ n ∧ Sl w' R 1 (.slice a n c) n (ints .i64 xs) ∧ Blk w' Bc [.slice b m d] ∧ Sl w' T 2 (.slice b m d) m (rows encC cl) ∧ J j w') _ ⟨0, rfl, rfl, ⟨rfl, rfl, rfl, rfl, rfl, (by first | rfl | exact vint (by omega) | exact vint (by simp)), trivial⟩, (by omega), hs, hB3, hs3, hJ0⟩ ?_
 rintro m1 ρ1 ds1 w1 ⟨j, rfl, rfl, hl1, hj, hs, hB3, hs3, hJ0⟩
 obtain ⟨ρ1x, rfl⟩ : ∃ ρx, ρ1 = upds ρx [(0, .func (.yield ly) #[] #[]), (1, .pointer (some ⟨Bo, 0, none⟩)), (2, .pointer (some ⟨Bc, 0, none⟩)), (6, .slice a n c), (7, .int .i64 ((n : Nat) : Int)), (8, .int .i64 ((j : Nat) : Int))] := ⟨_, upds_self hl1⟩
 clear hl1
 refine W_seq ?_
 refine W_region ?_
 refine Wl_v (r_lt rfl rfl) ?_
 refine Wl_nil ?_
 refine W_seq ?_
 by_cases q1 : ((j : Nat) : Int) < ((n : Nat) : Int)
 ·have hxj := hx j (by omega)
  rw [decide_eq_true q1]
  refine W_cond_t rfl ?_
  refine W_skip ?_
  refine W_seq ?_
  refine W_block ?_
  refine W_seq ?_
  refine W_region ?_
  refine Wl_idxi Try.underlying22 Try.sizeOf3 rfl rfl hs (by omega) (by omega) ?_
  intro ib2 io2 hc2
  rw [Int.toNat_natCast] at hc2
  refine Wl_loadc Try.isAgg3 rfl hc2 ?_
  refine Wl_v (r_as (v := .int .i64 (xs.getD j 0)) rfl) ?_
  refine Wl_nil ?_
  refine W_seq ?_
  refine W_region ?_
  refine Wl_v (r_mv (v := .func (.yield ly) #[] #[]) rfl) ?_
  refine Wl_v (r_mv (v := .int .i64 (xs.getD j 0)) rfl) ?_
  refine Wl_load (v := .slice b m d) Try.isAgg53 rfl hB3 rfl ?_
  refine Wl_v (r_mv (v := .int .i64 (xs.getD j 0)) rfl) ?_
  refine Wl_idxr (0, 0) encC_len (by decide) Try.underlying53 Try.sizeOf67 rfl rfl hs3 (by omega) (by omega) ?_
  intro ib3 io3 hc3
  refine Wl_v (r_loada (cs := [.int .i64 ((cl.getD (xs.getD j 0).toNat (0, 0)).1), .int .u32 ((cl.getD (xs.getD j 0).toNat (0, 0)).2)]) Try.isAgg67 Try.sizeOf67 rfl rfl hc3) ?_
  refine Wl_yield2 rfl rfl rfl (hy j _ (by omega) hJ0) ?_ ?_
  ·rintro w4 ⟨hU4, hJn⟩
   replace hs := hs.upd hU4 hSR
   replace hB3 := hB3.upd hU4 hSB
   replace hs3 := hs3.upd hU4 hST
   replace hJ0 := hJn
   refine Wl_v (r_not (b := true) rfl) ?_
   refine Wl_nil ?_
   refine W_cond_f rfl ?_
   refine W_skip ?_
   refine W_region ?_
   refine Wl_v (r_add rfl rfl (wi64 (by omega) (by omega))) ?_
   refine Wl_v (r_mv (v := .int .i64 (((j : Nat) : Int) + 1)) rfl) ?_
   refine Wl_nil ?_
   refine ⟨_, ?_, (j + 1), rfl, rfl, ⟨rfl, rfl, rfl, rfl, rfl, (Eq.trans (b := .int .i64 (((j : Nat) : Int) + 1)) rfl (vint (by omega))), trivial⟩, (by omega), hs, hB3, hs3, hJ0⟩
   omega
  ·rintro w5 hJx
   refine Wl_v (r_not (b := false) rfl) ?_
   refine Wl_nil ?_
   refine W_cond_t rfl ?_
   refine W_exit ?_
   refine nrm_end (v := .tuple #[]) rfl (res0 Try.results106) ?_
   exact ⟨_, rfl, Or.inr hJx⟩
 ·rw [decide_eq_false q1]
  refine W_cond_f rfl ?_
  refine W_exit ?_
  refine nrm_end (v := .tuple #[]) rfl (res0 Try.results106) ?_
  obtain hjm : j = n := by omega
  exact ⟨_, rfl, Or.inl (by rw [← hjm]; exact hJ0)⟩

end Go.Proofs.Ytilegaokfamfnaa
