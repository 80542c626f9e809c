/-
 Walks, printed by a small program of this project (gen.py).
-/
import Derived.Test.YtilegaokfamfnaaXg
import Derived.Test.YtilegaokfamfnaaCc
set_option linter.unusedVariables false
set_option linter.unusedSimpArgs false
namespace Go.Proofs.Ytilegaokfamfnaa
open Go.Fw

set_option maxRecDepth 100000 in
theorem order_spec {a : Option Addr} {n c : Nat} {l : List Int} {R : Nat → Prop} (w : World) (hs : Sl w R 1 (.slice a n c) n (ints .i64 l)) (hn : n ≤ 400) :
  Calls Try.prog 69 #[.slice a n c] w (Ret fun v w' => ∃ (a' : Option Addr) (m' : Nat) (c' : Nat), v = .slice a' m' c' ∧ Own w' (fun g => w.heap.size ≤ g) 3 1 (.slice a' m' c') m' (ints .i64 (ord l)) ∧ Upd No w w') := by
 have HU : Upd (fun b => False) w w := Upd.refl _ _
 have hl_hs := ilen hs
 have hc_hs := hs.cap.1
 replace hs := hs.tight
 refine calls_of_W Try.func69 rfl Try.ntmps69 (by simp) ?_
 refine W_seq ?_
 refine W_region ?_
 refine Wl_v (r_as (v := .slice none 0 0) rfl) ?_
 refine Wl_nil ?_
 refine W_seq ?_
 refine W_region ?_
 refine Wl_v (r_as (v := .slice none 0 0) rfl) ?_
 refine Wl_nil ?_
 refine W_seq ?_
 refine W_seq ?_
 refine W_region ?_
 refine Wl_v (r_as (v := .int .i64 1) rfl) ?_
 refine Wl_nil ?_
 refine W_block ?_
 refine W_loop (fun mu ρ ds w' => ∃ (q : Nat) (a2 : Option Addr) (m c2 : Nat), 11 - q = mu ∧ ds = [] ∧ Liv ρ [(0, .slice a n c), (3, .slice a2 m c2), (4, .int .i64 ((q + 1 : Nat) : Int))] ∧ q ≤ 11 ∧ Own w' (fun g => w.heap.size ≤ g) 3 1 (.slice a2 m c2) m (ints .i64 (ordU l q)) ∧ Upd (fun g => w.heap.size ≤ g) w w') _ ⟨0, none, 0, 0, rfl, rfl, ⟨rfl, (by first | rfl | exact vint (by omega) | exact vint (by simp)), (by first | rfl | exact vint (by omega) | exact vint (by simp)), trivial⟩, (by omega), (Own.nil _ _ _ _), Upd.refl _ _⟩ ?_
 rintro m1 ρ1 ds1 w1 ⟨q, a2, m, c2, rfl, rfl, hl1, hq, hO, hU1⟩
 obtain ⟨ρ1x, rfl⟩ : ∃ ρx, ρ1 = upds ρx [(0, .slice a n c), (3, .slice a2 m c2), (4, .int .i64 ((q + 1 : Nat) : Int))] := ⟨_, upds_self hl1⟩
 clear hl1
 have hzw1 := hU1.size
 replace hs := hs.upd hU1 (by intro x h1 h2; have h3 : ((R x) ∧ x < w.heap.size) := h1; have h4 : w.heap.size ≤ x := h2; omega)
 replace HU := HU.trans hU1 (by intro x hx; have hx2 : w.heap.size ≤ x := hx; show (False) ∨ w.heap.size ≤ x; omega)
 have HL1 := hU1
 refine W_seq ?_
 refine W_seq ?_
 refine W_region ?_
 refine Wl_v (r_mv (v := .int .i64 ((q + 1 : Nat) : Int)) rfl) ?_
 refine Wl_v (r_le rfl rfl) ?_
 refine Wl_nil ?_
 by_cases q1 : ((q + 1 : Nat) : Int) ≤ 11
 ·rw [decide_eq_true q1]
  refine W_cond_t rfl ?_
  refine W_skip ?_
  refine W_seq ?_
  refine W_block ?_
  refine W_seq ?_
  refine W_region ?_
  refine Wl_v (r_as (v := .int .i64 0) rfl) ?_
  refine Wl_nil ?_
  refine W_block ?_
  have hou := ordU_len l q (by omega)
  refine W_loop (fun mu ρ ds w' => ∃ (k : Nat) (a3 : Option Addr) (m3 c3 : Nat), n - k = mu ∧ ds = [] ∧ Liv ρ [(0, .slice a n c), (3, .slice a3 m3 c3), (4, .int .i64 ((q + 1 : Nat) : Int)), (5, .int .i64 ((k : Nat) : Int))] ∧ k ≤ n ∧ Own w' (fun g => w.heap.size ≤ g) 3 1 (.slice a3 m3 c3) m3 (ints .i64 (ordU l q ++ blk l (q + 1) k)) ∧ Upd (fun g => w.heap.size ≤ g) w1 w') _ ⟨0, a2, m, c2, rfl, rfl, ⟨rfl, (by first | rfl | exact vint (by omega) | exact vint (by simp)), rfl, (by first | rfl | exact vint (by omega) | exact vint (by simp)), trivial⟩, (by omega), (hO.icong (by simp [blk])), Upd.refl _ _⟩ ?_
  rintro m2 ρ2 ds2 w2 ⟨k, a3, m3, c3, rfl, rfl, hl2, hk, hO3, hU2⟩
  obtain ⟨ρ2x, rfl⟩ : ∃ ρx, ρ2 = upds ρx [(0, .slice a n c), (3, .slice a3 m3 c3), (4, .int .i64 ((q + 1 : Nat) : Int)), (5, .int .i64 ((k : Nat) : Int))] := ⟨_, upds_self hl2⟩
  clear hl2
  have hzw2 := hU2.size
  replace hs := hs.upd hU2 (by intro x h1 h2; have h3 : ((R x) ∧ x < w.heap.size) := h1; have h4 : w.heap.size ≤ x := h2; omega)
  replace HL1 := HL1.trans hU2 (by intro x hx; have hx2 : w.heap.size ≤ x := hx; show (w.heap.size ≤ x) ∨ w.heap.size ≤ x; omega)
  have HL2 := hU2
  refine W_seq ?_
  refine W_seq ?_
  refine W_region ?_
  refine Wl_v (r_mv (v := .int .i64 ((k : Nat) : Int)) rfl) ?_
  refine Wl_v (r_mv (v := .slice a n c) rfl) ?_
  refine Wl_v (r_len Try.underlying22 rfl) ?_
  refine Wl_v (r_lt rfl rfl) ?_
  refine Wl_nil ?_
  by_cases q2 : ((k : Nat) : Int) < ((n : Nat) : Int)
  ·replace hO3 := hO3.tight
   have hbl := blk_len (l := l) (n := q + 1) (by omega) (i := k) (by omega)
   have hcl := cn_le (l.take k) (q + 1)
   rw [List.length_take] at hcl
   have hl3 := ilen hO3.sl
   rw [List.length_append] at hl3
   have hqq : q * l.length ≤ 11 * l.length := Nat.mul_le_mul_right _ (by omega)
   rw [decide_eq_true q2]
   refine W_cond_t rfl ?_
   refine W_skip ?_
   refine W_seq ?_
   refine W_block ?_
   refine W_seq ?_
   refine W_region ?_
   refine Wl_v (r_mv (v := .slice a n c) rfl) ?_
   refine Wl_v (r_mv (v := .int .i64 ((k : Nat) : Int)) rfl) ?_
   refine Wl_idxi Try.underlying22 Try.sizeOf3 rfl rfl hs (by omega) (by omega) ?_
   intro ib3 io3 hc3
   rw [Int.toNat_natCast] at hc3
   refine Wl_loadc Try.isAgg3 rfl hc3 ?_
   refine Wl_v (r_mv (v := .int .i64 ((q + 1 : Nat) : Int)) rfl) ?_
   refine Wl_v (r_eq rfl rfl) ?_
   refine Wl_nil ?_
   by_cases q3 : (l.getD k 0) = ((q + 1 : Nat) : Int)
   ·rw [decide_eq_true q3]
    refine W_cond_t rfl ?_
    refine W_region ?_
    refine Wl_v (r_mv (v := .slice a3 m3 c3) rfl) ?_
    refine Wl_v (r_mv (v := .int .i64 ((k : Nat) : Int)) rfl) ?_
    refine Wl_lit (pv := [(0, .int .i64 ((k : Nat) : Int))]) (cs := [.int .i64 ((k : Nat) : Int)]) Try.underlying22 Try.sizeOf3 Try.zeroValue3 (by decide) (by decide) (by simp only [List.map_toArray, List.map_cons, List.map_nil] <;> rfl) (by kernel_rfl) rfl (by decide) ?_
    intro B4 w4 hB4 hU4 hzz4 hs4
    have hzw4 := hU4.size
    replace hO3 := hO3.upd0 hU4
    replace HL2 := HL2.trans0 hU4
    replace hs4 : Own w4 (Is B4) 3 1 (.slice (some ⟨B4, 0, none⟩) 1 1) 1 (ints .i64 [((k : Nat) : Int)]) := hs4
    refine Wl_appendi (xs := ordU l q ++ blk l (q + 1) k) (ys := [((k : Nat) : Int)]) (zs := ordU l q ++ blk l (q + 1) k ++ [((k : Nat) : Int)]) (k' := .i64) (tot := m3 + 1) (by first | rfl | exact (rows_app _ _).symm | simp) Try.underlying22 (ti := Try.t3) (z := .int .i64 0) (sz := 1) (by' := 8) rfl rfl rfl rfl rfl (by decide) rfl hO3 rfl hs4.sl  (by omega) (by simp only [maxLen]; omega) (by omega) ?_
    intro a5 c5 w5 hU5 hzz5 hO5
    clear hO3
    have hzw5 := hU5.size
    replace HL2 := HL2.trans hU5 (by intro x hx; have hx2 : ((w.heap.size ≤ x) ∧ x < w2.heap.size) := hx; show (w.heap.size ≤ x) ∨ w1.heap.size ≤ x; omega)
    replace hO5 := hO5.tight
    have hl_hO5 := ilen hO5.sl
    have hc_hO5 := hO5.sl.cap.1
    refine Wl_v (r_as (v := .slice a5 (m3 + 1) c5) rfl) ?_
    refine Wl_nil ?_
    refine W_region ?_
    refine Wl_v (r_mv (v := .int .i64 ((k : Nat) : Int)) rfl) ?_
    refine Wl_v (r_add rfl rfl (wi64 (by omega) (by omega))) ?_
    refine Wl_v (r_as (v := .int .i64 (((k : Nat) : Int) + 1)) rfl) ?_
    refine Wl_nil ?_
    refine ⟨_, ?_, (k + 1), a5, m3 + 1, c5, rfl, rfl, ⟨rfl, (by first | rfl | exact vint (by omega) | exact vint (by simp)), rfl, (Eq.trans (b := .int .i64 (((k : Nat) : Int) + 1)) rfl (vint (by omega))), trivial⟩, (by omega), ((hO5.weak (by intro g hg; have h3 : ((((((w.heap.size ≤ g) ∧ g < w2.heap.size)) ∨ g = w4.heap.size)) ∧ g < w5.heap.size) := hg; show _ ≤ _; omega)).icong (by rw [blk, if_pos q3, List.append_assoc])), HL2⟩
    omega
   ·rw [decide_eq_false q3]
    refine W_cond_f rfl ?_
    refine W_skip ?_
    refine W_region ?_
    refine Wl_v (r_mv (v := .int .i64 ((k : Nat) : Int)) rfl) ?_
    refine Wl_v (r_add rfl rfl (wi64 (by omega) (by omega))) ?_
    refine Wl_v (r_as (v := .int .i64 (((k : Nat) : Int) + 1)) rfl) ?_
    refine Wl_nil ?_
    refine ⟨_, ?_, (k + 1), a3, m3, c3, rfl, rfl, ⟨rfl, (by first | rfl | exact vint (by omega) | exact vint (by simp)), rfl, (Eq.trans (b := .int .i64 (((k : Nat) : Int) + 1)) rfl (vint (by omega))), trivial⟩, (by omega), ((hO3.weak (by intro g hg; have h3 : ((w.heap.size ≤ g) ∧ g < w2.heap.size) := hg; show _ ≤ _; omega)).icong (by rw [blk, if_neg q3, List.append_nil])), HL2⟩
    omega
  ·rw [decide_eq_false q2]
   refine W_cond_f rfl ?_
   refine W_exit ?_
   refine W_region ?_
   refine Wl_v (r_mv (v := .int .i64 ((q + 1 : Nat) : Int)) rfl) ?_
   refine Wl_v (r_add rfl rfl (wi64 (by omega) (by omega))) ?_
   refine Wl_v (r_as (v := .int .i64 (((q + 1 : Nat) : Int) + 1)) rfl) ?_
   refine Wl_nil ?_
   refine ⟨_, ?_, (q + 1), a3, m3, c3, rfl, rfl, ⟨rfl, (by first | rfl | exact vint (by omega) | exact vint (by simp)), (Eq.trans (b := .int .i64 (((q + 1 : Nat) : Int) + 1)) rfl (vint (by omega))), trivial⟩, (by omega), ((hO3.weak (by intro g hg; have h3 : w.heap.size ≤ g := hg; show _ ≤ _; omega)).icong (by rw [ordU, show k = l.length from by omega])), HL1⟩
   omega
 ·have hq11 : q = 11 := by omega
  rw [decide_eq_false q1]
  refine W_cond_f rfl ?_
  refine W_exit ?_
  refine W_seq ?_
  refine W_region ?_
  refine Wl_v (r_mv (v := .slice a2 m c2) rfl) ?_
  refine Wl_v (r_as (v := .slice a2 m c2) rfl) ?_
  refine Wl_nil ?_
  refine W_ret ?_
  refine ret_end (v := .slice a2 m c2) rfl (res1 Try.results69 rfl) ?_
  exact ⟨_, rfl, a2, m, c2, rfl, (hO.icong (by rw [hq11]; rfl)), HU⟩

set_option maxRecDepth 100000 in
theorem rcodes_ok {a : Option Addr} {n c : Nat} {l : List Int} {R : Nat → Prop} (w : World) (hs : Sl w R 1 (.slice a n c) n (ints .i64 l)) (hn : n ≤ 17592186044415) (hr : Rt l) :
  Calls Try.prog 40 #[.slice a n c] w (Ret fun v w' => ∃ (a' : Option Addr) (c' : Nat), v = .tuple #[.slice a' n c', .int .i64 0] ∧ Own w' (fun g => w.heap.size ≤ g) 67 2 (.slice a' n c') n (rows encC (cds l)) ∧ Upd No w w') := by
 have HU : Upd (fun b => False) w w := Upd.refl _ _
 have hl_hs := ilen hs
 have hc_hs := hs.cap.1
 replace hs := hs.tight
 have h256 := hr.2.1
 refine calls_of_W Try.func40 rfl Try.ntmps40 (by simp) ?_
 refine W_seq ?_
 refine W_region ?_
 refine Wl_v (r_as (v := .slice none 0 0) rfl) ?_
 refine Wl_v (r_as (v := .int .i64 0) rfl) ?_
 refine Wl_nil ?_
 refine W_seq ?_
 refine W_seq ?_
 refine W_region ?_
 refine Wl_v (r_mv (v := .slice a n c) rfl) ?_
 refine Wl_call (r_call1 rfl Try.call26 rfl) (rright_spec _ hs (by omega)) ?_
 rintro v w1 ⟨rfl, hU1⟩
 have hzw1 := hU1.size
 replace hs := hs.upd0 hU1
 replace HU := HU.trans0 hU1
 refine Wl_v (r_not rfl) ?_
 refine Wl_nil ?_
 have q1 : Rt l := hr
 rw [decide_eq_true q1]
 simp only [Bool.not_true, Bool.not_false]
 refine W_cond_f rfl ?_
 refine W_skip ?_
 refine W_seq ?_
 refine W_region ?_
 refine Wl_v (r_mv (v := .slice a n c) rfl) ?_
 refine Wl_v (r_len Try.underlying22 rfl) ?_
 refine Wl_makeo (c' := n) (zc := [.int .i64 0, .int .u32 0]) (cs := rows encC (List.replicate n (0, 0))) (sz := 2) Try.underlying53 (ti := Try.t67) (z := .agg #[.int .i64 0, .int .u32 0]) rfl rfl rfl rfl (by decide) rfl rfl (by omega) (by omega) (by show 16 * _ ≤ _; omega) (by simp only [maxLen]; omega) (rows_rep (enc := encC) (0, 0) _) rfl ?_
 intro B2 w2 hB2 hU2 hzz2 hO2
 have hzw2 := hU2.size
 replace hs := hs.upd0 hU2
 replace HU := HU.trans0 hU2
 have hl_hO2 := rlen encC_len (by decide) hO2.sl
 have hc_hO2 := hO2.sl.cap.1
 refine Wl_v (r_as (v := .slice (some ⟨B2, 0, none⟩) n n) rfl) ?_
 refine Wl_nil ?_
 refine W_seq ?_
 refine W_region ?_
 refine Wl_v (r_mv (v := .slice a n c) rfl) ?_
 refine Wl_call (r_call1 rfl Try.call69 rfl) (order_spec _ hs (by omega)) ?_
 rintro v w3 ⟨a3, m3, c3, rfl, hO3, hU3⟩
 have hzw3 := hU3.size
 replace hs := hs.upd0 hU3
 replace HU := HU.trans0 hU3
 replace hO2 := hO2.upd0 hU3
 replace hO3 := hO3.tight
 have hl_hO3 := ilen hO3.sl
 have hc_hO3 := hO3.sl.cap.1
 have hop := ord_pos hr
 have hol := ord_len l
 obtain ⟨j0, hj0, hj0n, hj0p, hj0b⟩ := ord_at hop
 obtain ⟨hst0, hF0, _⟩ := st_first hop hj0
 refine Wl_v (r_as (v := .slice a3 m3 c3) rfl) ?_
 refine Wl_nil ?_
 refine W_seq ?_
 refine W_drawt rfl (l0 := tf 0 8) (by kernel_rfl) ?_
 refine Tk 0 (tf 1 8) rfl (YI_v (v := .slice a n c) rfl (fun w' hw' => r_mv (v := .slice a n c) rfl)) ?_
 refine Tk 1 (tf 2 8) rfl (YI_v (v := .slice a3 m3 c3) rfl (fun w' hw' => r_mv (v := .slice a3 m3 c3) rfl)) ?_
 obtain ⟨ib4, io4, ha4, hib4, hc4⟩ := (hO3.sl).iat (i := 0) (by omega)
 replace hib4 : ((w2.heap.size ≤ ib4) ∧ ib4 < w3.heap.size) := hib4
 refine Tk 2 (tf 3 8) rfl (YI_v (v := .pointer (some ⟨ib4, io4 + 0, none⟩)) rfl (fun w' hw' => r_idx (b := ib4) (off := io4) (m := m3) (c := c3) (o' := io4 + 0) Try.underlying22 Try.sizeOf3 (by rw [← ha4]; rfl) rfl (by omega) (by omega) (by omega))) ?_
 refine Tk 3 (tf 4 8) rfl (YI_v (v := .int .i64 ((ord l).getD 0 0)) rfl (fun w' hw' => r_load Try.isAgg3 rfl (hw'.cellk hc4))) ?_
 obtain ⟨ib5, io5, ha5, hib5, hc5⟩ := (hs).iat (i := ((ord l).getD 0 0).toNat) (by omega)
 replace hib5 : ((R ib5) ∧ ib5 < w.heap.size) := hib5
 refine Tk 4 (tf 5 8) rfl (YI_v (v := .pointer (some ⟨ib5, io5 + ((ord l).getD 0 0).toNat, none⟩)) rfl (fun w' hw' => r_idx (b := ib5) (off := io5) (m := n) (c := c) (o' := io5 + ((ord l).getD 0 0).toNat) Try.underlying22 Try.sizeOf3 (by rw [← ha5]; rfl) rfl (by omega) (by omega) (by omega))) ?_
 refine Tk 5 (tf 6 8) rfl (YI_v (v := .int .i64 (l.getD ((ord l).getD 0 0).toNat 0)) rfl (fun w' hw' => r_load Try.isAgg3 rfl (hw'.cellk hc5))) ?_
 refine Tk 6 (tf 7 8) rfl (YI_v (v := .int .u32 0) rfl (fun w' hw' => r_as (v := .int .u32 0) rfl)) ?_
 refine Tk 7 (tf 8 8) rfl (YI_v (v := .int .i64 (l.getD ((ord l).getD 0 0).toNat 0)) rfl (fun w' hw' => r_as (v := .int .i64 (l.getD ((ord l).getD 0 0).toNat 0)) rfl)) ?_
 intro w6 hU6
 have hzw6 := hU6.size
 replace hs := hs.upd0 hU6
 replace HU := HU.trans0 hU6
 replace hO2 := hO2.upd0 hU6
 replace hO3 := hO3.upd0 hU6
 replace hc4 := cell_upd0 hU6 hc4
 replace hc5 := cell_upd0 hU6 hc5
 refine Wa_done (by kernel_rfl) ?_
 refine W_seq ?_
 refine W_seq ?_
 refine W_region ?_
 refine Wl_v (r_as (v := .int .i64 0) rfl) ?_
 refine Wl_nil ?_
 refine W_block ?_
 refine W_loop (fun mu ρ ds w' => ∃ (k nn r : Nat), m3 - k = mu ∧ ds = [] ∧ Liv ρ [(0, .slice a n c), (4, .slice (some ⟨B2, 0, none⟩) n n), (5, .slice a3 m3 c3), (6, .int .u32 (F l nn + ((r : Nat) : Int))), (7, .int .i64 ((nn : Nat) : Int)), (8, .int .i64 ((k : Nat) : Int))] ∧ k ≤ m3 ∧ St l k nn r ∧ Own w' (fun g => g = B2) 67 2 (.slice (some ⟨B2, 0, none⟩) n n) n (rows encC (tabn n (outS l k))) ∧ Upd (fun g => g = B2) w6 w') _ ⟨0, (l.getD j0 0).toNat, 0, rfl, rfl, ⟨rfl, rfl, rfl, (Eq.trans (b := .int .u32 0) rfl (vint (by rw [hF0]; rfl))), (Eq.trans (b := .int .i64 (l.getD ((ord l).getD 0 0).toNat 0)) rfl (vint (by rw [show ((ord l).getD 0 0).toNat = j0 from by omega]; omega))), (by first | rfl | exact vint (by omega) | exact vint (by simp)), trivial⟩, (by omega), hst0, (hO2.rcong (by rw [tabn_rep]; exact tabn_congr fun j hj => (outS_zero l j).symm)), Upd.refl _ _⟩ ?_
 rintro m7 ρ7 ds7 w7 ⟨k, nn, r, rfl, rfl, hl7, hk, hst, hO2, hU7⟩
 obtain ⟨ρ7x, rfl⟩ : ∃ ρx, ρ7 = upds ρx [(0, .slice a n c), (4, .slice (some ⟨B2, 0, none⟩) n n), (5, .slice a3 m3 c3), (6, .int .u32 (F l nn + ((r : Nat) : Int))), (7, .int .i64 ((nn : Nat) : Int)), (8, .int .i64 ((k : Nat) : Int))] := ⟨_, upds_self hl7⟩
 clear hl7
 have hzw7 := hU7.size
 replace hs := hs.upd hU7 (by intro x h1 h2; have h3 : ((R x) ∧ x < w.heap.size) := h1; have h4 : x = B2 := h2; omega)
 replace HU := HU.trans hU7 (by intro x hx; have hx2 : x = B2 := hx; show (False) ∨ w.heap.size ≤ x; omega)
 replace hO3 := hO3.upd hU7 (by intro x h1 h2; have h3 : ((w2.heap.size ≤ x) ∧ x < w3.heap.size) := h1; have h4 : x = B2 := h2; omega)
 have HL7 := hU7
 refine W_seq ?_
 refine W_seq ?_
 refine W_region ?_
 refine Wl_v (r_mv (v := .int .i64 ((k : Nat) : Int)) rfl) ?_
 refine Wl_v (r_mv (v := .slice a3 m3 c3) rfl) ?_
 refine Wl_v (r_len Try.underlying22 rfl) ?_
 refine Wl_v (r_lt rfl rfl) ?_
 refine Wl_nil ?_
 by_cases q2 : ((k : Nat) : Int) < ((m3 : Nat) : Int)
 ·obtain ⟨j, hj, hjn, hjge, hjle⟩ := hst.head (by omega)
  rw [decide_eq_true q2]
  refine W_cond_t rfl ?_
  refine W_skip ?_
  refine W_seq ?_
  refine W_block ?_
  refine W_seq ?_
  refine W_region ?_
  refine Wl_v (r_mv (v := .slice a3 m3 c3) rfl) ?_
  refine Wl_v (r_mv (v := .int .i64 ((k : Nat) : Int)) rfl) ?_
  refine Wl_idxi Try.underlying22 Try.sizeOf3 rfl rfl hO3.sl (by omega) (by omega) ?_
  intro ib8 io8 hc8
  rw [Int.toNat_natCast] at hc8
  refine Wl_loadc Try.isAgg3 rfl hc8 ?_
  refine Wl_v (r_as (v := .int .i64 ((ord l).getD k 0)) rfl) ?_
  refine Wl_nil ?_
  refine W_seq ?_
  refine W_block ?_
  refine W_loop (fun mu ρ ds w' => ∃ (n2 r2 : Nat), 12 - n2 = mu ∧ ds = [] ∧ Liv ρ [(0, .slice a n c), (4, .slice (some ⟨B2, 0, none⟩) n n), (5, .slice a3 m3 c3), (6, .int .u32 (F l n2 + ((r2 : Nat) : Int))), (7, .int .i64 ((n2 : Nat) : Int)), (8, .int .i64 ((k : Nat) : Int)), (9, .int .i64 ((ord l).getD k 0))] ∧ St l k n2 r2 ∧ Upd No w7 w') _ ⟨nn, r, rfl, rfl, ⟨rfl, rfl, rfl, (by first | rfl | exact vint (by omega) | exact vint (by simp)), (by first | rfl | exact vint (by omega) | exact vint (by simp)), rfl, rfl, trivial⟩, hst, Upd.refl _ _⟩ ?_
  rintro m9 ρ9 ds9 w9 ⟨n2, r2, rfl, rfl, hl9, hst2, hU9⟩
  obtain ⟨ρ9x, rfl⟩ : ∃ ρx, ρ9 = upds ρx [(0, .slice a n c), (4, .slice (some ⟨B2, 0, none⟩) n n), (5, .slice a3 m3 c3), (6, .int .u32 (F l n2 + ((r2 : Nat) : Int))), (7, .int .i64 ((n2 : Nat) : Int)), (8, .int .i64 ((k : Nat) : Int)), (9, .int .i64 ((ord l).getD k 0))] := ⟨_, upds_self hl9⟩
  clear hl9
  have hzw9 := hU9.size
  replace hs := hs.upd0 hU9
  replace hO2 := hO2.upd0 hU9
  replace HL7 := HL7.trans0 hU9
  have HL9 := hU9
  refine W_seq ?_
  refine W_seq ?_
  refine W_region ?_
  refine Wl_v (r_mv (v := .int .i64 ((n2 : Nat) : Int)) rfl) ?_
  refine Wl_v (r_mv (v := .slice a n c) rfl) ?_
  refine Wl_v (r_mv (v := .int .i64 ((ord l).getD k 0)) rfl) ?_
  refine Wl_idxi Try.underlying22 Try.sizeOf3 rfl rfl hs (by omega) (by omega) ?_
  intro ib10 io10 hc10
  rw [show ((ord l).getD k 0).toNat = j from by omega] at hc10
  refine Wl_loadc Try.isAgg3 rfl hc10 ?_
  refine Wl_v (r_lt rfl rfl) ?_
  refine Wl_nil ?_
  by_cases q3 : ((n2 : Nat) : Int) < (l.getD j 0)
  ·have hst3 := hst2.next (by omega) hj q3
   have hfl := F_le' hr (n := n2) (by have := hst2.h2; omega)
   rw [decide_eq_true q3]
   refine W_cond_t rfl ?_
   refine W_skip ?_
   refine W_block ?_
   refine W_seq ?_
   refine W_region ?_
   refine Wl_v (r_mv (v := .int .u32 (F l n2 + ((r2 : Nat) : Int))) rfl) ?_
   refine Wl_v (r_mul rfl rfl (wu32 (by omega) (by omega))) ?_
   refine Wl_v (r_as (v := .int .u32 (2 * (F l n2 + ((r2 : Nat) : Int)))) rfl) ?_
   refine Wl_nil ?_
   refine W_region ?_
   refine Wl_v (r_mv (v := .int .i64 ((n2 : Nat) : Int)) rfl) ?_
   refine Wl_v (r_add rfl rfl (wi64 (by omega) (by omega))) ?_
   refine Wl_v (r_as (v := .int .i64 (((n2 : Nat) : Int) + 1)) rfl) ?_
   refine Wl_nil ?_
   have hle12 := hst2.h2
   have hle13 := hst3.1.h2
   refine ⟨_, ?_, (n2 + 1), 0, rfl, rfl, ⟨rfl, rfl, rfl, (Eq.trans (b := .int .u32 (2 * (F l n2 + ((r2 : Nat) : Int)))) rfl (vint (by rw [F]; omega))), (Eq.trans (b := .int .i64 (((n2 : Nat) : Int) + 1)) rfl (vint (by omega))), rfl, rfl, trivial⟩, hst3.1, HL9⟩
   omega
  ·have hst3 := hst2.take (by omega) hj q3
   have hcd := hst2.cd (by omega) hj q3
   have hfl := F_le' hr (n := n2) (by have := hst2.h2; omega)
   have hcl := cn_take_le l j n2
   have hbl := blk_all (l := l) (n := n2) (by have := hst2.h1; omega)
   have hbr := hst3.1.hr
   rw [decide_eq_false q3]
   refine W_cond_f rfl ?_
   refine W_exit ?_
   refine W_seq ?_
   refine W_region ?_
   refine Wl_v (r_mv (v := .slice (some ⟨B2, 0, none⟩) n n) rfl) ?_
   refine Wl_v (r_mv (v := .int .i64 ((ord l).getD k 0)) rfl) ?_
   refine Wl_v (r_mv (v := .int .i64 ((n2 : Nat) : Int)) rfl) ?_
   refine Wl_v (r_mv (v := .int .u32 (F l n2 + ((r2 : Nat) : Int))) rfl) ?_
   refine Wl_v (r_build (pl := #[(0, 1), (1, 1)]) (pv := [(0, .int .i64 ((n2 : Nat) : Int)), (1, .int .u32 (F l n2 + ((r2 : Nat) : Int)))]) (cs := #[.int .i64 ((n2 : Nat) : Int), .int .u32 (F l n2 + ((r2 : Nat) : Int))]) Try.zeroValue67 Try.underlying67 (fun w => by kernel_rfl) (by simp only [List.map_toArray, List.map_cons, List.map_nil] <;> rfl) (by kernel_rfl)) ?_
   refine Wl_v (r_idxor (i' := ((ord l).getD k 0).toNat) (o' := (((ord l).getD k 0).toNat) * 2) Try.underlying53 Try.sizeOf67 rfl rfl (by omega) (by omega) rfl) ?_
   refine Wl_storer (i := ((ord l).getD k 0).toNat) (((n2 : Nat) : Int), F l n2 + ((r2 : Nat) : Int)) encC_len (by decide) (encC_one _) Try.sizeOf67 rfl rfl rfl hO2 (by omega) ?_
   intro w11 hU11 hzz11 hO11
   clear hO2
   have hzw11 := hU11.size
   replace HL7 := HL7.trans1 hU11 (by show (B2 = B2) ∨ w6.heap.size ≤ B2; omega)
   have hl_hO11 := rlen encC_len (by decide) hO11.sl
   have hc_hO11 := hO11.sl.cap.1
   refine Wl_nil ?_
   refine W_region ?_
   refine Wl_v (r_mv (v := .int .u32 (F l n2 + ((r2 : Nat) : Int))) rfl) ?_
   refine Wl_v (r_add rfl rfl (wu32 (by omega) (by omega))) ?_
   refine Wl_v (r_as (v := .int .u32 ((F l n2 + ((r2 : Nat) : Int)) + 1)) rfl) ?_
   refine Wl_nil ?_
   refine W_region ?_
   refine Wl_v (r_mv (v := .int .i64 ((k : Nat) : Int)) rfl) ?_
   refine Wl_v (r_add rfl rfl (wi64 (by omega) (by omega))) ?_
   refine Wl_v (r_as (v := .int .i64 (((k : Nat) : Int) + 1)) rfl) ?_
   refine Wl_nil ?_
   refine ⟨_, ?_, (k + 1), n2, (r2 + 1), rfl, rfl, ⟨rfl, rfl, rfl, (Eq.trans (b := .int .u32 ((F l n2 + ((r2 : Nat) : Int)) + 1)) rfl (vint (by omega))), (by first | rfl | exact vint (by omega) | exact vint (by simp)), (Eq.trans (b := .int .i64 (((k : Nat) : Int) + 1)) rfl (vint (by omega))), trivial⟩, (by omega), hst3.1, (hO11.rcong (tabn_set _ _ (by omega) _ (fun i hi => by rw [show ((ord l).getD k 0).toNat = j from by omega]; exact outS_step (by omega) hj hcd i))), HL7⟩
   omega
 ·rw [decide_eq_false q2]
  refine W_cond_f rfl ?_
  refine W_exit ?_
  refine W_seq ?_
  refine W_region ?_
  refine Wl_v (r_mv (v := .slice (some ⟨B2, 0, none⟩) n n) rfl) ?_
  refine Wl_v (r_as (v := .slice (some ⟨B2, 0, none⟩) n n) rfl) ?_
  refine Wl_v (r_as (v := .int .i64 0) rfl) ?_
  refine Wl_nil ?_
  refine W_ret ?_
  refine ret_end (v := .tuple #[.slice (some ⟨B2, 0, none⟩) n n, .int .i64 0]) rfl (res2 Try.results40 rfl rfl) ?_
  exact ⟨_, rfl, (some ⟨B2, 0, none⟩), n, rfl, ((hO2.weak (by intro g hg; have h3 : g = B2 := hg; show w.heap.size ≤ g; omega)).rcong (by unfold cds; rw [show l.length = n from by omega]; exact tabn_congr fun j hj => outS_all hr.1 (by omega) (by omega))), HU⟩

set_option maxRecDepth 100000 in
theorem rcodes_no {a : Option Addr} {n c : Nat} {l : List Int} {R : Nat → Prop} (w : World) (hs : Sl w R 1 (.slice a n c) n (ints .i64 l)) (hn : n ≤ 17592186044415) (hr : ¬ Rt l) :
  Calls Try.prog 40 #[.slice a n c] w (Ret fun v w' => v = .tuple #[.slice none 0 0, .int .i64 12] ∧ Upd No w w') := by
 have HU : Upd (fun b => False) w w := Upd.refl _ _
 have hl_hs := ilen hs
 have hc_hs := hs.cap.1
 replace hs := hs.tight
 refine calls_of_W Try.func40 rfl Try.ntmps40 (by simp) ?_
 refine W_seq ?_
 refine W_region ?_
 refine Wl_v (r_as (v := .slice none 0 0) rfl) ?_
 refine Wl_v (r_as (v := .int .i64 0) rfl) ?_
 refine Wl_nil ?_
 refine W_seq ?_
 refine W_seq ?_
 refine W_region ?_
 refine Wl_v (r_mv (v := .slice a n c) rfl) ?_
 refine Wl_call (r_call1 rfl Try.call26 rfl) (rright_spec _ hs (by omega)) ?_
 rintro v w1 ⟨rfl, hU1⟩
 have hzw1 := hU1.size
 replace HU := HU.trans0 hU1
 refine Wl_v (r_not rfl) ?_
 refine Wl_nil ?_
 have q1 : ¬ (Rt l) := hr
 rw [decide_eq_false q1]
 simp only [Bool.not_true, Bool.not_false]
 refine W_cond_t rfl ?_
 refine W_seq ?_
 refine W_region ?_
 refine Wl_v (r_as (v := .slice none 0 0) rfl) ?_
 refine Wl_v (r_as (v := .int .i64 12) rfl) ?_
 refine Wl_nil ?_
 refine W_ret ?_
 refine ret_end (v := .tuple #[.slice none 0 0, .int .i64 12]) rfl (res2 Try.results40 rfl rfl) ?_
 exact ⟨_, rfl, rfl, HU⟩

end Go.Proofs.Ytilegaokfamfnaa
