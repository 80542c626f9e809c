/-
 Walks, printed by a small program of this project (gen.py).
-/
import Derived.Test.YtilegaokfamfnaaYa
set_option linter.unusedVariables false
set_option linter.unusedSimpArgs false
namespace Go.Proofs.Ytilegaokfamfnaa
open Go.Fw

theorem fl_take {nb : Int} {xs : List (Int × Int)} {k : Nat} (h : k < xs.length) : fl nb (xs.take (k + 1)) = fl nb (xs.take k) ++ List.replicate (2 ^ (nb - (xs.getD k (0, 0)).2).toNat) (xs.getD k (0, 0)) := by
 rw [← fl_one, ← fl_app]
 congr 1
 rw [List.take_add_one, List.getElem?_eq_getElem h, List.getD_eq_getElem?_getD, List.getElem?_eq_getElem h]; rfl
theorem pair_eta (x : Int × Int) : (x.1, x.2) = x := rfl
theorem p2n_le {d : Int} (h1 : d ≤ 11) : 1 ≤ 2 ^ d.toNat ∧ 2 ^ d.toNat ≤ 2048 := by
 have h2 := p2_le11 (a := d.toNat) (by omega)
 have := p2_nat d.toNat
 omega

set_option maxHeartbeats 1000000 in
set_option maxRecDepth 100000 in
theorem filled_spec {a : Option Addr} {n c Bn : Nat} {xs : List (Int × Int)} {nb : Int} (w : World) (hs : Sl w (fun g => g < w.heap.size) 2 (.slice a n c) n (rows encE xs)) (hb : Blk w Bn [.int .i64 nb]) (hn : n ≤ 100000) (hx : ∀ k, 0 ≤ nb - (xs.getD k (0, 0)).2 ∧ nb - (xs.getD k (0, 0)).2 ≤ 11 ∧ -100 ≤ (xs.getD k (0, 0)).2 ∧ (xs.getD k (0, 0)).2 ≤ 100) :
  Calls Try.prog 101 #[.slice a n c, .func (.func 102) #[] #[.pointer (some ⟨Bn, 0, none⟩)]] w (Ret fun v w' => ∃ (a' : Option Addr) (c' : Nat), v = .slice a' ((fl nb xs).length) c' ∧ Own w' (fun g => w.heap.size ≤ g) 134 2 (.slice a' ((fl nb xs).length) c') ((fl nb xs).length) (rows encE (fl nb xs)) ∧ Upd No w w') := by
 have HU : Upd (fun b => False) w w := Upd.refl _ _
 have hl_hs := rlen encE_len (by decide) hs
 have hc_hs := hs.cap.1
 have hbl_hb := hb.lt
 refine calls_of_W Try.func101 rfl Try.ntmps101 (by simp) ?_
 refine W_seq ?_
 refine W_region ?_
 refine Wl_v (r_as (v := .slice none 0 0) rfl) ?_
 refine Wl_nil ?_
 refine W_seq ?_
 refine W_seq ?_
 refine W_region ?_
 refine Wl_v (r_mv (v := .slice a n c) rfl) ?_
 refine Wl_v (r_len Try.underlying135 rfl) ?_
 refine Wl_v (r_mv (v := .int .i64 0) rfl) ?_
 refine Wl_nil ?_
 refine W_block ?_
 refine W_loop (fun mu ρ ds w' => ∃ (k : Nat) (a2 : Option Addr) (c2 : Nat), n - k = mu ∧ ds = [] ∧ Liv ρ [(1, .func (.func 102) #[] #[.pointer (some ⟨Bn, 0, none⟩)]), (4, .slice a2 ((fl nb (xs.take k)).length) c2), (9, .slice a n c), (10, .int .i64 ((n : Nat) : Int)), (11, .int .i64 ((k : Nat) : Int))] ∧ k ≤ n ∧ (fl nb (xs.take k)).length ≤ k * 2048 ∧ Own w' (fun g => w.heap.size ≤ g) 134 2 (.slice a2 ((fl nb (xs.take k)).length) c2) ((fl nb (xs.take k)).length) (rows encE (fl nb (xs.take k))) ∧ Upd (fun g => w.heap.size ≤ g) w w') _ ⟨0, none, 0, rfl, rfl, ⟨rfl, (Eq.trans (b := .slice none 0 0) rfl (by simp [fl])), rfl, rfl, (by first | rfl | exact vint (by omega) | exact vint (by simp)), trivial⟩, (by omega), (by simp [fl]), (by simpa [fl, rows] using Own.nil _ _ _ _), Upd.refl _ _⟩ ?_
 rintro m1 ρ1 ds1 w1 ⟨k, a2, c2, rfl, rfl, hl1, hk, hfl, hO, hU1⟩
 obtain ⟨ρ1x, rfl⟩ : ∃ ρx, ρ1 = upds ρx [(1, .func (.func 102) #[] #[.pointer (some ⟨Bn, 0, none⟩)]), (4, .slice a2 ((fl nb (xs.take k)).length) c2), (9, .slice a n c), (10, .int .i64 ((n : Nat) : Int)), (11, .int .i64 ((k : Nat) : Int))] := ⟨_, upds_self hl1⟩
 clear hl1
 have hzw1 := hU1.size
 replace hs := hs.upd hU1 (by intro x h1 h2; have h3 : x < w.heap.size := h1; have h4 : w.heap.size ≤ x := h2; omega)
 replace hb := hb.upd hU1 (by intro hx; have hx2 : w.heap.size ≤ Bn := hx; omega)
 replace HU := HU.trans hU1 (by intro x hx; have hx2 : w.heap.size ≤ x := hx; show (False) ∨ w.heap.size ≤ x; omega)
 have HL1 := hU1
 refine W_seq ?_
 refine W_region ?_
 refine Wl_v (r_lt rfl rfl) ?_
 refine Wl_nil ?_
 refine W_seq ?_
 by_cases q1 : ((k : Nat) : Int) < ((n : Nat) : Int)
 ·have hxk := hx k
  have hft := fl_take (nb := nb) (xs := xs) (k := k) (by omega)
  have hpn := p2n_le (d := nb - (xs.getD k (0, 0)).2) (by omega)
  replace hO := hO.tight
  rw [decide_eq_true q1]
  refine W_cond_t rfl ?_
  refine W_skip ?_
  refine W_seq ?_
  refine W_block ?_
  refine W_seq ?_
  refine W_region ?_
  refine Wl_idxr (0, 0) encE_len (by decide) Try.underlying135 Try.sizeOf134 rfl rfl hs (by omega) (by omega) ?_
  intro ib2 io2 hc2
  try rw [Int.toNat_natCast] at hc2
  refine Wl_v (r_loada (cs := [.int .i64 ((xs.getD k (0, 0)).1), .int .i64 ((xs.getD k (0, 0)).2)]) Try.isAgg134 Try.sizeOf134 rfl rfl hc2) ?_
  refine Wl_alloc (cs := [.int .i64 0, .int .i64 0]) Try.zeroValue134 rfl ?_
  intro B3 w3 hB3 hU3 hzz3 hb3
  have hzw3 := hU3.size
  replace hb := hb.upd0 hU3
  replace hO := hO.upd0 hU3
  replace HL1 := HL1.trans0 hU3
  refine Wl_storea (off := 0) (vs := [.int .i64 ((xs.getD k (0, 0)).1), .int .i64 ((xs.getD k (0, 0)).2)]) (cs' := [.int .i64 ((xs.getD k (0, 0)).1), .int .i64 ((xs.getD k (0, 0)).2)]) Try.sizeOf134 rfl rfl rfl (by simp only [List.mem_cons, List.not_mem_nil, or_false, forall_eq_or_imp, forall_eq]; exact ⟨rfl, rfl⟩) hb3 (by simp) rfl ?_
  intro w4 hU4 hzz4 hb3n
  replace hb3 := hb3n; clear hb3n
  have hzw4 := hU4.size
  replace hb := hb.upd1 hU4 (by omega)
  replace hO := hO.upd1 hU4 (by intro h1; have h3 : ((w.heap.size ≤ B3) ∧ B3 < w1.heap.size) := h1; omega)
  replace HL1 := HL1.trans1 hU4 (by show (w.heap.size ≤ B3) ∨ w.heap.size ≤ B3; omega)
  refine Wl_nil ?_
  refine W_seq ?_
  refine W_region ?_
  refine Wl_v (r_mv (v := .func (.func 102) #[] #[.pointer (some ⟨Bn, 0, none⟩)]) rfl) ?_
  refine Wl_v (r_loada (b := B3) (off := 0) (cs := [.int .i64 ((xs.getD k (0, 0)).1), .int .i64 ((xs.getD k (0, 0)).2)]) Try.isAgg134 Try.sizeOf134 rfl rfl (fun j hj => by rw [hb3.cell]; match j, hj with | 0, _ => rfl | 1, _ => rfl)) ?_
  refine Wl_call (r_clos1 Try.call102 rfl rfl (by first | (simp; done) | (simp; rfl))) (ent_clo (x := (xs.getD k (0, 0))) (nb := nb) _ hb (by omega)) ?_
  rintro v w5 ⟨rfl, hU5⟩
  have hzw5 := hU5.size
  replace hO := hO.upd0 hU5
  replace HL1 := HL1.trans0 hU5
  refine Wl_v (r_mv (v := .tuple #[.int .i64 ((2 ^ (nb - (xs.getD k (0, 0)).2).toNat : Nat) : Int), .agg #[.int .i64 ((xs.getD k (0, 0)).1), .int .i64 ((xs.getD k (0, 0)).2)]]) rfl) ?_
  refine Wl_v (r_ext (v := .int .i64 ((2 ^ (nb - (xs.getD k (0, 0)).2).toNat : Nat) : Int)) rfl rfl) ?_
  refine Wl_v (r_ext (v := .agg #[.int .i64 ((xs.getD k (0, 0)).1), .int .i64 ((xs.getD k (0, 0)).2)]) rfl rfl) ?_
  refine Wl_alloc (cs := [.int .i64 0, .int .i64 0]) Try.zeroValue134 rfl ?_
  intro B6 w6 hB6 hU6 hzz6 hb6
  have hzw6 := hU6.size
  replace hO := hO.upd0 hU6
  replace HL1 := HL1.trans0 hU6
  refine Wl_v (r_as (v := .int .i64 ((2 ^ (nb - (xs.getD k (0, 0)).2).toNat : Nat) : Int)) rfl) ?_
  refine Wl_storea (off := 0) (vs := [.int .i64 ((xs.getD k (0, 0)).1), .int .i64 ((xs.getD k (0, 0)).2)]) (cs' := [.int .i64 ((xs.getD k (0, 0)).1), .int .i64 ((xs.getD k (0, 0)).2)]) Try.sizeOf134 rfl rfl rfl (by simp only [List.mem_cons, List.not_mem_nil, or_false, forall_eq_or_imp, forall_eq]; exact ⟨rfl, rfl⟩) hb6 (by simp) rfl ?_
  intro w7 hU7 hzz7 hb6n
  replace hb6 := hb6n; clear hb6n
  have hzw7 := hU7.size
  replace hO := hO.upd1 hU7 (by intro h1; have h3 : ((w.heap.size ≤ B6) ∧ B6 < w1.heap.size) := h1; omega)
  replace HL1 := HL1.trans1 hU7 (by show (w.heap.size ≤ B6) ∨ w.heap.size ≤ B6; omega)
  refine Wl_nil ?_
  refine W_region ?_
  refine Wl_v (r_mv (v := .slice a2 ((fl nb (xs.take k)).length) c2) rfl) ?_
  refine Wl_v (r_loada (b := B6) (off := 0) (cs := [.int .i64 ((xs.getD k (0, 0)).1), .int .i64 ((xs.getD k (0, 0)).2)]) Try.isAgg134 Try.sizeOf134 rfl rfl (fun j hj => by rw [hb6.cell]; match j, hj with | 0, _ => rfl | 1, _ => rfl)) ?_
  refine Wl_lit (pv := [(0, .agg #[.int .i64 ((xs.getD k (0, 0)).1), .int .i64 ((xs.getD k (0, 0)).2)])]) (cs := [.int .i64 ((xs.getD k (0, 0)).1), .int .i64 ((xs.getD k (0, 0)).2)]) Try.underlying135 Try.sizeOf134 Try.zeroValue134 (by decide) (by decide) (by simp only [List.map_toArray, List.map_cons, List.map_nil] <;> rfl) (by kernel_rfl) rfl (by decide) ?_
  intro B8 w8 hB8 hU8 hzz8 hs8
  have hzw8 := hU8.size
  replace hO := hO.upd0 hU8
  replace HL1 := HL1.trans0 hU8
  replace hs8 : Own w8 (Is B8) 134 2 (.slice (some ⟨B8, 0, none⟩) 1 1) 1 (rows encE [((xs.getD k (0, 0)).1, (xs.getD k (0, 0)).2)]) := hs8
  refine Wl_v (r_mv (v := .int .i64 ((2 ^ (nb - (xs.getD k (0, 0)).2).toNat : Nat) : Int)) rfl) ?_
  refine Wl_call (r_call2 rfl Try.call107 rfl rfl) (repeat1 _ hs8.sl.any (by omega)) ?_
  rintro v w9 ⟨a9, c9, rfl, hO9, hU9⟩
  have hzw9 := hU9.size
  replace hO := hO.upd0 hU9
  replace HL1 := HL1.trans0 hU9
  replace hO9 := hO9.tight
  have hl_hO9 := rlen encE_len (by decide) hO9.sl
  have hc_hO9 := hO9.sl.cap.1
  refine Wl_appendc (cs3 := rows encE ((fl nb (xs.take k)) ++ (List.replicate (((2 ^ (nb - (xs.getD k (0, 0)).2).toNat : Nat) : Int)).toNat ((xs.getD k (0, 0)).1, (xs.getD k (0, 0)).2)))) (tot := (fl nb (xs.take k)).length + ((((2 ^ (nb - (xs.getD k (0, 0)).2).toNat : Nat) : Int)).toNat)) (by first | rfl | exact (rows_app _ _).symm | simp) Try.underlying135 (ti := Try.t134) (z := .agg #[.int .i64 0, .int .i64 0]) (sz := 2) (by' := 16) rfl rfl rfl rfl rfl (by decide) rfl hO rfl hO9.sl (rows_one encE_one _) (by omega) (by simp only [maxLen]; omega) (by omega) ?_
  intro a10 c10 w10 hU10 hzz10 hO10
  clear hO
  have hzw10 := hU10.size
  replace HL1 := HL1.trans hU10 (by intro x hx; have hx2 : ((w.heap.size ≤ x) ∧ x < w1.heap.size) := hx; show (w.heap.size ≤ x) ∨ w.heap.size ≤ x; omega)
  replace hO10 := hO10.tight
  have hl_hO10 := rlen encE_len (by decide) hO10.sl
  have hc_hO10 := hO10.sl.cap.1
  refine Wl_v (r_as (v := .slice a10 ((fl nb (xs.take k)).length + ((((2 ^ (nb - (xs.getD k (0, 0)).2).toNat : Nat) : Int)).toNat)) c10) rfl) ?_
  refine Wl_nil ?_
  refine W_region ?_
  refine Wl_v (r_add rfl rfl (wi64 (by omega) (by omega))) ?_
  refine Wl_v (r_mv (v := .int .i64 (((k : Nat) : Int) + 1)) rfl) ?_
  refine Wl_nil ?_
  refine ⟨_, ?_, (k + 1), a10, c10, rfl, rfl, ⟨rfl, (Eq.trans (b := .slice a10 ((fl nb (xs.take k)).length + ((((2 ^ (nb - (xs.getD k (0, 0)).2).toNat : Nat) : Int)).toNat)) c10) rfl (by rw [hft, List.length_append, List.length_replicate]; first | done | rfl)), rfl, rfl, (Eq.trans (b := .int .i64 (((k : Nat) : Int) + 1)) rfl (vint (by omega))), trivial⟩, (by omega), (by rw [hft, List.length_append, List.length_replicate]; omega), (by rw [hft, List.length_append, List.length_replicate]; exact (hO10.weak (by intro g hg; have h3 : ((((((w.heap.size ≤ g) ∧ g < w1.heap.size)) ∨ g = w9.heap.size)) ∧ g < w10.heap.size) := hg; show w.heap.size ≤ g; omega))), HL1⟩
  omega
 ·rw [decide_eq_false q1]
  refine W_cond_f rfl ?_
  refine W_exit ?_
  refine W_seq ?_
  refine W_region ?_
  refine Wl_v (r_mv (v := .slice a2 ((fl nb (xs.take k)).length) c2) rfl) ?_
  refine Wl_v (r_as (v := .slice a2 ((fl nb (xs.take k)).length) c2) rfl) ?_
  refine Wl_nil ?_
  refine W_ret ?_
  refine ret_end (v := .slice a2 ((fl nb (xs.take k)).length) c2) rfl (res1 Try.results101 rfl) ?_
  have hke : xs.take k = xs := List.take_of_length_le (by omega)
  rw [hke] at hO
  exact ⟨_, rfl, a2, c2, (by rw [hke]), hO.weak (by intro g hg; have h3 : w.heap.size ≤ g := hg; show w.heap.size ≤ g; omega), HU⟩

end Go.Proofs.Ytilegaokfamfnaa
