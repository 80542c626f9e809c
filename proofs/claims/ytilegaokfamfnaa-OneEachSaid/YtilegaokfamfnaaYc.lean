/-
 Walks, printed by a small program of this project (gen.py).
-/
import Derived.Test.YtilegaokfamfnaaYb
set_option linter.unusedVariables false
set_option linter.unusedSimpArgs false
namespace Go.Proofs.Ytilegaokfamfnaa
open Go.Fw

theorem os_take {l : List Int} {k : Nat} (hk : k < (ord l).length) : (os l).take (k + 1) = (os l).take k ++ [((ord l).getD k 0, ((cds l).getD ((ord l).getD k 0).toNat (0, 0)).1)] := by
 have e : (ord l).getD k 0 = (ord l)[k] := by rw [List.getD_eq_getElem?_getD, List.getElem?_eq_getElem hk]; rfl
 rw [e, List.take_add_one, List.getElem?_eq_getElem (by rw [os_len]; exact hk)]
 congr 1
 simp only [os, List.getElem_map, Option.toList_some]
theorem os_rng {l : List Int} (hr : Rt l) (k : Nat) : 0 ≤ mx l - ((os l).getD k (0, 0)).2 ∧ mx l - ((os l).getD k (0, 0)).2 ≤ 11 ∧ -100 ≤ ((os l).getD k (0, 0)).2 ∧ ((os l).getD k (0, 0)).2 ≤ 100 := by
 have h1 := bt_bd hr
 rw [mx_bt]
 by_cases hk : k < (ord l).length
 ·obtain ⟨j, hj, hjl, h2, h3⟩ := ord_at hk
  have h4 := bt_ge (l := l) j
  have e : ((os l).getD k (0, 0)).2 = l.getD j 0 := by
   have h5 : (ord l)[k] = (j : Int) := by rw [List.getD_eq_getElem?_getD, List.getElem?_eq_getElem hk] at hj; exact hj
   rw [List.getD_eq_getElem?_getD, List.getElem?_eq_getElem (by rw [os_len]; exact hk)]
   simp only [os, List.getElem_map, Option.getD_some, h5, Int.toNat_natCast]
   rw [cds_get hjl, cd_fst hr.1]
  rw [e]; omega
 ·rw [List.getD_eq_getElem?_getD, List.getElem?_eq_none (by rw [os_len]; omega)]
  simp only [Option.getD_none]; omega
theorem fl_mx {l : List Int} (hr : Rt l) : fl (mx l) (os l) = tbl l := by rw [mx_bt]; exact fl_tbl hr
theorem os_all (l : List Int) {m : Nat} (h : (ord l).length = m) : (os l).take m = os l := List.take_of_length_le (by rw [os_len]; omega)
theorem z2 : ∀ i, ([0] : List Int).getD i 0 = 0 := fun i => by rcases i with _ | i <;> simp
theorem z3 : ∀ i, ([0, 0] : List Int).getD i 0 = 0 := fun i => by rcases i with _ | _ | i <;> simp

set_option maxHeartbeats 2000000 in
set_option maxRecDepth 100000 in
theorem entries_ok {a : Option Addr} {n c : Nat} {l : List Int} {R : Nat → Prop} (w : World) (hs : Sl w R 1 (.slice a n c) n (ints .i64 l)) (hn : n ≤ 17592186044415) (hr : Rt l) :
  Calls Try.prog 93 #[.slice a n c] w (Ret fun v w' => ∃ (a' : Option Addr) (c' : Nat), v = .tuple #[.slice a' (2 ^ bt l) c', .int .i64 0] ∧ Own w' (fun g => w.heap.size ≤ g) 134 2 (.slice a' (2 ^ bt l) c') (2 ^ bt l) (rows encE (tbl l)) ∧ Upd No w w') := by
 have HU : Upd (fun b => False) w w := Upd.refl _ _
 have hl_hs := ilen hs
 have hc_hs := hs.cap.1
 replace hs := hs.tight
 have h256 := hr.2.1
 have hbt := bt_bd hr
 refine calls_of_W Try.func93 rfl Try.ntmps93 (by simp) ?_
 refine W_seq ?_
 refine W_region ?_
 refine Wl_v (r_as (v := .slice none 0 0) rfl) ?_
 refine Wl_v (r_as (v := .int .i64 0) rfl) ?_
 refine Wl_nil ?_
 refine W_scopeg 0 rfl ?_
 refine W_seq ?_
 refine W_region ?_
 refine Wl_alloc (cs := [.slice none 0 0]) Try.zeroValue135 rfl ?_
 intro B1 w1 hB1 hU1 hzz1 hb1
 have hzw1 := hU1.size
 replace hs := hs.upd0 hU1
 replace HU := HU.trans0 hU1
 refine Wl_nil ?_
 refine W_seq ?_
 refine W_region ?_
 refine Wl_v (r_mv (v := .slice a n c) rfl) ?_
 refine Wl_call (r_call1 rfl Try.call94 rfl) (mlen_ok _ hs (by omega) (by omega)) ?_
 rintro v w2 ⟨rfl, hU2⟩
 have hzw2 := hU2.size
 replace hs := hs.upd0 hU2
 replace HU := HU.trans0 hU2
 replace hb1 := hb1.upd0 hU2
 refine Wl_v (r_mv (v := .tuple #[.int .i64 (mx l), .int .i64 0]) rfl) ?_
 refine Wl_v (r_ext (v := .int .i64 (mx l)) rfl rfl) ?_
 refine Wl_v (r_ext (v := .int .i64 0) rfl rfl) ?_
 refine Wl_alloc (cs := [.int .i64 0]) Try.zeroValue3 rfl ?_
 intro B3 w3 hB3 hU3 hzz3 hb3
 have hzw3 := hU3.size
 replace hs := hs.upd0 hU3
 replace HU := HU.trans0 hU3
 replace hb1 := hb1.upd0 hU3
 refine Wl_store (v := .int .i64 (mx l)) (cs' := [.int .i64 (mx l)]) Try.sizeOf3 rfl rfl rfl rfl hb3 rfl rfl ?_
 intro w4 hU4 hzz4 hb3n
 replace hb3 := hb3n; clear hb3n
 have hzw4 := hU4.size
 replace hs := hs.upd1 hU4 (by intro h1; have h3 : ((R B3) ∧ B3 < w.heap.size) := h1; omega)
 replace HU := HU.trans1 hU4 (by show (False) ∨ w.heap.size ≤ B3; omega)
 replace hb1 := hb1.upd1 hU4 (by omega)
 refine Wl_v (r_as (v := .int .i64 0) rfl) ?_
 refine Wl_nil ?_
 refine W_seq ?_
 refine W_seq ?_
 refine W_region ?_
 refine Wl_v (r_mv (v := .int .i64 0) rfl) ?_
 refine Wl_lit (pv := [(0, .int .i64 0)]) (cs := [.int .i64 0]) Try.underlying109 Try.sizeOf25 Try.zeroValue25 (by decide) (by decide) (by simp only [List.map_toArray, List.map_cons, List.map_nil] <;> rfl) (by kernel_rfl) rfl (by decide) ?_
 intro B5 w5 hB5 hU5 hzz5 hs5
 have hzw5 := hU5.size
 replace hs := hs.upd0 hU5
 replace HU := HU.trans0 hU5
 replace hb1 := hb1.upd0 hU5
 replace hb3 := hb3.upd0 hU5
 replace hs5 : Own w5 (Is B5) 25 1 (.slice (some ⟨B5, 0, none⟩) 1 1) 1 (ints .i64 [0]) := hs5
 refine Wl_call (r_call1 rfl Try.call95 rfl) (refused_0 _ hs5.sl.any (by omega) z2) ?_
 rintro v w6 ⟨rfl, hU6⟩
 have hzw6 := hU6.size
 replace hs := hs.upd0 hU6
 replace HU := HU.trans0 hU6
 replace hb1 := hb1.upd0 hU6
 replace hb3 := hb3.upd0 hU6
 replace hs5 := hs5.upd0 hU6
 refine Wl_v (v := .bool false) (r_ne (a := 0) (b := 0) rfl rfl) ?_
 refine Wl_nil ?_
 refine W_cond_f rfl ?_
 refine W_skip ?_
 refine W_seq ?_
 refine W_seq ?_
 refine W_region ?_
 refine Wl_v (r_mv (v := .slice a n c) rfl) ?_
 refine Wl_call (r_call1 rfl Try.call100 rfl) (all_spec _ hs (by omega)) ?_
 rintro v w7 ⟨Bo7, Bc7, a7, m7, c7, b7, n7, d7, rfl, hBo7, hBc7, hO7, hC7, hb1_7, hb2_7, hU7⟩
 have hzw7 := hU7.size
 replace HU := HU.trans0 hU7
 replace hb1 := hb1.upd0 hU7
 replace hb3 := hb3.upd0 hU7
 replace hs5 := hs5.upd0 hU7
 have hbl_hBo7 := hBo7.lt
 have hbl_hBc7 := hBc7.lt
 replace hO7 := hO7.tight
 have hl_hO7 := ilen hO7.sl
 have hc_hO7 := hO7.sl.cap.1
 replace hC7 := hC7.tight
 have hl_hC7 := rlen encC_len (by decide) hC7.sl
 have hc_hC7 := hC7.sl.cap.1
 replace hO7 := hO7.icong (show ordR l = ord l from if_pos hr)
 replace hC7 := hC7.rcong (show cdsR l = cds l from if_pos hr)
 have hlo := ilen hO7.sl
 have hlc := rlen encC_len (by decide) hC7.sl
 have hol := ord_len l
 rw [cds_len] at hlc
 refine Wl_nil ?_
 refine W_block ?_
 refine W_range (gf := 106) (ar := fun y => #[y, .pointer (some ⟨Bo7, 0, none⟩), .pointer (some ⟨Bc7, 0, none⟩)]) rfl Try.call106 (fun y => by simp) ?_
 intro D8 fn8 w8 hD8 hU8 hzz8 hdf8 hrc80
 have hzw8 := hU8.size
 replace HU := HU.trans0 hU8
 replace hb1 := hb1.upd0 hU8
 replace hb3 := hb3.upd0 hU8
 replace hs5 := hs5.upd0 hU8
 replace hBo7 := hBo7.upd0 hU8
 replace hBc7 := hBc7.upd0 hU8
 replace hO7 := hO7.upd0 hU8
 replace hC7 := hC7.upd0 hU8
 obtain ⟨r8, hr8, hrc8⟩ : ∃ r, r = _ ∧ Rec w8 (D8 + 1) r := ⟨_, rfl, hrc80⟩
 clear hrc80
 obtain ⟨J8, hJ8⟩ : ∃ J : Nat → World → Prop, ∀ i w', J i w' ↔ (∃ (ga : Option Addr) (gc : Nat), Rec w' (D8 + 1) r8 ∧ Dfr w' D8 ∧ Blk w' B1 [.slice ga i gc] ∧ Own w' (fun g => w8.heap.size ≤ g) 134 2 (.slice ga i gc) i (rows encE ((os l).take i)) ∧ Blk w' B3 [.int .i64 (mx l)] ∧ Own w' (fun g => g = B5) 25 1 (.slice (some ⟨B5, 0, none⟩) 1 1) 1 (ints .i64 [0]) ∧ Blk w' Bo7 [.slice a7 m7 c7] ∧ Blk w' Bc7 [.slice b7 n7 d7] ∧ Own w' (fun g => ((w6.heap.size ≤ g) ∧ g < w7.heap.size)) 3 1 (.slice a7 m7 c7) m7 (ints .i64 (ord l)) ∧ Own w' (fun g => ((w6.heap.size ≤ g) ∧ g < w7.heap.size)) 67 2 (.slice b7 n7 d7) n7 (rows encC (cds l)) ∧ Upd No w w') := ⟨_, fun _ _ => Iff.rfl⟩
 obtain ⟨Jx8, hJx8⟩ : ∃ Jx : World → Prop, ∀ w', Jx w' ↔ (False) := ⟨_, fun _ => Iff.rfl⟩
 refine (all1_spec (ly := (D8 + 1)) (J := J8) (Jx := Jx8) (Sb := (fun g => g = B1 ∨ g = D8 + 1 ∨ w8.heap.size ≤ g)) (R := fun g => ((w6.heap.size ≤ g) ∧ g < w7.heap.size)) (T := fun g => ((w6.heap.size ≤ g) ∧ g < w7.heap.size)) w8 hBo7 hO7.sl hBc7 hC7.sl (by omega) (by omega) (fun i hi => by obtain ⟨jx, e1, e2, _⟩ := ord_at (l := l) (i := i) (by omega); omega) (by intro g h1 h2; have h3 : ((w6.heap.size ≤ g) ∧ g < w7.heap.size) := h1; have h4 : g = B1 ∨ g = D8 + 1 ∨ w8.heap.size ≤ g := h2; omega) (by show ¬ (_ ∨ _ ∨ _); omega) (by intro g h1 h2; have h3 : ((w6.heap.size ≤ g) ∧ g < w7.heap.size) := h1; have h4 : g = B1 ∨ g = D8 + 1 ∨ w8.heap.size ≤ g := h2; omega) ?_ ?_).mono ?_
 ·exact (hJ8 _ _).2 ⟨none, 0, hrc8, hdf8, hb1, (by simpa [rows] using Own.nil _ _ _ _), hb3, hs5, hBo7, hBc7, hO7, hC7, HU⟩
 ·intro i9 w9 hi9 hh
  obtain ⟨ga, gc, hrc8, hdf8, hb1, hOs, hb3, hs5, hBo7, hBc7, hO7, hC7, HU⟩ := (hJ8 _ _).1 hh
  have hrl8 := hrc8.lt
  replace hOs := hOs.tight
  obtain ⟨jx, hjx, hjn, _⟩ := ord_at (l := l) (i := i9) (by omega)
  have hot := os_take (l := l) (k := i9) (by omega)
  have hcb := cds_bd hr ((ord l).getD i9 0).toNat
  have HB8 : Upd (fun g => g = B1 ∨ g = D8 + 1 ∨ w8.heap.size ≤ g) w9 w9 := Upd.refl _ _
  refine yieldC_of_W (R := fun b c w' => (b = true ∧ Upd (fun g => g = B1 ∨ g = D8 + 1 ∨ w8.heap.size ≤ g) w9 w' ∧ J8 (i9 + 1) w') ∨ (b = false ∧ Jx8 w')) hrc8 (by rw [hr8]; rfl) (by rw [hr8]; exact zip2 _ _ _ _ _ _) ?_ ?_
  ·rw [hr8]
   refine W_seq ?_
   refine W_region ?_
   refine Wl_v (r_as (v := .int .i64 ((ord l).getD i9 0)) rfl) ?_
   refine Wl_nil ?_
   refine W_region ?_
   refine Wl_alloc (cs := [.int .i64 0, .int .u32 0]) Try.zeroValue67 rfl ?_
   intro B10 w10 hB10 hU10 hzz10 hb10
   have hzw10 := hU10.size
   replace hrc8 := hrc8.upd0 hU10
   replace hdf8 := hdf8.upd0 hU10
   replace hb1 := hb1.upd0 hU10
   replace hOs := hOs.upd0 hU10
   replace hb3 := hb3.upd0 hU10
   replace hs5 := hs5.upd0 hU10
   replace hBo7 := hBo7.upd0 hU10
   replace hBc7 := hBc7.upd0 hU10
   replace hO7 := hO7.upd0 hU10
   replace hC7 := hC7.upd0 hU10
   replace HU := HU.trans0 hU10
   replace HB8 := HB8.trans0 hU10
   refine Wl_storea (off := 0) (vs := [.int .i64 (((cds l).getD ((ord l).getD i9 0).toNat (0, 0)).1), .int .u32 (((cds l).getD ((ord l).getD i9 0).toNat (0, 0)).2)]) (cs' := [.int .i64 (((cds l).getD ((ord l).getD i9 0).toNat (0, 0)).1), .int .u32 (((cds l).getD ((ord l).getD i9 0).toNat (0, 0)).2)]) Try.sizeOf67 rfl rfl rfl (by simp only [List.mem_cons, List.not_mem_nil, or_false, forall_eq_or_imp, forall_eq]; exact ⟨rfl, rfl⟩) hb10 (by simp) rfl ?_
   intro w11 hU11 hzz11 hb10n
   replace hb10 := hb10n; clear hb10n
   have hzw11 := hU11.size
   replace hrc8 := hrc8.upd1 hU11 (by omega)
   replace hdf8 := hdf8.upd1 hU11 (by omega)
   replace hb1 := hb1.upd1 hU11 (by omega)
   replace hOs := hOs.upd1 hU11 (by intro h1; have h3 : ((w8.heap.size ≤ B10) ∧ B10 < w9.heap.size) := h1; omega)
   replace hb3 := hb3.upd1 hU11 (by omega)
   replace hs5 := hs5.upd1 hU11 (by intro h1; have h3 : B10 = B5 := h1; omega)
   replace hBo7 := hBo7.upd1 hU11 (by omega)
   replace hBc7 := hBc7.upd1 hU11 (by omega)
   replace hO7 := hO7.upd1 hU11 (by intro h1; have h3 : ((w6.heap.size ≤ B10) ∧ B10 < w7.heap.size) := h1; omega)
   replace hC7 := hC7.upd1 hU11 (by intro h1; have h3 : ((w6.heap.size ≤ B10) ∧ B10 < w7.heap.size) := h1; omega)
   replace HU := HU.trans1 hU11 (by show (False) ∨ w.heap.size ≤ B10; omega)
   replace HB8 := HB8.trans1 hU11 (by show (B10 = B1 ∨ B10 = D8 + 1 ∨ w8.heap.size ≤ B10) ∨ w9.heap.size ≤ B10; omega)
   refine Wl_nil ?_
   refine ⟨rfl, _, hrc8, (by rw [hr8]), ?_⟩
   intro w12 hU12 hzz12 hrc8b
   have hzw12 := hU12.size
   replace hdf8 := hdf8.upd1 hU12 (by omega)
   replace hb1 := hb1.upd1 hU12 (by omega)
   replace hOs := hOs.upd1 hU12 (by intro h1; have h3 : ((w8.heap.size ≤ (D8 + 1)) ∧ (D8 + 1) < w9.heap.size) := h1; omega)
   replace hb3 := hb3.upd1 hU12 (by omega)
   replace hs5 := hs5.upd1 hU12 (by intro h1; have h3 : (D8 + 1) = B5 := h1; omega)
   replace hBo7 := hBo7.upd1 hU12 (by omega)
   replace hBc7 := hBc7.upd1 hU12 (by omega)
   replace hO7 := hO7.upd1 hU12 (by intro h1; have h3 : ((w6.heap.size ≤ (D8 + 1)) ∧ (D8 + 1) < w7.heap.size) := h1; omega)
   replace hC7 := hC7.upd1 hU12 (by intro h1; have h3 : ((w6.heap.size ≤ (D8 + 1)) ∧ (D8 + 1) < w7.heap.size) := h1; omega)
   replace HU := HU.trans1 hU12 (by show (False) ∨ w.heap.size ≤ (D8 + 1); omega)
   replace HB8 := HB8.trans1 hU12 (by show ((D8 + 1) = B1 ∨ (D8 + 1) = D8 + 1 ∨ w8.heap.size ≤ (D8 + 1)) ∨ w9.heap.size ≤ (D8 + 1); omega)
   replace hb10 := hb10.upd1 hU12 (by omega)
   clear hrc8
   have hrc8 := hrc8b
   clear hrc8b
   refine W_block ?_
   refine W_region ?_
   refine Wl_load (v := .slice ga i9 gc) Try.isAgg135 rfl hb1 rfl ?_
   refine Wl_v (r_mv (v := .int .i64 ((ord l).getD i9 0)) rfl) ?_
   refine Wl_v (r_fld Try.underlying67 rfl Try.sizeOf3 rfl rfl) ?_
   refine Wl_load (v := .int .i64 (((cds l).getD ((ord l).getD i9 0).toNat (0, 0)).1)) Try.isAgg3 rfl hb10 rfl ?_
   refine Wl_v (r_build (pl := #[(0, 1), (1, 1)]) (pv := [(0, .int .i64 ((ord l).getD i9 0)), (1, .int .i64 (((cds l).getD ((ord l).getD i9 0).toNat (0, 0)).1))]) (cs := #[.int .i64 ((ord l).getD i9 0), .int .i64 (((cds l).getD ((ord l).getD i9 0).toNat (0, 0)).1)]) Try.zeroValue134 Try.underlying134 (fun w => by kernel_rfl) (by simp only [List.map_toArray, List.map_cons, List.map_nil] <;> rfl) (by kernel_rfl)) ?_
   refine Wl_lit (pv := [(0, .agg #[.int .i64 ((ord l).getD i9 0), .int .i64 (((cds l).getD ((ord l).getD i9 0).toNat (0, 0)).1)])]) (cs := [.int .i64 ((ord l).getD i9 0), .int .i64 (((cds l).getD ((ord l).getD i9 0).toNat (0, 0)).1)]) Try.underlying135 Try.sizeOf134 Try.zeroValue134 (by decide) (by decide) (by simp only [List.map_toArray, List.map_cons, List.map_nil] <;> rfl) (by kernel_rfl) rfl (by decide) ?_
   intro B13 w13 hB13 hU13 hzz13 hs13
   have hzw13 := hU13.size
   replace hrc8 := hrc8.upd0 hU13
   replace hdf8 := hdf8.upd0 hU13
   replace hb1 := hb1.upd0 hU13
   replace hOs := hOs.upd0 hU13
   replace hb3 := hb3.upd0 hU13
   replace hs5 := hs5.upd0 hU13
   replace hBo7 := hBo7.upd0 hU13
   replace hBc7 := hBc7.upd0 hU13
   replace hO7 := hO7.upd0 hU13
   replace hC7 := hC7.upd0 hU13
   replace HU := HU.trans0 hU13
   replace HB8 := HB8.trans0 hU13
   replace hs13 : Own w13 (Is B13) 134 2 (.slice (some ⟨B13, 0, none⟩) 1 1) 1 (rows encE [((ord l).getD i9 0, ((cds l).getD ((ord l).getD i9 0).toNat (0, 0)).1)]) := hs13
   refine Wl_appendc (cs3 := rows encE (((os l).take i9) ++ [((ord l).getD i9 0, ((cds l).getD ((ord l).getD i9 0).toNat (0, 0)).1)])) (tot := i9 + 1) (by first | rfl | exact (rows_app _ _).symm | simp) Try.underlying135 (ti := Try.t134) (z := .agg #[.int .i64 0, .int .i64 0]) (sz := 2) (by' := 16) rfl rfl rfl rfl rfl (by decide) rfl hOs rfl hs13.sl (rows_one encE_one _) (by omega) (by simp only [maxLen]; omega) (by omega) ?_
   intro a14 c14 w14 hU14 hzz14 hO14
   clear hOs
   have hzw14 := hU14.size
   replace hrc8 := hrc8.upd hU14 (by intro hx; have hx2 : ((w8.heap.size ≤ (D8 + 1)) ∧ (D8 + 1) < w9.heap.size) := hx; omega)
   replace hdf8 := hdf8.upd hU14 (by intro hx; have hx2 : ((w8.heap.size ≤ D8) ∧ D8 < w9.heap.size) := hx; omega)
   replace hb1 := hb1.upd hU14 (by intro hx; have hx2 : ((w8.heap.size ≤ B1) ∧ B1 < w9.heap.size) := hx; omega)
   replace hb3 := hb3.upd hU14 (by intro hx; have hx2 : ((w8.heap.size ≤ B3) ∧ B3 < w9.heap.size) := hx; omega)
   replace hs5 := hs5.upd hU14 (by intro x h1 h2; have h3 : x = B5 := h1; have h4 : ((w8.heap.size ≤ x) ∧ x < w9.heap.size) := h2; omega)
   replace hBo7 := hBo7.upd hU14 (by intro hx; have hx2 : ((w8.heap.size ≤ Bo7) ∧ Bo7 < w9.heap.size) := hx; omega)
   replace hBc7 := hBc7.upd hU14 (by intro hx; have hx2 : ((w8.heap.size ≤ Bc7) ∧ Bc7 < w9.heap.size) := hx; omega)
   replace hO7 := hO7.upd hU14 (by intro x h1 h2; have h3 : ((w6.heap.size ≤ x) ∧ x < w7.heap.size) := h1; have h4 : ((w8.heap.size ≤ x) ∧ x < w9.heap.size) := h2; omega)
   replace hC7 := hC7.upd hU14 (by intro x h1 h2; have h3 : ((w6.heap.size ≤ x) ∧ x < w7.heap.size) := h1; have h4 : ((w8.heap.size ≤ x) ∧ x < w9.heap.size) := h2; omega)
   replace HU := HU.trans hU14 (by intro x hx; have hx2 : ((w8.heap.size ≤ x) ∧ x < w9.heap.size) := hx; show (False) ∨ w.heap.size ≤ x; omega)
   replace HB8 := HB8.trans hU14 (by intro x hx; have hx2 : ((w8.heap.size ≤ x) ∧ x < w9.heap.size) := hx; show (x = B1 ∨ x = D8 + 1 ∨ w8.heap.size ≤ x) ∨ w9.heap.size ≤ x; omega)
   replace hO14 := hO14.tight
   have hl_hO14 := rlen encE_len (by decide) hO14.sl
   have hc_hO14 := hO14.sl.cap.1
   refine Wl_store (v := .slice a14 (i9 + 1) c14) (cs' := [.slice a14 (i9 + 1) c14]) Try.sizeOf135 rfl rfl rfl rfl hb1 rfl rfl ?_
   intro w15 hU15 hzz15 hb1n
   replace hb1 := hb1n; clear hb1n
   have hzw15 := hU15.size
   replace hrc8 := hrc8.upd1 hU15 (by omega)
   replace hdf8 := hdf8.upd1 hU15 (by omega)
   replace hb3 := hb3.upd1 hU15 (by omega)
   replace hs5 := hs5.upd1 hU15 (by intro h1; have h3 : B1 = B5 := h1; omega)
   replace hBo7 := hBo7.upd1 hU15 (by omega)
   replace hBc7 := hBc7.upd1 hU15 (by omega)
   replace hO7 := hO7.upd1 hU15 (by intro h1; have h3 : ((w6.heap.size ≤ B1) ∧ B1 < w7.heap.size) := h1; omega)
   replace hC7 := hC7.upd1 hU15 (by intro h1; have h3 : ((w6.heap.size ≤ B1) ∧ B1 < w7.heap.size) := h1; omega)
   replace HU := HU.trans1 hU15 (by show (False) ∨ w.heap.size ≤ B1; omega)
   replace HB8 := HB8.trans1 hU15 (by show (B1 = B1 ∨ B1 = D8 + 1 ∨ w8.heap.size ≤ B1) ∨ w9.heap.size ≤ B1; omega)
   replace hO14 := hO14.upd1 hU15 (by intro h1; have h3 : ((((((w8.heap.size ≤ B1) ∧ B1 < w9.heap.size)) ∨ B1 = w13.heap.size)) ∧ B1 < w14.heap.size) := h1; omega)
   refine Wl_nil ?_
   refine ⟨rfl, _, hrc8, ?_⟩
   intro w16 hU16 hzz16 hrz
   have hzw16 := hU16.size
   replace hdf8 := hdf8.upd1 hU16 (by omega)
   replace hb1 := hb1.upd1 hU16 (by omega)
   replace hb3 := hb3.upd1 hU16 (by omega)
   replace hs5 := hs5.upd1 hU16 (by intro h1; have h3 : (D8 + 1) = B5 := h1; omega)
   replace hBo7 := hBo7.upd1 hU16 (by omega)
   replace hBc7 := hBc7.upd1 hU16 (by omega)
   replace hO7 := hO7.upd1 hU16 (by intro h1; have h3 : ((w6.heap.size ≤ (D8 + 1)) ∧ (D8 + 1) < w7.heap.size) := h1; omega)
   replace hC7 := hC7.upd1 hU16 (by intro h1; have h3 : ((w6.heap.size ≤ (D8 + 1)) ∧ (D8 + 1) < w7.heap.size) := h1; omega)
   replace HU := HU.trans1 hU16 (by show (False) ∨ w.heap.size ≤ (D8 + 1); omega)
   replace HB8 := HB8.trans1 hU16 (by show ((D8 + 1) = B1 ∨ (D8 + 1) = D8 + 1 ∨ w8.heap.size ≤ (D8 + 1)) ∨ w9.heap.size ≤ (D8 + 1); omega)
   replace hO14 := hO14.upd1 hU16 (by intro h1; have h3 : ((((((w8.heap.size ≤ (D8 + 1)) ∧ (D8 + 1) < w9.heap.size)) ∨ (D8 + 1) = w13.heap.size)) ∧ (D8 + 1) < w14.heap.size) := h1; omega)
   exact Or.inl ⟨rfl, HB8, (hJ8 _ _).2 ⟨a14, c14, (by rw [hr8]; rw [hr8] at hrz; exact hrz), hdf8, hb1, (by rw [hot]; exact hO14.weak (by intro g hg; have h3 : ((((((w8.heap.size ≤ g) ∧ g < w9.heap.size)) ∨ g = w13.heap.size)) ∧ g < w14.heap.size) := hg; show w8.heap.size ≤ g; omega)), hb3, hs5, hBo7, hBc7, hO7, hC7, HU⟩⟩
  ·rintro b c w9 (⟨rfl, h1, h2⟩ | ⟨rfl, h1⟩)
   ·exact Or.inl ⟨rfl, h1, h2⟩
   ·exact Or.inr ⟨rfl, h1⟩
 rintro e w17 ⟨v, rfl, hh | hh⟩
 ·obtain ⟨ga, gc, hrc8, hdf8, hb1, hOs, hb3, hs5, hBo7, hBc7, hO7, hC7, HU⟩ := (hJ8 _ _).1 hh
  have hrl8 := hrc8.lt
  refine ⟨r8, hrc8, (by rw [hr8]; simp), ?_⟩
  intro w18 hU18 hzz18
  have hzw18 := hU18.size
  replace hdf8 := hdf8.upd1 hU18 (by omega)
  replace hb1 := hb1.upd1 hU18 (by omega)
  replace hOs := hOs.upd1 hU18 (by intro h1; have h3 : w8.heap.size ≤ (D8 + 1) := h1; omega)
  replace hb3 := hb3.upd1 hU18 (by omega)
  replace HU := HU.trans1 hU18 (by show (False) ∨ w.heap.size ≤ (D8 + 1); omega)
  rw [hr8]
  rw [os_all l (by omega)] at hOs
  replace hOs := hOs.tight
  have hl_hOs := rlen encE_len (by decide) hOs.sl
  have hc_hOs := hOs.sl.cap.1
  refine W_seq ?_
  refine W_seq ?_
  refine W_region ?_
  refine Wl_load (v := .slice ga m7 gc) Try.isAgg135 rfl hb1 rfl ?_
  refine Wl_v (r_mkf1 (v0 := .pointer (some ⟨B3, 0, none⟩)) rfl) ?_
  refine Wl_call (r_call2 rfl Try.call101 rfl rfl) (filled_spec _ hOs.sl.any hb3 (by omega) (os_rng hr)) ?_
  rintro v w19 ⟨a19, c19, rfl, hO19, hU19⟩
  have hzw19 := hU19.size
  replace hdf8 := hdf8.upd0 hU19
  replace HU := HU.trans0 hU19
  replace hO19 := hO19.tight
  have hl_hO19 := rlen encE_len (by decide) hO19.sl
  have hc_hO19 := hO19.sl.cap.1
  refine Wl_v (r_as (v := .slice a19 ((fl (mx l) (os l)).length) c19) rfl) ?_
  refine Wl_v (r_as (v := .int .i64 0) rfl) ?_
  refine Wl_nil ?_
  refine W_ret ?_
  refine ret_ds rfl ?_
  refine lv_mark (by simp) hdf8 ?_
  intro w20 hU20 hzz20
  have hzw20 := hU20.size
  replace HU := HU.trans1 hU20 (by show (False) ∨ w.heap.size ≤ D8; omega)
  replace hO19 := hO19.upd1 hU20 (by intro h1; have h3 : ((w18.heap.size ≤ D8) ∧ D8 < w19.heap.size) := h1; omega)
  refine lv_nil (v := .tuple #[.slice a19 ((fl (mx l) (os l)).length) c19, .int .i64 0]) (res2 Try.results93 rfl rfl) ?_
  have hft := fl_mx hr
  rw [hft, tbl_len] at hO19
  exact ⟨_, rfl, a19, c19, (by rw [hft, tbl_len]), hO19.weak (by intro g hg; have h3 : ((w18.heap.size ≤ g) ∧ g < w19.heap.size) := hg; show w.heap.size ≤ g; omega), HU⟩
 ·exact ((hJx8 _).1 hh).elim

set_option maxRecDepth 100000 in
theorem entries_no {a : Option Addr} {n c : Nat} {l : List Int} {R : Nat → Prop} (w : World) (hs : Sl w R 1 (.slice a n c) n (ints .i64 l)) (hn : n ≤ 17592186044415) (hr : ¬ Rt l) :
  Calls Try.prog 93 #[.slice a n c] w (Ret fun v w' => v = .tuple #[.slice none 0 0, .int .i64 12] ∧ Upd No w w') := by
 have HU : Upd (fun b => False) w w := Upd.refl _ _
 have hl_hs := ilen hs
 have hc_hs := hs.cap.1
 replace hs := hs.tight
 refine calls_of_W Try.func93 rfl Try.ntmps93 (by simp) ?_
 refine W_seq ?_
 refine W_region ?_
 refine Wl_v (r_as (v := .slice none 0 0) rfl) ?_
 refine Wl_v (r_as (v := .int .i64 0) rfl) ?_
 refine Wl_nil ?_
 refine W_scopeg 0 rfl ?_
 refine W_seq ?_
 refine W_region ?_
 refine Wl_alloc (cs := [.slice none 0 0]) Try.zeroValue135 rfl ?_
 intro B1 w1 hB1 hU1 hzz1 hb1
 have hzw1 := hU1.size
 replace hs := hs.upd0 hU1
 replace HU := HU.trans0 hU1
 refine Wl_nil ?_
 refine W_seq ?_
 refine W_region ?_
 refine Wl_v (r_mv (v := .slice a n c) rfl) ?_
 refine Wl_call (r_call1 rfl Try.call94 rfl) (mlen_no _ hs (by omega) (by omega)) ?_
 rintro v w2 ⟨rfl, hU2⟩
 have hzw2 := hU2.size
 replace HU := HU.trans0 hU2
 refine Wl_v (r_mv (v := .tuple #[.int .i64 0, .int .i64 12]) rfl) ?_
 refine Wl_v (r_ext (v := .int .i64 0) rfl rfl) ?_
 refine Wl_v (r_ext (v := .int .i64 12) rfl rfl) ?_
 refine Wl_alloc (cs := [.int .i64 0]) Try.zeroValue3 rfl ?_
 intro B3 w3 hB3 hU3 hzz3 hb3
 have hzw3 := hU3.size
 replace HU := HU.trans0 hU3
 refine Wl_store (v := .int .i64 0) (cs' := [.int .i64 0]) Try.sizeOf3 rfl rfl rfl rfl hb3 rfl rfl ?_
 intro w4 hU4 hzz4 hb3n
 replace hb3 := hb3n; clear hb3n
 have hzw4 := hU4.size
 replace HU := HU.trans1 hU4 (by show (False) ∨ w.heap.size ≤ B3; omega)
 refine Wl_v (r_as (v := .int .i64 12) rfl) ?_
 refine Wl_nil ?_
 refine W_seq ?_
 refine W_seq ?_
 refine W_region ?_
 refine Wl_v (r_mv (v := .int .i64 12) rfl) ?_
 refine Wl_lit (pv := [(0, .int .i64 12)]) (cs := [.int .i64 12]) Try.underlying109 Try.sizeOf25 Try.zeroValue25 (by decide) (by decide) (by simp only [List.map_toArray, List.map_cons, List.map_nil] <;> rfl) (by kernel_rfl) rfl (by decide) ?_
 intro B5 w5 hB5 hU5 hzz5 hs5
 have hzw5 := hU5.size
 replace HU := HU.trans0 hU5
 replace hs5 : Own w5 (Is B5) 25 1 (.slice (some ⟨B5, 0, none⟩) 1 1) 1 (ints .i64 [12]) := hs5
 refine Wl_call (r_call1 rfl Try.call95 rfl) (refused_h (x := 12) _ hs5.sl.any (by omega) ⟨by decide, by decide, by decide⟩) ?_
 rintro v w6 ⟨rfl, hU6⟩
 have hzw6 := hU6.size
 replace HU := HU.trans0 hU6
 refine Wl_v (v := .bool true) (r_ne (a := 12) (b := 0) rfl rfl) ?_
 refine Wl_nil ?_
 refine W_cond_t rfl ?_
 refine W_goto ⟨rfl, ?_⟩
 refine W_seq ?_
 refine W_skip ?_
 refine W_seq ?_
 refine W_region ?_
 refine Wl_v (r_mv (v := .int .i64 12) rfl) ?_
 refine Wl_v (r_as (v := .slice none 0 0) rfl) ?_
 refine Wl_v (r_as (v := .int .i64 12) rfl) ?_
 refine Wl_nil ?_
 refine W_ret ?_
 refine ret_end (v := .tuple #[.slice none 0 0, .int .i64 12]) rfl (res2 Try.results93 rfl rfl) ?_
 exact ⟨_, rfl, rfl, HU⟩

set_option maxRecDepth 100000 in
theorem iclone {a : Option Addr} {n c : Nat} {l : List Int} (w : World) (hs : Sl w (fun g => g < w.heap.size) 1 (.slice a n c) n (ints .i64 l)) (hn : n ≤ 17592186044415) :
  Calls Try.prog 59 #[.slice a n c] w (Ret fun v w' => ∃ (a' : Option Addr) (c' : Nat), v = .slice a' n c' ∧ Own w' (fun g => w.heap.size ≤ g) 3 1 (.slice a' n c') n (ints .i64 l) ∧ Upd No w w') := by
 have HU : Upd (fun b => False) w w := Upd.refl _ _
 have hl_hs := ilen hs
 have hc_hs := hs.cap.1
 refine calls_of_W Try.func59 rfl Try.ntmps59 (by simp) ?_
 refine W_seq ?_
 refine W_region ?_
 refine Wl_v (r_as (v := .slice none 0 0) rfl) ?_
 refine Wl_nil ?_
 refine W_seq ?_
 refine W_seq ?_
 refine W_region ?_
 refine Wl_v (r_mv (v := .slice a n c) rfl) ?_
 refine Wl_v (r_eqsn Try.underlying22 rfl rfl) ?_
 refine Wl_nil ?_
 by_cases q1 : a = none
 ·rw [decide_eq_true q1]
  refine W_cond_t rfl ?_
  refine W_seq ?_
  refine W_region ?_
  refine Wl_v (r_as (v := .slice none 0 0) rfl) ?_
  refine Wl_nil ?_
  refine W_ret ?_
  refine ret_end (v := .slice none 0 0) rfl (res1 Try.results59 rfl) ?_
  obtain ⟨h0, h1⟩ := Sl.none_len (q1 ▸ hs)
  subst h0
  obtain rfl : l = [] := List.length_eq_zero_iff.1 hl_hs
  exact ⟨_, rfl, none, 0, rfl, Own.nil _ _ _ _, HU⟩
 ·rw [decide_eq_false q1]
  refine W_cond_f rfl ?_
  refine W_skip ?_
  refine W_seq ?_
  refine W_region ?_
  refine Wl_lit0 Try.underlying22 Try.sizeOf3 ?_
  intro B1 w1 hB1 hU1 hzz1 hs1
  have hzw1 := hU1.size
  replace hs := hs.upd0 hU1
  replace HU := HU.trans0 hU1
  refine Wl_v (r_mv (v := .slice a n c) rfl) ?_
  refine Wl_appendi (xs := []) (ys := l) (zs := l) (k' := .i64) (tot := n) (by first | rfl | exact (rows_app _ _).symm | simp) Try.underlying22 (ti := Try.t3) (z := .int .i64 0) (sz := 1) (by' := 8) rfl rfl rfl rfl rfl (by decide) rfl hs1 rfl hs  (by omega) (by simp only [maxLen]; omega) (by omega) ?_
  intro a2 c2 w2 hU2 hzz2 hO2
  clear hs1
  have hzw2 := hU2.size
  replace HU := HU.trans hU2 (by intro x hx; have hx2 : x = B1 := hx; show (False) ∨ w.heap.size ≤ x; omega)
  replace hO2 := hO2.tight
  have hl_hO2 := ilen hO2.sl
  have hc_hO2 := hO2.sl.cap.1
  refine Wl_v (r_as (v := .slice a2 n c2) rfl) ?_
  refine Wl_nil ?_
  refine W_ret ?_
  refine ret_end (v := .slice a2 n c2) rfl (res1 Try.results59 rfl) ?_
  exact ⟨_, rfl, a2, c2, rfl, (hO2.weak (by intro g hg; have h3 : ((((g = B1) ∨ g = w1.heap.size)) ∧ g < w2.heap.size) := hg; show w.heap.size ≤ g; omega)), HU⟩

set_option maxHeartbeats 1000000 in
set_option maxRecDepth 100000 in
theorem new_ok {a : Option Addr} {n c : Nat} {l : List Int} {R : Nat → Prop} (w : World) (hs : Sl w R 1 (.slice a n c) n (ints .i64 l)) (hn : n ≤ 17592186044415) (hr : Rt l) :
  Calls Try.prog 85 #[.slice a n c] w (Ret fun v w' => ∃ (tb : Nat) (ea : Option Addr) (ec : Nat) (la : Option Addr) (lc : Nat), v = .tuple #[.pointer (some ⟨tb, 0, none⟩), .int .i64 0] ∧ Blk w' tb [.slice ea (2 ^ bt l) ec, .int .i64 ((bt l : Nat) : Int), .slice la n lc] ∧ Own w' (fun g => w.heap.size ≤ g ∧ g ≠ tb) 134 2 (.slice ea (2 ^ bt l) ec) (2 ^ bt l) (rows encE (tbl l)) ∧ Own w' (fun g => w.heap.size ≤ g ∧ g ≠ tb) 3 1 (.slice la n lc) n (ints .i64 l) ∧ w.heap.size ≤ tb ∧ Upd No w w') := by
 have HU : Upd (fun b => False) w w := Upd.refl _ _
 have hl_hs := ilen hs
 have hc_hs := hs.cap.1
 replace hs := hs.tight
 have h256 := hr.2.1
 have hbt := bt_bd hr
 refine calls_of_W Try.func85 rfl Try.ntmps85 (by simp) ?_
 refine W_seq ?_
 refine W_region ?_
 refine Wl_v (r_as (v := .pointer none) rfl) ?_
 refine Wl_v (r_as (v := .int .i64 0) rfl) ?_
 refine Wl_nil ?_
 refine W_seq ?_
 refine W_region ?_
 refine Wl_v (r_mv (v := .slice a n c) rfl) ?_
 refine Wl_call (r_call1 rfl Try.call93 rfl) (entries_ok _ hs (by omega) (by omega)) ?_
 rintro v w1 ⟨a1, c1, rfl, hO1, hU1⟩
 have hzw1 := hU1.size
 replace hs := hs.upd0 hU1
 replace HU := HU.trans0 hU1
 replace hO1 := hO1.tight
 have hl_hO1 := rlen encE_len (by decide) hO1.sl
 have hc_hO1 := hO1.sl.cap.1
 refine Wl_v (r_mv (v := .tuple #[.slice a1 (2 ^ bt l) c1, .int .i64 0]) rfl) ?_
 refine Wl_v (r_ext (v := .slice a1 (2 ^ bt l) c1) rfl rfl) ?_
 refine Wl_v (r_ext (v := .int .i64 0) rfl rfl) ?_
 refine Wl_v (r_as (v := .slice a1 (2 ^ bt l) c1) rfl) ?_
 refine Wl_v (r_as (v := .int .i64 0) rfl) ?_
 refine Wl_nil ?_
 refine W_seq ?_
 refine W_region ?_
 refine Wl_v (r_mv (v := .slice a n c) rfl) ?_
 refine Wl_call (r_call1 rfl Try.call94 rfl) (mlen_ok _ hs (by omega) (by omega)) ?_
 rintro v w2 ⟨rfl, hU2⟩
 have hzw2 := hU2.size
 replace hs := hs.upd0 hU2
 replace HU := HU.trans0 hU2
 replace hO1 := hO1.upd0 hU2
 refine Wl_v (r_mv (v := .tuple #[.int .i64 (mx l), .int .i64 0]) rfl) ?_
 refine Wl_v (r_ext (v := .int .i64 (mx l)) rfl rfl) ?_
 refine Wl_v (r_ext (v := .int .i64 0) rfl rfl) ?_
 refine Wl_v (r_as (v := .int .i64 (mx l)) rfl) ?_
 refine Wl_v (r_as (v := .int .i64 0) rfl) ?_
 refine Wl_nil ?_
 refine W_seq ?_
 refine W_seq ?_
 refine W_region ?_
 refine Wl_v (r_mv (v := .int .i64 0) rfl) ?_
 refine Wl_v (r_mv (v := .int .i64 0) rfl) ?_
 refine Wl_lit (pv := [(0, .int .i64 0), (1, .int .i64 0)]) (cs := [.int .i64 0, .int .i64 0]) Try.underlying109 Try.sizeOf25 Try.zeroValue25 (by decide) (by decide) (by simp only [List.map_toArray, List.map_cons, List.map_nil] <;> rfl) (by kernel_rfl) rfl (by decide) ?_
 intro B3 w3 hB3 hU3 hzz3 hs3
 have hzw3 := hU3.size
 replace hs := hs.upd0 hU3
 replace HU := HU.trans0 hU3
 replace hO1 := hO1.upd0 hU3
 replace hs3 : Own w3 (Is B3) 25 1 (.slice (some ⟨B3, 0, none⟩) 2 2) 2 (ints .i64 [0, 0]) := hs3
 refine Wl_call (r_call1 rfl Try.call95 rfl) (refused_0 _ hs3.sl.any (by omega) z3) ?_
 rintro v w4 ⟨rfl, hU4⟩
 have hzw4 := hU4.size
 replace hs := hs.upd0 hU4
 replace HU := HU.trans0 hU4
 replace hO1 := hO1.upd0 hU4
 refine Wl_v (r_as (v := .int .i64 0) rfl) ?_
 refine Wl_nil ?_
 refine W_seq ?_
 refine W_region ?_
 refine Wl_v (r_mv (v := .int .i64 0) rfl) ?_
 refine Wl_v (v := .bool false) (r_ne (a := 0) (b := 0) rfl rfl) ?_
 refine Wl_nil ?_
 refine W_cond_f rfl ?_
 refine W_skip ?_
 refine W_seq ?_
 refine W_region ?_
 refine Wl_v (r_mv (v := .slice a1 (2 ^ bt l) c1) rfl) ?_
 refine Wl_v (r_mv (v := .int .i64 (mx l)) rfl) ?_
 refine Wl_v (r_mv (v := .slice a n c) rfl) ?_
 refine Wl_v (r_mv (v := .slice a n c) rfl) ?_
 refine Wl_v (r_len Try.underlying22 rfl) ?_
 refine Wl_v (r_mv (v := .slice a n c) rfl) ?_
 refine Wl_v (r_len Try.underlying22 rfl) ?_
 refine Wl_v (r_slice3 (h' := n) (q' := n) Try.underlying22 Try.sizeOf3 rfl rfl rfl (by omega) (by omega) (by omega) (by omega)) ?_
 have hT5 := Sl.recap (q := n) hs (by omega) (by simp only [maxLen]; omega)
 have hl_hT5 := ilen hT5
 have hc_hT5 := hT5.cap.1
 refine Wl_call (r_call1 rfl Try.call59 rfl) (iclone _ hT5.any (by omega)) ?_
 rintro v w6 ⟨a6, c6, rfl, hO6, hU6⟩
 have hzw6 := hU6.size
 replace HU := HU.trans0 hU6
 replace hO1 := hO1.upd0 hU6
 replace hO6 := hO6.tight
 have hl_hO6 := ilen hO6.sl
 have hc_hO6 := hO6.sl.cap.1
 refine Wl_v (r_build (pl := #[(0, 1), (1, 1), (2, 1)]) (pv := [(0, .slice a1 (2 ^ bt l) c1), (1, .int .i64 (mx l)), (2, .slice a6 n c6)]) (cs := #[.slice a1 (2 ^ bt l) c1, .int .i64 (mx l), .slice a6 n c6]) Try.zeroValue138 Try.underlying138 (fun w => by kernel_rfl) (by simp only [List.map_toArray, List.map_cons, List.map_nil] <;> rfl) (by kernel_rfl)) ?_
 refine Wl_box (v := .agg #[.slice a1 (2 ^ bt l) c1, .int .i64 (mx l), .slice a6 n c6]) (cs := [.slice a1 (2 ^ bt l) c1, .int .i64 (mx l), .slice a6 n c6]) rfl rfl ?_
 intro B7 w7 hB7 hU7 hzz7 hb7
 have hzw7 := hU7.size
 replace HU := HU.trans0 hU7
 replace hO1 := hO1.upd0 hU7
 replace hO6 := hO6.upd0 hU7
 refine Wl_v (r_as (v := .pointer (some ⟨B7, 0, none⟩)) rfl) ?_
 refine Wl_v (r_as (v := .int .i64 0) rfl) ?_
 refine Wl_nil ?_
 refine W_ret ?_
 refine ret_end (v := .tuple #[.pointer (some ⟨B7, 0, none⟩), .int .i64 0]) rfl (res2 Try.results85 rfl rfl) ?_
 have hm := mx_bt l
 rw [hm] at hb7
 exact ⟨_, rfl, _, _, _, _, _, rfl, hb7, hO1.weak (by intro g hg; have h3 : ((w.heap.size ≤ g) ∧ g < w1.heap.size) := hg; show _ ∧ _; omega), hO6.weak (by intro g hg; have h3 : ((w4.heap.size ≤ g) ∧ g < w6.heap.size) := hg; show _ ∧ _; omega), by omega, HU⟩

set_option maxRecDepth 100000 in
theorem new_no {a : Option Addr} {n c : Nat} {l : List Int} {R : Nat → Prop} (w : World) (hs : Sl w R 1 (.slice a n c) n (ints .i64 l)) (hn : n ≤ 17592186044415) (hr : ¬ Rt l) :
  Calls Try.prog 85 #[.slice a n c] w (Ret fun v w' => v = .tuple #[.pointer none, .int .i64 12] ∧ Upd No w w') := by
 have HU : Upd (fun b => False) w w := Upd.refl _ _
 have hl_hs := ilen hs
 have hc_hs := hs.cap.1
 replace hs := hs.tight
 refine calls_of_W Try.func85 rfl Try.ntmps85 (by simp) ?_
 refine W_seq ?_
 refine W_region ?_
 refine Wl_v (r_as (v := .pointer none) rfl) ?_
 refine Wl_v (r_as (v := .int .i64 0) rfl) ?_
 refine Wl_nil ?_
 refine W_seq ?_
 refine W_region ?_
 refine Wl_v (r_mv (v := .slice a n c) rfl) ?_
 refine Wl_call (r_call1 rfl Try.call93 rfl) (entries_no _ hs (by omega) (by omega)) ?_
 rintro v w1 ⟨rfl, hU1⟩
 have hzw1 := hU1.size
 replace hs := hs.upd0 hU1
 replace HU := HU.trans0 hU1
 refine Wl_v (r_mv (v := .tuple #[.slice none 0 0, .int .i64 12]) rfl) ?_
 refine Wl_v (r_ext (v := .slice none 0 0) rfl rfl) ?_
 refine Wl_v (r_ext (v := .int .i64 12) rfl rfl) ?_
 refine Wl_v (r_as (v := .slice none 0 0) rfl) ?_
 refine Wl_v (r_as (v := .int .i64 12) rfl) ?_
 refine Wl_nil ?_
 refine W_seq ?_
 refine W_region ?_
 refine Wl_v (r_mv (v := .slice a n c) rfl) ?_
 refine Wl_call (r_call1 rfl Try.call94 rfl) (mlen_no _ hs (by omega) (by omega)) ?_
 rintro v w2 ⟨rfl, hU2⟩
 have hzw2 := hU2.size
 replace HU := HU.trans0 hU2
 refine Wl_v (r_mv (v := .tuple #[.int .i64 0, .int .i64 12]) rfl) ?_
 refine Wl_v (r_ext (v := .int .i64 0) rfl rfl) ?_
 refine Wl_v (r_ext (v := .int .i64 12) rfl rfl) ?_
 refine Wl_v (r_as (v := .int .i64 0) rfl) ?_
 refine Wl_v (r_as (v := .int .i64 12) rfl) ?_
 refine Wl_nil ?_
 refine W_seq ?_
 refine W_seq ?_
 refine W_region ?_
 refine Wl_v (r_mv (v := .int .i64 12) rfl) ?_
 refine Wl_v (r_mv (v := .int .i64 12) rfl) ?_
 refine Wl_lit (pv := [(0, .int .i64 12), (1, .int .i64 12)]) (cs := [.int .i64 12, .int .i64 12]) Try.underlying109 Try.sizeOf25 Try.zeroValue25 (by decide) (by decide) (by simp only [List.map_toArray, List.map_cons, List.map_nil] <;> rfl) (by kernel_rfl) rfl (by decide) ?_
 intro B3 w3 hB3 hU3 hzz3 hs3
 have hzw3 := hU3.size
 replace HU := HU.trans0 hU3
 replace hs3 : Own w3 (Is B3) 25 1 (.slice (some ⟨B3, 0, none⟩) 2 2) 2 (ints .i64 [12, 12]) := hs3
 refine Wl_call (r_call1 rfl Try.call95 rfl) (refused_h (x := 12) _ hs3.sl.any (by omega) ⟨by decide, by decide, by decide⟩) ?_
 rintro v w4 ⟨rfl, hU4⟩
 have hzw4 := hU4.size
 replace HU := HU.trans0 hU4
 refine Wl_v (r_as (v := .int .i64 12) rfl) ?_
 refine Wl_nil ?_
 refine W_seq ?_
 refine W_region ?_
 refine Wl_v (r_mv (v := .int .i64 12) rfl) ?_
 refine Wl_v (v := .bool true) (r_ne (a := 12) (b := 0) rfl rfl) ?_
 refine Wl_nil ?_
 refine W_cond_t rfl ?_
 refine W_seq ?_
 refine W_region ?_
 refine Wl_v (r_mv (v := .int .i64 12) rfl) ?_
 refine Wl_v (r_as (v := .pointer none) rfl) ?_
 refine Wl_v (r_as (v := .int .i64 12) rfl) ?_
 refine Wl_nil ?_
 refine W_ret ?_
 refine ret_end (v := .tuple #[.pointer none, .int .i64 12]) rfl (res2 Try.results85 rfl rfl) ?_
 exact ⟨_, rfl, rfl, HU⟩

set_option maxRecDepth 100000 in
theorem none_ok {tb : Nat} {nb : Int} {xe xl : Value} (w : World) (hT : Blk w tb [xe, .int .i64 nb, xl]) (hnb : nb ≠ 0) :
  Calls Try.prog 87 #[.pointer (some ⟨tb, 0, none⟩)] w (Ret fun v w' => v = .bool false ∧ Upd No w w') := by
 have HU : Upd (fun b => False) w w := Upd.refl _ _
 have hbl_hT := hT.lt
 refine calls_of_W Try.func87 rfl Try.ntmps87 (by simp) ?_
 refine W_seq ?_
 refine W_region ?_
 refine Wl_v (r_as (v := .bool false) rfl) ?_
 refine Wl_nil ?_
 refine W_seq ?_
 refine W_region ?_
 refine Wl_v (r_mv (v := .pointer (some ⟨tb, 0, none⟩)) rfl) ?_
 refine Wl_v (r_eqpn_s Try.underlying79 rfl rfl) ?_
 refine Wl_v (r_mv (v := .bool false) rfl) ?_
 refine Wl_guard_t rfl ?_
 refine Wl_v (r_mv (v := .pointer (some ⟨tb, 0, none⟩)) rfl) ?_
 refine Wl_guard_t rfl ?_
 refine Wl_v (r_nil rfl) ?_
 refine Wl_guard_t rfl ?_
 refine Wl_v (r_fld Try.underlying138 rfl Try.sizeOf3 rfl rfl) ?_
 refine Wl_guard_t rfl ?_
 refine Wl_load (v := .int .i64 nb) Try.isAgg3 rfl hT rfl ?_
 refine Wl_guard_t rfl ?_
 refine Wl_v (r_eq rfl rfl) ?_
 refine Wl_v (r_pick_f (v := .bool (decide (nb = 0))) rfl rfl) ?_
 refine Wl_v (r_as (v := .bool (decide (nb = 0))) rfl) ?_
 refine Wl_nil ?_
 refine W_ret ?_
 refine ret_end (v := .bool (decide (nb = 0))) rfl (res1 Try.results87 rfl) ?_
 exact ⟨_, rfl, (by rw [decide_eq_false hnb]), HU⟩

set_option maxRecDepth 100000 in
theorem none_zero {tb : Nat} {xe xl : Value} (w : World) (hT : Blk w tb [xe, .int .i64 0, xl]) :
  Calls Try.prog 87 #[.pointer (some ⟨tb, 0, none⟩)] w (Ret fun v w' => v = .bool true ∧ Upd No w w') := by
 have HU : Upd (fun b => False) w w := Upd.refl _ _
 have hbl_hT := hT.lt
 refine calls_of_W Try.func87 rfl Try.ntmps87 (by simp) ?_
 refine W_seq ?_
 refine W_region ?_
 refine Wl_v (r_as (v := .bool false) rfl) ?_
 refine Wl_nil ?_
 refine W_seq ?_
 refine W_region ?_
 refine Wl_v (r_mv (v := .pointer (some ⟨tb, 0, none⟩)) rfl) ?_
 refine Wl_v (r_eqpn_s Try.underlying79 rfl rfl) ?_
 refine Wl_v (r_mv (v := .bool false) rfl) ?_
 refine Wl_guard_t rfl ?_
 refine Wl_v (r_mv (v := .pointer (some ⟨tb, 0, none⟩)) rfl) ?_
 refine Wl_guard_t rfl ?_
 refine Wl_v (r_nil rfl) ?_
 refine Wl_guard_t rfl ?_
 refine Wl_v (r_fld Try.underlying138 rfl Try.sizeOf3 rfl rfl) ?_
 refine Wl_guard_t rfl ?_
 refine Wl_load (v := .int .i64 0) Try.isAgg3 rfl hT rfl ?_
 refine Wl_guard_t rfl ?_
 refine Wl_v (v := .bool true) (r_eq (a := 0) (b := 0) rfl rfl) ?_
 refine Wl_v (r_pick_f (v := .bool true) rfl rfl) ?_
 refine Wl_v (r_as (v := .bool true) rfl) ?_
 refine Wl_nil ?_
 refine W_ret ?_
 refine ret_end (v := .bool true) rfl (res1 Try.results87 rfl) ?_
 exact ⟨_, rfl, rfl, HU⟩

set_option maxRecDepth 100000 in
theorem none_nil  (w : World)  :
  Calls Try.prog 87 #[.pointer none] w (Ret fun v w' => v = .bool true ∧ Upd No w w') := by
 have HU : Upd (fun b => False) w w := Upd.refl _ _
 refine calls_of_W Try.func87 rfl Try.ntmps87 (by simp) ?_
 refine W_seq ?_
 refine W_region ?_
 refine Wl_v (r_as (v := .bool false) rfl) ?_
 refine Wl_nil ?_
 refine W_seq ?_
 refine W_region ?_
 refine Wl_v (r_mv (v := .pointer none) rfl) ?_
 refine Wl_v (r_eqpn_n Try.underlying79 rfl rfl) ?_
 refine Wl_v (r_mv (v := .bool true) rfl) ?_
 refine Wl_guard_f rfl ?_
 refine Wl_guard_f rfl ?_
 refine Wl_guard_f rfl ?_
 refine Wl_guard_f rfl ?_
 refine Wl_guard_f rfl ?_
 refine Wl_v (r_pick_t (v := .bool true) rfl rfl) ?_
 refine Wl_v (r_as (v := .bool true) rfl) ?_
 refine Wl_nil ?_
 refine W_ret ?_
 refine ret_end (v := .bool true) rfl (res1 Try.results87 rfl) ?_
 exact ⟨_, rfl, rfl, HU⟩

set_option maxRecDepth 100000 in
theorem dec_zero {tb : Nat} {xe xl : Value} {bits m : Int} (w : World) (hT : Blk w tb [xe, .int .i64 0, xl]) :
  Calls Try.prog 75 #[.pointer (some ⟨tb, 0, none⟩), .int .u64 bits, .int .i64 m] w (Ret fun v w' => v = .tuple #[.int .i64 0, .int .i64 0, .int .i64 1] ∧ Upd No w w') := by
 have HU : Upd (fun b => False) w w := Upd.refl _ _
 have hbl_hT := hT.lt
 refine calls_of_W Try.func75 rfl Try.ntmps75 (by simp) ?_
 refine W_seq ?_
 refine W_region ?_
 refine Wl_v (r_as (v := .int .i64 0) rfl) ?_
 refine Wl_v (r_as (v := .int .i64 0) rfl) ?_
 refine Wl_v (r_as (v := .int .i64 0) rfl) ?_
 refine Wl_nil ?_
 refine W_seq ?_
 refine W_block ?_
 refine W_seq ?_
 refine W_region ?_
 refine Wl_v (r_mv (v := .pointer (some ⟨tb, 0, none⟩)) rfl) ?_
 refine Wl_call (r_call1 rfl Try.call87 rfl) (none_zero _ hT) ?_
 rintro v w1 ⟨rfl, hU1⟩
 have hzw1 := hU1.size
 replace HU := HU.trans0 hU1
 refine Wl_v (r_as (v := .bool true) rfl) ?_
 refine Wl_nil ?_
 refine W_cond_t rfl ?_
 refine W_seq ?_
 refine W_region ?_
 refine Wl_v (r_as (v := .int .i64 0) rfl) ?_
 refine Wl_v (r_as (v := .int .i64 0) rfl) ?_
 refine Wl_v (r_as (v := .int .i64 1) rfl) ?_
 refine Wl_nil ?_
 refine W_ret ?_
 refine ret_end (v := .tuple #[.int .i64 0, .int .i64 0, .int .i64 1]) rfl (res3 Try.results75 rfl rfl rfl) ?_
 exact ⟨_, rfl, rfl, HU⟩

set_option maxRecDepth 100000 in
theorem dec_nil  {bits m : Int} (w : World)  :
  Calls Try.prog 75 #[.pointer none, .int .u64 bits, .int .i64 m] w (Ret fun v w' => v = .tuple #[.int .i64 0, .int .i64 0, .int .i64 1] ∧ Upd No w w') := by
 have HU : Upd (fun b => False) w w := Upd.refl _ _
 refine calls_of_W Try.func75 rfl Try.ntmps75 (by simp) ?_
 refine W_seq ?_
 refine W_region ?_
 refine Wl_v (r_as (v := .int .i64 0) rfl) ?_
 refine Wl_v (r_as (v := .int .i64 0) rfl) ?_
 refine Wl_v (r_as (v := .int .i64 0) rfl) ?_
 refine Wl_nil ?_
 refine W_seq ?_
 refine W_block ?_
 refine W_seq ?_
 refine W_region ?_
 refine Wl_v (r_mv (v := .pointer none) rfl) ?_
 refine Wl_call (r_call1 rfl Try.call87 rfl) (none_nil _ ) ?_
 rintro v w1 ⟨rfl, hU1⟩
 have hzw1 := hU1.size
 replace HU := HU.trans0 hU1
 refine Wl_v (r_as (v := .bool true) rfl) ?_
 refine Wl_nil ?_
 refine W_cond_t rfl ?_
 refine W_seq ?_
 refine W_region ?_
 refine Wl_v (r_as (v := .int .i64 0) rfl) ?_
 refine Wl_v (r_as (v := .int .i64 0) rfl) ?_
 refine Wl_v (r_as (v := .int .i64 1) rfl) ?_
 refine Wl_nil ?_
 refine W_ret ?_
 refine ret_end (v := .tuple #[.int .i64 0, .int .i64 0, .int .i64 1]) rfl (res3 Try.results75 rfl rfl rfl) ?_
 exact ⟨_, rfl, rfl, HU⟩

end Go.Proofs.Ytilegaokfamfnaa
