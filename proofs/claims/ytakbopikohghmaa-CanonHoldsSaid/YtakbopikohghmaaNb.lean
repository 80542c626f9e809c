/-
  Walks, printed by a small program of this project (gen.py).
-/
import Derived.Test.YtakbopikohghmaaNa
set_option linter.unusedVariables false
set_option linter.unusedSimpArgs false
namespace Go.Proofs.Ytakbopikohghmaa
open Go.Fw

set_option maxHeartbeats 2000000 in
set_option maxRecDepth 100000 in
theorem canonrises {a : Option Addr} {n c : Nat} {l : List Int} {many : Int} (w : World) (hs : Sl w (fun g => g < w.heap.size) 1 (.slice a n c) n (ints .i64 l)) (hn : n ≤ 17592186044415) (hmany : -9223372036854775808 ≤ many ∧ many ≤ 9223372036854775807) :
    Calls Try.prog 10 #[.slice a n c, .int .i64 many] w (Ret fun v w' => v = .bool true ∧ Upd No w w') := by
  have HU : Upd (fun b => False) w w := Upd.refl _ _
  have hl_hs := ilen hs
  have hc_hs := hs.cap.1
  refine calls_of_W Try.func10 rfl Try.ntmps10 (by simp) ?_
  refine W_seq ?_
  refine W_region ?_
  refine Wl_box (v := .int .i64 many) (cs := [.int .i64 many]) rfl rfl ?_
  intro B1 w1 hB1 hU1 hzz1 hb1
  have hzw1 := hU1.size
  replace hs := hs.upd0 hU1
  replace HU := HU.trans0 hU1
  refine Wl_alloc (cs := [.bool false]) Try.zeroValue4 rfl ?_
  intro B2 w2 hB2 hU2 hzz2 hb2
  have hzw2 := hU2.size
  replace hs := hs.upd0 hU2
  replace HU := HU.trans0 hU2
  replace hb1 := hb1.upd0 hU2
  refine Wl_nil ?_
  refine W_seq ?_
  refine W_seq ?_
  refine W_region ?_
  refine Wl_v (r_mv (v := .slice a n c) rfl) ?_
  refine Wl_v (r_len Try.underlying22 rfl) ?_
  refine Wl_v (r_gt rfl rfl) ?_
  refine Wl_nil ?_
  by_cases q1 : 400 < ((n : Nat) : Int)
  · rw [decide_eq_true q1]
    refine W_cond_t rfl ?_
    refine W_seq ?_
    refine W_region ?_
    refine Wl_call (r_call0 rfl Try.call12 ) (works_spec _ ) ?_
    rintro v w3 ⟨rfl, hU3⟩
    have hzw3 := hU3.size
    replace hs := hs.upd0 hU3
    replace HU := HU.trans0 hU3
    replace hb1 := hb1.upd0 hU3
    replace hb2 := hb2.upd0 hU3
    refine Wl_store (v := .bool true) (cs' := [.bool true]) Try.sizeOf4 rfl rfl rfl rfl hb2 rfl rfl ?_
    intro w4 hU4 hzz4 hb2n
    replace hb2 := hb2n; clear hb2n
    have hzw4 := hU4.size
    replace hs := hs.upd1 hU4 (by intro h1; have h3 : B2 < w.heap.size := h1; omega)
    replace HU := HU.trans1 hU4 (by show (False) ∨ w.heap.size ≤ B2; omega)
    replace hb1 := hb1.upd1 hU4 (by omega)
    refine Wl_nil ?_
    refine W_ret ?_
    refine ret_end (v := .bool true) rfl (rc1 Try.results10 rfl (cellIs Try.isAgg4 hb2)) ?_
    exact ⟨_, rfl, rfl, HU⟩
  · rw [decide_eq_false q1]
    refine W_cond_f rfl ?_
    refine W_skip ?_
    refine W_seq ?_
    refine W_region ?_
    refine Wl_v (r_mv (v := .slice a n c) rfl) ?_
    by_cases q2 : Rt l
    · refine Wl_call (r_call1 rfl Try.call17 rfl) (rcodes_ok _ hs (by omega) q2) ?_
      rintro v w5 ⟨a5, c5, rfl, hO5, hU5⟩
      have hzw5 := hU5.size
      replace hs := hs.upd0 hU5
      replace HU := HU.trans0 hU5
      replace hb1 := hb1.upd0 hU5
      replace hb2 := hb2.upd0 hU5
      replace hO5 := hO5.tight
      have hl_hO5 := rlen encC_len (by decide) hO5.sl
      have hc_hO5 := hO5.sl.cap.1
      refine Wl_v (r_mv (v := .tuple #[.slice a5 n c5, .int .i64 0]) rfl) ?_
      refine Wl_v (r_ext (v := .slice a5 n c5) rfl rfl) ?_
      refine Wl_v (r_ext (v := .int .i64 0) rfl rfl) ?_
      refine Wl_alloc (cs := [.slice none 0 0]) Try.zeroValue28 rfl ?_
      intro B6 w6 hB6 hU6 hzz6 hb6
      have hzw6 := hU6.size
      replace hs := hs.upd0 hU6
      replace HU := HU.trans0 hU6
      replace hb1 := hb1.upd0 hU6
      replace hb2 := hb2.upd0 hU6
      replace hO5 := hO5.upd0 hU6
      refine Wl_store (v := .slice a5 n c5) (cs' := [.slice a5 n c5]) Try.sizeOf28 rfl rfl rfl rfl hb6 rfl rfl ?_
      intro w7 hU7 hzz7 hb6n
      replace hb6 := hb6n; clear hb6n
      have hzw7 := hU7.size
      replace hs := hs.upd1 hU7 (by intro h1; have h3 : B6 < w.heap.size := h1; omega)
      replace HU := HU.trans1 hU7 (by show (False) ∨ w.heap.size ≤ B6; omega)
      replace hb1 := hb1.upd1 hU7 (by omega)
      replace hb2 := hb2.upd1 hU7 (by omega)
      replace hO5 := hO5.upd1 hU7 (by intro h1; have h3 : ((w2.heap.size ≤ B6) ∧ B6 < w5.heap.size) := h1; omega)
      refine Wl_v (r_as (v := .int .i64 0) rfl) ?_
      refine Wl_nil ?_
      refine W_seq ?_
      refine W_region ?_
      refine Wl_alloc (cs := [.slice none 0 0]) Try.zeroValue22 rfl ?_
      intro B8 w8 hB8 hU8 hzz8 hb8
      have hzw8 := hU8.size
      replace hs := hs.upd0 hU8
      replace HU := HU.trans0 hU8
      replace hb1 := hb1.upd0 hU8
      replace hb2 := hb2.upd0 hU8
      replace hO5 := hO5.upd0 hU8
      replace hb6 := hb6.upd0 hU8
      refine Wl_nil ?_
      refine W_seq ?_
      refine W_seq ?_
      refine W_region ?_
      refine Wl_v (r_mv (v := .int .i64 0) rfl) ?_
      refine Wl_v (v := .bool true) (r_eq (a := 0) (b := 0) rfl rfl) ?_
      refine Wl_nil ?_
      refine W_cond_t rfl ?_
      refine W_region ?_
      refine Wl_v (r_mv (v := .slice a n c) rfl) ?_
      refine Wl_call (r_call1 rfl Try.call31 rfl) (order_spec _ hs (by omega)) ?_
      rintro v w9 ⟨a9, m9, c9, rfl, hO9, hU9⟩
      have hzw9 := hU9.size
      replace hs := hs.upd0 hU9
      replace HU := HU.trans0 hU9
      replace hb1 := hb1.upd0 hU9
      replace hb2 := hb2.upd0 hU9
      replace hO5 := hO5.upd0 hU9
      replace hb6 := hb6.upd0 hU9
      replace hb8 := hb8.upd0 hU9
      replace hO9 := hO9.tight
      have hl_hO9 := ilen hO9.sl
      have hc_hO9 := hO9.sl.cap.1
      refine Wl_store (v := .slice a9 m9 c9) (cs' := [.slice a9 m9 c9]) Try.sizeOf22 rfl rfl rfl rfl hb8 rfl rfl ?_
      intro w10 hU10 hzz10 hb8n
      replace hb8 := hb8n; clear hb8n
      have hzw10 := hU10.size
      replace hs := hs.upd1 hU10 (by intro h1; have h3 : B8 < w.heap.size := h1; omega)
      replace HU := HU.trans1 hU10 (by show (False) ∨ w.heap.size ≤ B8; omega)
      replace hb1 := hb1.upd1 hU10 (by omega)
      replace hb2 := hb2.upd1 hU10 (by omega)
      replace hO5 := hO5.upd1 hU10 (by intro h1; have h3 : ((w2.heap.size ≤ B8) ∧ B8 < w5.heap.size) := h1; omega)
      replace hb6 := hb6.upd1 hU10 (by omega)
      replace hO9 := hO9.upd1 hU10 (by intro h1; have h3 : ((w8.heap.size ≤ B8) ∧ B8 < w9.heap.size) := h1; omega)
      refine Wl_nil ?_
      refine W_seq ?_
      refine W_region ?_
      refine Wl_lit0 Try.underlying22 Try.sizeOf3 ?_
      intro B11 w11 hB11 hU11 hzz11 hs11
      have hzw11 := hU11.size
      replace hs := hs.upd0 hU11
      replace HU := HU.trans0 hU11
      replace hb1 := hb1.upd0 hU11
      replace hb2 := hb2.upd0 hU11
      replace hO5 := hO5.upd0 hU11
      replace hb6 := hb6.upd0 hU11
      replace hb8 := hb8.upd0 hU11
      replace hO9 := hO9.upd0 hU11
      refine Wl_v (r_mv (v := .slice a n c) rfl) ?_
      refine Wl_appendi (xs := []) (ys := l) (zs := l) (k' := .i64) (tot := n) (by first | rfl | simp) Try.underlying22 (ti := Try.t3) (z := .int .i64 0) (sz := 1) (by' := 8) rfl rfl rfl rfl rfl (by decide) rfl hs11 rfl hs  (by omega) (by simp only [maxLen]; omega) (by omega) ?_
      intro a12 c12 w12 hU12 hzz12 hO12
      clear hs11
      have hzw12 := hU12.size
      replace hs := hs.upd hU12 (by intro x h1 h2; have h3 : x < w.heap.size := h1; have h4 : x = B11 := h2; omega)
      replace HU := HU.trans hU12 (by intro x hx; have hx2 : x = B11 := hx; show (False) ∨ w.heap.size ≤ x; omega)
      replace hb1 := hb1.upd hU12 (by intro hx; have hx2 : B1 = B11 := hx; omega)
      replace hb2 := hb2.upd hU12 (by intro hx; have hx2 : B2 = B11 := hx; omega)
      replace hO5 := hO5.upd hU12 (by intro x h1 h2; have h3 : ((w2.heap.size ≤ x) ∧ x < w5.heap.size) := h1; have h4 : x = B11 := h2; omega)
      replace hb6 := hb6.upd hU12 (by intro hx; have hx2 : B6 = B11 := hx; omega)
      replace hb8 := hb8.upd hU12 (by intro hx; have hx2 : B8 = B11 := hx; omega)
      replace hO9 := hO9.upd hU12 (by intro x h1 h2; have h3 : ((w8.heap.size ≤ x) ∧ x < w9.heap.size) := h1; have h4 : x = B11 := h2; omega)
      replace hO12 := hO12.tight
      have hl_hO12 := ilen hO12.sl
      have hc_hO12 := hO12.sl.cap.1
      refine Wl_v (r_as (v := .slice a12 n c12) rfl) ?_
      refine Wl_nil ?_
      refine W_seq ?_
      refine W_region ?_
      refine Wl_v (r_mv (v := .slice a12 n c12) rfl) ?_
      refine Wl_call (r_call1 rfl Try.call32 rfl) (all_spec _ hO12.sl (by omega)) ?_
      rintro v w13 ⟨Bo13, Bc13, a13, m13, c13, b13, n13, d13, rfl, hBo13, hBc13, hO13, hC13, hb1_13, hb2_13, hU13⟩
      have hzw13 := hU13.size
      replace hs := hs.upd0 hU13
      replace HU := HU.trans0 hU13
      replace hb1 := hb1.upd0 hU13
      replace hb2 := hb2.upd0 hU13
      replace hO5 := hO5.upd0 hU13
      replace hb6 := hb6.upd0 hU13
      replace hb8 := hb8.upd0 hU13
      replace hO9 := hO9.upd0 hU13
      replace hO12 := hO12.upd0 hU13
      have hbl_hBo13 := hBo13.lt
      have hbl_hBc13 := hBc13.lt
      replace hO13 := hO13.tight
      have hl_hO13 := ilen hO13.sl
      have hc_hO13 := hO13.sl.cap.1
      replace hC13 := hC13.tight
      have hl_hC13 := rlen encC_len (by decide) hC13.sl
      have hc_hC13 := hC13.sl.cap.1
      replace hO13 := hO13.icong (show ordR l = ord l from if_pos q2)
      replace hC13 := hC13.rcong (show cdsR l = cds l from if_pos q2)
      have hlo := ilen hO13.sl
      have hlc := rlen encC_len (by decide) hC13.sl
      have hol := ord_len l
      have h256 := (q2).2.1
      rw [cds_len] at hlc
      refine Wl_v (r_as (v := .func (.func 49) #[] #[.pointer (some ⟨Bo13, 0, none⟩), .pointer (some ⟨Bc13, 0, none⟩)]) rfl) ?_
      refine Wl_nil ?_
      refine W_seq ?_
      refine W_seq ?_
      refine W_region ?_
      refine Wl_v (r_mv (v := .func (.func 49) #[] #[.pointer (some ⟨Bo13, 0, none⟩), .pointer (some ⟨Bc13, 0, none⟩)]) rfl) ?_
      refine Wl_v (r_eqfn_s Try.underlying60 rfl rfl) ?_
      refine Wl_nil ?_
      refine W_cond_f rfl ?_
      refine W_skip ?_
      refine W_seq ?_
      refine W_seq ?_
      refine W_region ?_
      refine Wl_v (r_as (v := .int .i64 0) rfl) ?_
      refine Wl_nil ?_
      refine W_block ?_
      refine W_loop (fun mu ρ ds w' => ∃ (k : Nat) (ys : List Int), n - k = mu ∧ ds = [] ∧ Liv ρ [(3, .pointer (some ⟨B1, 0, none⟩)), (4, .pointer (some ⟨B2, 0, none⟩)), (5, .pointer (some ⟨B6, 0, none⟩)), (7, .pointer (some ⟨B8, 0, none⟩)), (8, .slice a12 n c12), (9, .func (.func 49) #[] #[.pointer (some ⟨Bo13, 0, none⟩), .pointer (some ⟨Bc13, 0, none⟩)]), (10, .int .i64 ((k : Nat) : Int))] ∧ k ≤ n ∧ Own w' (fun g => ((((g = B11) ∨ g = w11.heap.size)) ∧ g < w12.heap.size)) 3 1 (.slice a12 n c12) n (ints .i64 ys) ∧ Upd (fun g => ((((g = B11) ∨ g = w11.heap.size)) ∧ g < w12.heap.size)) w13 w') _ ⟨0, l, rfl, rfl, ⟨rfl, rfl, rfl, rfl, rfl, rfl, (by first | rfl | exact vint (by omega) | exact vint (by simp)), trivial⟩, (by omega), hO12, Upd.refl _ _⟩ ?_
      rintro m14 ρ14 ds14 w14 ⟨k, ys, rfl, rfl, hl14, hk, hO12, hU14⟩
      obtain ⟨ρ14x, rfl⟩ : ∃ ρx, ρ14 = upds ρx [(3, .pointer (some ⟨B1, 0, none⟩)), (4, .pointer (some ⟨B2, 0, none⟩)), (5, .pointer (some ⟨B6, 0, none⟩)), (7, .pointer (some ⟨B8, 0, none⟩)), (8, .slice a12 n c12), (9, .func (.func 49) #[] #[.pointer (some ⟨Bo13, 0, none⟩), .pointer (some ⟨Bc13, 0, none⟩)]), (10, .int .i64 ((k : Nat) : Int))] := ⟨_, upds_self hl14⟩
      clear hl14
      have hzw14 := hU14.size
      replace hs := hs.upd hU14 (by intro x h1 h2; have h3 : x < w.heap.size := h1; have h4 : ((((x = B11) ∨ x = w11.heap.size)) ∧ x < w12.heap.size) := h2; omega)
      replace HU := HU.trans hU14 (by intro x hx; have hx2 : ((((x = B11) ∨ x = w11.heap.size)) ∧ x < w12.heap.size) := hx; show (False) ∨ w.heap.size ≤ x; omega)
      replace hb1 := hb1.upd hU14 (by intro hx; have hx2 : ((((B1 = B11) ∨ B1 = w11.heap.size)) ∧ B1 < w12.heap.size) := hx; omega)
      replace hb2 := hb2.upd hU14 (by intro hx; have hx2 : ((((B2 = B11) ∨ B2 = w11.heap.size)) ∧ B2 < w12.heap.size) := hx; omega)
      replace hO5 := hO5.upd hU14 (by intro x h1 h2; have h3 : ((w2.heap.size ≤ x) ∧ x < w5.heap.size) := h1; have h4 : ((((x = B11) ∨ x = w11.heap.size)) ∧ x < w12.heap.size) := h2; omega)
      replace hb6 := hb6.upd hU14 (by intro hx; have hx2 : ((((B6 = B11) ∨ B6 = w11.heap.size)) ∧ B6 < w12.heap.size) := hx; omega)
      replace hb8 := hb8.upd hU14 (by intro hx; have hx2 : ((((B8 = B11) ∨ B8 = w11.heap.size)) ∧ B8 < w12.heap.size) := hx; omega)
      replace hO9 := hO9.upd hU14 (by intro x h1 h2; have h3 : ((w8.heap.size ≤ x) ∧ x < w9.heap.size) := h1; have h4 : ((((x = B11) ∨ x = w11.heap.size)) ∧ x < w12.heap.size) := h2; omega)
      replace hBo13 := hBo13.upd hU14 (by intro hx; have hx2 : ((((Bo13 = B11) ∨ Bo13 = w11.heap.size)) ∧ Bo13 < w12.heap.size) := hx; omega)
      replace hBc13 := hBc13.upd hU14 (by intro hx; have hx2 : ((((Bc13 = B11) ∨ Bc13 = w11.heap.size)) ∧ Bc13 < w12.heap.size) := hx; omega)
      replace hO13 := hO13.upd hU14 (by intro x h1 h2; have h3 : ((w12.heap.size ≤ x) ∧ x < w13.heap.size) := h1; have h4 : ((((x = B11) ∨ x = w11.heap.size)) ∧ x < w12.heap.size) := h2; omega)
      replace hC13 := hC13.upd hU14 (by intro x h1 h2; have h3 : ((w12.heap.size ≤ x) ∧ x < w13.heap.size) := h1; have h4 : ((((x = B11) ∨ x = w11.heap.size)) ∧ x < w12.heap.size) := h2; omega)
      have HL14 := hU14
      refine W_seq ?_
      refine W_seq ?_
      refine W_region ?_
      refine Wl_v (r_mv (v := .int .i64 ((k : Nat) : Int)) rfl) ?_
      refine Wl_v (r_mv (v := .slice a12 n c12) rfl) ?_
      refine Wl_v (r_len Try.underlying22 rfl) ?_
      refine Wl_v (r_lt rfl rfl) ?_
      refine Wl_nil ?_
      by_cases q3 : ((k : Nat) : Int) < ((n : Nat) : Int)
      · rw [decide_eq_true q3]
        refine W_cond_t rfl ?_
        refine W_skip ?_
        refine W_seq ?_
        refine W_block ?_
        refine W_region ?_
        refine Wl_v (r_mv (v := .slice a12 n c12) rfl) ?_
        refine Wl_v (r_mv (v := .int .i64 ((k : Nat) : Int)) rfl) ?_
        obtain ⟨g15, rfl, hg15⟩ := hO12.addr (by omega)
        replace hg15 : ((((g15 = B11) ∨ g15 = w11.heap.size)) ∧ g15 < w12.heap.size) := hg15
        refine Wl_idxo (i' := k) Try.underlying22 Try.sizeOf3 rfl rfl hO12 (by omega) (by omega) ?_
        intro hc16
        refine Wl_storeo (i := k) Try.sizeOf3 rfl rfl hO12 (by omega) ?_
        intro w17 hU17 hzz17 hO17
        clear hO12
        have hzw17 := hU17.size
        replace hs := hs.upd1 hU17 (by intro h1; have h3 : g15 < w.heap.size := h1; omega)
        replace HU := HU.trans1 hU17 (by show (False) ∨ w.heap.size ≤ g15; omega)
        replace hb1 := hb1.upd1 hU17 (by omega)
        replace hb2 := hb2.upd1 hU17 (by omega)
        replace hO5 := hO5.upd1 hU17 (by intro h1; have h3 : ((w2.heap.size ≤ g15) ∧ g15 < w5.heap.size) := h1; omega)
        replace hb6 := hb6.upd1 hU17 (by omega)
        replace hb8 := hb8.upd1 hU17 (by omega)
        replace hO9 := hO9.upd1 hU17 (by intro h1; have h3 : ((w8.heap.size ≤ g15) ∧ g15 < w9.heap.size) := h1; omega)
        replace hBo13 := hBo13.upd1 hU17 (by omega)
        replace hBc13 := hBc13.upd1 hU17 (by omega)
        replace hO13 := hO13.upd1 hU17 (by intro h1; have h3 : ((w12.heap.size ≤ g15) ∧ g15 < w13.heap.size) := h1; omega)
        replace hC13 := hC13.upd1 hU17 (by intro h1; have h3 : ((w12.heap.size ≤ g15) ∧ g15 < w13.heap.size) := h1; omega)
        replace HL14 := HL14.trans1 hU17 (by show (((((g15 = B11) ∨ g15 = w11.heap.size)) ∧ g15 < w12.heap.size)) ∨ w13.heap.size ≤ g15; omega)
        have hl_hO17 := ilen hO17.sl
        have hc_hO17 := hO17.sl.cap.1
        refine Wl_nil ?_
        refine W_region ?_
        refine Wl_v (r_mv (v := .int .i64 ((k : Nat) : Int)) rfl) ?_
        refine Wl_v (r_add rfl rfl (wi64 (by omega) (by omega))) ?_
        refine Wl_v (r_as (v := .int .i64 (((k : Nat) : Int) + 1)) rfl) ?_
        refine Wl_nil ?_
        refine ⟨_, ?_, (k + 1), ys.set k 1, rfl, rfl, ⟨rfl, rfl, rfl, rfl, rfl, rfl, (by first | rfl | exact vint (by omega) | exact vint (by simp)), trivial⟩, (by omega), hO17, HL14⟩
        omega
      · rw [decide_eq_false q3]
        refine W_cond_f rfl ?_
        refine W_exit ?_
        refine W_seq ?_
        refine W_seq ?_
        refine W_region ?_
        refine Wl_alloc (cs := [.int .i64 0]) Try.zeroValue3 rfl ?_
        intro B18 w18 hB18 hU18 hzz18 hb18
        have hzw18 := hU18.size
        replace hs := hs.upd0 hU18
        replace HU := HU.trans0 hU18
        replace hb1 := hb1.upd0 hU18
        replace hb2 := hb2.upd0 hU18
        replace hO5 := hO5.upd0 hU18
        replace hb6 := hb6.upd0 hU18
        replace hb8 := hb8.upd0 hU18
        replace hO9 := hO9.upd0 hU18
        replace hBo13 := hBo13.upd0 hU18
        replace hBc13 := hBc13.upd0 hU18
        replace hO13 := hO13.upd0 hU18
        replace hC13 := hC13.upd0 hU18
        replace hO12 := hO12.upd0 hU18
        replace HL14 := HL14.trans0 hU18
        refine Wl_store (v := .int .i64 0) (cs' := [.int .i64 0]) Try.sizeOf3 rfl rfl rfl rfl hb18 rfl rfl ?_
        intro w19 hU19 hzz19 hb18n
        replace hb18 := hb18n; clear hb18n
        have hzw19 := hU19.size
        replace hs := hs.upd1 hU19 (by intro h1; have h3 : B18 < w.heap.size := h1; omega)
        replace HU := HU.trans1 hU19 (by show (False) ∨ w.heap.size ≤ B18; omega)
        replace hb1 := hb1.upd1 hU19 (by omega)
        replace hb2 := hb2.upd1 hU19 (by omega)
        replace hO5 := hO5.upd1 hU19 (by intro h1; have h3 : ((w2.heap.size ≤ B18) ∧ B18 < w5.heap.size) := h1; omega)
        replace hb6 := hb6.upd1 hU19 (by omega)
        replace hb8 := hb8.upd1 hU19 (by omega)
        replace hO9 := hO9.upd1 hU19 (by intro h1; have h3 : ((w8.heap.size ≤ B18) ∧ B18 < w9.heap.size) := h1; omega)
        replace hBo13 := hBo13.upd1 hU19 (by omega)
        replace hBc13 := hBc13.upd1 hU19 (by omega)
        replace hO13 := hO13.upd1 hU19 (by intro h1; have h3 : ((w12.heap.size ≤ B18) ∧ B18 < w13.heap.size) := h1; omega)
        replace hC13 := hC13.upd1 hU19 (by intro h1; have h3 : ((w12.heap.size ≤ B18) ∧ B18 < w13.heap.size) := h1; omega)
        replace hO12 := hO12.upd1 hU19 (by intro h1; have h3 : ((((B18 = B11) ∨ B18 = w11.heap.size)) ∧ B18 < w12.heap.size) := h1; omega)
        replace HL14 := HL14.trans1 hU19 (by show (((((B18 = B11) ∨ B18 = w11.heap.size)) ∧ B18 < w12.heap.size)) ∨ w13.heap.size ≤ B18; omega)
        refine Wl_nil ?_
        refine W_block ?_
        refine W_unroll2 ?_
        refine W_seq ?_
        refine W_seq ?_
        refine W_region ?_
        refine Wl_load (v := .int .i64 0) Try.isAgg3 rfl hb18 rfl ?_
        refine Wl_v (v := .bool true) (r_lt (a := 0) (b := 2) rfl rfl) ?_
        refine Wl_nil ?_
        refine W_cond_t rfl ?_
        refine W_skip ?_
        refine W_seq ?_
        refine W_block ?_
        refine W_seq ?_
        refine W_region ?_
        refine Wl_alloc (cs := [.int .i64 0]) Try.zeroValue3 rfl ?_
        intro B20 w20 hB20 hU20 hzz20 hb20
        have hzw20 := hU20.size
        replace hs := hs.upd0 hU20
        replace HU := HU.trans0 hU20
        replace hb1 := hb1.upd0 hU20
        replace hb2 := hb2.upd0 hU20
        replace hO5 := hO5.upd0 hU20
        replace hb6 := hb6.upd0 hU20
        replace hb8 := hb8.upd0 hU20
        replace hO9 := hO9.upd0 hU20
        replace hBo13 := hBo13.upd0 hU20
        replace hBc13 := hBc13.upd0 hU20
        replace hO13 := hO13.upd0 hU20
        replace hC13 := hC13.upd0 hU20
        replace hO12 := hO12.upd0 hU20
        replace HL14 := HL14.trans0 hU20
        replace hb18 := hb18.upd0 hU20
        refine Wl_store (v := .int .i64 0) (cs' := [.int .i64 0]) Try.sizeOf3 rfl rfl rfl rfl hb20 rfl rfl ?_
        intro w21 hU21 hzz21 hb20n
        replace hb20 := hb20n; clear hb20n
        have hzw21 := hU21.size
        replace hs := hs.upd1 hU21 (by intro h1; have h3 : B20 < w.heap.size := h1; omega)
        replace HU := HU.trans1 hU21 (by show (False) ∨ w.heap.size ≤ B20; omega)
        replace hb1 := hb1.upd1 hU21 (by omega)
        replace hb2 := hb2.upd1 hU21 (by omega)
        replace hO5 := hO5.upd1 hU21 (by intro h1; have h3 : ((w2.heap.size ≤ B20) ∧ B20 < w5.heap.size) := h1; omega)
        replace hb6 := hb6.upd1 hU21 (by omega)
        replace hb8 := hb8.upd1 hU21 (by omega)
        replace hO9 := hO9.upd1 hU21 (by intro h1; have h3 : ((w8.heap.size ≤ B20) ∧ B20 < w9.heap.size) := h1; omega)
        replace hBo13 := hBo13.upd1 hU21 (by omega)
        replace hBc13 := hBc13.upd1 hU21 (by omega)
        replace hO13 := hO13.upd1 hU21 (by intro h1; have h3 : ((w12.heap.size ≤ B20) ∧ B20 < w13.heap.size) := h1; omega)
        replace hC13 := hC13.upd1 hU21 (by intro h1; have h3 : ((w12.heap.size ≤ B20) ∧ B20 < w13.heap.size) := h1; omega)
        replace hO12 := hO12.upd1 hU21 (by intro h1; have h3 : ((((B20 = B11) ∨ B20 = w11.heap.size)) ∧ B20 < w12.heap.size) := h1; omega)
        replace HL14 := HL14.trans1 hU21 (by show (((((B20 = B11) ∨ B20 = w11.heap.size)) ∧ B20 < w12.heap.size)) ∨ w13.heap.size ≤ B20; omega)
        replace hb18 := hb18.upd1 hU21 (by omega)
        refine Wl_nil ?_
        refine W_seq ?_
        refine W_seq ?_
        refine W_region ?_
        refine Wl_v (r_mv (v := .func (.func 49) #[] #[.pointer (some ⟨Bo13, 0, none⟩), .pointer (some ⟨Bc13, 0, none⟩)]) rfl) ?_
        refine Wl_nil ?_
        refine W_block ?_
        refine W_range (gf := 49) (ar := fun y => #[y, .pointer (some ⟨Bo13, 0, none⟩), .pointer (some ⟨Bc13, 0, none⟩)]) rfl Try.call49 (fun y => by simp) ?_
        intro D22 fn22 w22 hD22 hU22 hzz22 hdf22 hrc220
        have hzw22 := hU22.size
        replace hs := hs.upd0 hU22
        replace HU := HU.trans0 hU22
        replace hb1 := hb1.upd0 hU22
        replace hb2 := hb2.upd0 hU22
        replace hO5 := hO5.upd0 hU22
        replace hb6 := hb6.upd0 hU22
        replace hb8 := hb8.upd0 hU22
        replace hO9 := hO9.upd0 hU22
        replace hBo13 := hBo13.upd0 hU22
        replace hBc13 := hBc13.upd0 hU22
        replace hO13 := hO13.upd0 hU22
        replace hC13 := hC13.upd0 hU22
        replace hO12 := hO12.upd0 hU22
        replace HL14 := HL14.trans0 hU22
        replace hb18 := hb18.upd0 hU22
        replace hb20 := hb20.upd0 hU22
        obtain ⟨r22, hr22, hrc22⟩ : ∃ r, r = _ ∧ Rec w22 (D22 + 1) r := ⟨_, rfl, hrc220⟩
        clear hrc220
        obtain ⟨J22, hJ22⟩ : ∃ J : Nat → World → Prop, ∀ i w', J i w' ↔ (Rec w' (D22 + 1) r22 ∧ Dfr w' D22 ∧ Blk w' B20 [.int .i64 ((i : Nat) : Int)] ∧ Blk w' B1 [.int .i64 many] ∧ Blk w' B2 [.bool false] ∧ Own w' (fun g => ((w2.heap.size ≤ g) ∧ g < w5.heap.size)) 37 2 (.slice a5 n c5) n (rows encC (cds l)) ∧ Blk w' B6 [.slice a5 n c5] ∧ Blk w' B8 [.slice a9 m9 c9] ∧ Own w' (fun g => ((w8.heap.size ≤ g) ∧ g < w9.heap.size)) 3 1 (.slice a9 m9 c9) m9 (ints .i64 (ord l)) ∧ Blk w' Bo13 [.slice a13 m13 c13] ∧ Blk w' Bc13 [.slice b13 n13 d13] ∧ Own w' (fun g => ((w12.heap.size ≤ g) ∧ g < w13.heap.size)) 3 1 (.slice a13 m13 c13) m13 (ints .i64 (ord l)) ∧ Own w' (fun g => ((w12.heap.size ≤ g) ∧ g < w13.heap.size)) 37 2 (.slice b13 n13 d13) n13 (rows encC (cds l)) ∧ Own w' (fun g => ((((g = B11) ∨ g = w11.heap.size)) ∧ g < w12.heap.size)) 3 1 (.slice a12 n c12) n (ints .i64 ys) ∧ Blk w' B18 [.int .i64 0] ∧ Upd No w w' ∧ (i = 0 ∨ ((i : Nat) : Int) < many)) := ⟨_, fun _ _ => Iff.rfl⟩
        obtain ⟨Jx22, hJx22⟩ : ∃ Jx : World → Prop, ∀ w', Jx w' ↔ ((∃ ij : Nat, Rec w' (D22 + 1) { r22 with state := .done, pending := some (.exit 4) } ∧ Dfr w' D22 ∧ Blk w' B20 [.int .i64 (((ij : Nat) : Int) + 1)] ∧ Blk w' B1 [.int .i64 many] ∧ Blk w' B2 [.bool false] ∧ Own w' (fun g => ((w2.heap.size ≤ g) ∧ g < w5.heap.size)) 37 2 (.slice a5 n c5) n (rows encC (cds l)) ∧ Blk w' B6 [.slice a5 n c5] ∧ Blk w' B8 [.slice a9 m9 c9] ∧ Own w' (fun g => ((w8.heap.size ≤ g) ∧ g < w9.heap.size)) 3 1 (.slice a9 m9 c9) m9 (ints .i64 (ord l)) ∧ Blk w' Bo13 [.slice a13 m13 c13] ∧ Blk w' Bc13 [.slice b13 n13 d13] ∧ Own w' (fun g => ((w12.heap.size ≤ g) ∧ g < w13.heap.size)) 3 1 (.slice a13 m13 c13) m13 (ints .i64 (ord l)) ∧ Own w' (fun g => ((w12.heap.size ≤ g) ∧ g < w13.heap.size)) 37 2 (.slice b13 n13 d13) n13 (rows encC (cds l)) ∧ Own w' (fun g => ((((g = B11) ∨ g = w11.heap.size)) ∧ g < w12.heap.size)) 3 1 (.slice a12 n c12) n (ints .i64 ys) ∧ Blk w' B18 [.int .i64 0] ∧ Upd No w w' ∧ ij < m13 ∧ many ≤ ((ij : Nat) : Int) + 1 ∧ (ij = 0 ∨ ((ij : Nat) : Int) < many))) := ⟨_, fun _ => Iff.rfl⟩
        refine (all1_spec (ly := (D22 + 1)) (J := J22) (Jx := Jx22) (Sb := (fun g => g = B20 ∨ g = D22 + 1)) (R := fun g => ((w12.heap.size ≤ g) ∧ g < w13.heap.size)) (T := fun g => ((w12.heap.size ≤ g) ∧ g < w13.heap.size)) w22 hBo13 hO13.sl hBc13 hC13.sl (by omega) (by omega) (fun i hi => by obtain ⟨jx, e1, e2, _⟩ := ord_at (l := l) (i := i) (by omega); omega) (by intro g h1 h2; have h3 : ((w12.heap.size ≤ g) ∧ g < w13.heap.size) := h1; have h4 : g = B20 ∨ g = D22 + 1 := h2; omega) (by show ¬ (_ ∨ _); omega) (by intro g h1 h2; have h3 : ((w12.heap.size ≤ g) ∧ g < w13.heap.size) := h1; have h4 : g = B20 ∨ g = D22 + 1 := h2; omega) ?_ ?_).mono ?_
        · exact (hJ22 _ _).2 ⟨hrc22, hdf22, hb20, hb1, hb2, hO5, hb6, hb8, hO9, hBo13, hBc13, hO13, hC13, hO12, hb18, HU, (.inl rfl)⟩
        · intro i23 w23 hi23 hh
          obtain ⟨hrc22, hdf22, hb20, hb1, hb2, hO5, hb6, hb8, hO9, hBo13, hBc13, hO13, hC13, hO12, hb18, HU, hpm⟩ := (hJ22 _ _).1 hh
          have hrl22 := hrc22.lt
          obtain ⟨jx, hjx, hjn, _⟩ := ord_at (l := l) (i := i23) (by omega)
          have HB22 : Upd (fun g => g = B20 ∨ g = D22 + 1) w23 w23 := Upd.refl _ _
          refine yieldC_of_W (R := fun b c w' => (b = true ∧ Upd (fun g => g = B20 ∨ g = D22 + 1) w23 w' ∧ J22 (i23 + 1) w') ∨ (b = false ∧ Jx22 w')) hrc22 (by rw [hr22]; rfl) (by rw [hr22]; exact zip2 _ _ _ _ _ _) ?_ ?_
          · rw [hr22]
            refine W_seq ?_
            refine W_region ?_
            refine Wl_v (r_as (v := .int .i64 ((ord l).getD i23 0)) rfl) ?_
            refine Wl_nil ?_
            refine W_region ?_
            refine Wl_alloc (cs := [.int .i64 0, .int .u32 0]) Try.zeroValue37 rfl ?_
            intro B24 w24 hB24 hU24 hzz24 hb24
            have hzw24 := hU24.size
            replace hrc22 := hrc22.upd0 hU24
            replace hdf22 := hdf22.upd0 hU24
            replace hb20 := hb20.upd0 hU24
            replace hb1 := hb1.upd0 hU24
            replace hb2 := hb2.upd0 hU24
            replace hO5 := hO5.upd0 hU24
            replace hb6 := hb6.upd0 hU24
            replace hb8 := hb8.upd0 hU24
            replace hO9 := hO9.upd0 hU24
            replace hBo13 := hBo13.upd0 hU24
            replace hBc13 := hBc13.upd0 hU24
            replace hO13 := hO13.upd0 hU24
            replace hC13 := hC13.upd0 hU24
            replace hO12 := hO12.upd0 hU24
            replace hb18 := hb18.upd0 hU24
            replace HU := HU.trans0 hU24
            replace HB22 := HB22.trans0 hU24
            refine Wl_storea (off := 0) (vs := [.int .i64 (((cds l).getD ((ord l).getD i23 0).toNat (0, 0)).1), .int .u32 (((cds l).getD ((ord l).getD i23 0).toNat (0, 0)).2)]) (cs' := [.int .i64 (((cds l).getD ((ord l).getD i23 0).toNat (0, 0)).1), .int .u32 (((cds l).getD ((ord l).getD i23 0).toNat (0, 0)).2)]) Try.sizeOf37 rfl rfl rfl (by simp only [List.mem_cons, List.not_mem_nil, or_false, forall_eq_or_imp, forall_eq]; exact ⟨rfl, rfl⟩) hb24 (by simp) rfl ?_
            intro w25 hU25 hzz25 hb24n
            replace hb24 := hb24n; clear hb24n
            have hzw25 := hU25.size
            replace hrc22 := hrc22.upd1 hU25 (by omega)
            replace hdf22 := hdf22.upd1 hU25 (by omega)
            replace hb20 := hb20.upd1 hU25 (by omega)
            replace hb1 := hb1.upd1 hU25 (by omega)
            replace hb2 := hb2.upd1 hU25 (by omega)
            replace hO5 := hO5.upd1 hU25 (by intro h1; have h3 : ((w2.heap.size ≤ B24) ∧ B24 < w5.heap.size) := h1; omega)
            replace hb6 := hb6.upd1 hU25 (by omega)
            replace hb8 := hb8.upd1 hU25 (by omega)
            replace hO9 := hO9.upd1 hU25 (by intro h1; have h3 : ((w8.heap.size ≤ B24) ∧ B24 < w9.heap.size) := h1; omega)
            replace hBo13 := hBo13.upd1 hU25 (by omega)
            replace hBc13 := hBc13.upd1 hU25 (by omega)
            replace hO13 := hO13.upd1 hU25 (by intro h1; have h3 : ((w12.heap.size ≤ B24) ∧ B24 < w13.heap.size) := h1; omega)
            replace hC13 := hC13.upd1 hU25 (by intro h1; have h3 : ((w12.heap.size ≤ B24) ∧ B24 < w13.heap.size) := h1; omega)
            replace hO12 := hO12.upd1 hU25 (by intro h1; have h3 : ((((B24 = B11) ∨ B24 = w11.heap.size)) ∧ B24 < w12.heap.size) := h1; omega)
            replace hb18 := hb18.upd1 hU25 (by omega)
            replace HU := HU.trans1 hU25 (by show (False) ∨ w.heap.size ≤ B24; omega)
            replace HB22 := HB22.trans1 hU25 (by show (B24 = B20 ∨ B24 = D22 + 1) ∨ w23.heap.size ≤ B24; omega)
            refine Wl_nil ?_
            refine ⟨rfl, _, hrc22, (by rw [hr22]), ?_⟩
            intro w26 hU26 hzz26 hrc22b
            have hzw26 := hU26.size
            replace hdf22 := hdf22.upd1 hU26 (by omega)
            replace hb20 := hb20.upd1 hU26 (by omega)
            replace hb1 := hb1.upd1 hU26 (by omega)
            replace hb2 := hb2.upd1 hU26 (by omega)
            replace hO5 := hO5.upd1 hU26 (by intro h1; have h3 : ((w2.heap.size ≤ (D22 + 1)) ∧ (D22 + 1) < w5.heap.size) := h1; omega)
            replace hb6 := hb6.upd1 hU26 (by omega)
            replace hb8 := hb8.upd1 hU26 (by omega)
            replace hO9 := hO9.upd1 hU26 (by intro h1; have h3 : ((w8.heap.size ≤ (D22 + 1)) ∧ (D22 + 1) < w9.heap.size) := h1; omega)
            replace hBo13 := hBo13.upd1 hU26 (by omega)
            replace hBc13 := hBc13.upd1 hU26 (by omega)
            replace hO13 := hO13.upd1 hU26 (by intro h1; have h3 : ((w12.heap.size ≤ (D22 + 1)) ∧ (D22 + 1) < w13.heap.size) := h1; omega)
            replace hC13 := hC13.upd1 hU26 (by intro h1; have h3 : ((w12.heap.size ≤ (D22 + 1)) ∧ (D22 + 1) < w13.heap.size) := h1; omega)
            replace hO12 := hO12.upd1 hU26 (by intro h1; have h3 : (((((D22 + 1) = B11) ∨ (D22 + 1) = w11.heap.size)) ∧ (D22 + 1) < w12.heap.size) := h1; omega)
            replace hb18 := hb18.upd1 hU26 (by omega)
            replace HU := HU.trans1 hU26 (by show (False) ∨ w.heap.size ≤ (D22 + 1); omega)
            replace HB22 := HB22.trans1 hU26 (by show ((D22 + 1) = B20 ∨ (D22 + 1) = D22 + 1) ∨ w23.heap.size ≤ (D22 + 1); omega)
            replace hb24 := hb24.upd1 hU26 (by omega)
            clear hrc22
            have hrc22 := hrc22b
            clear hrc22b
            refine W_block ?_
            refine W_seq ?_
            refine W_seq ?_
            refine W_drawt rfl (l0 := #[false, false, false, false, false, false, false, false, false, false, false, false, false, false, false, false, false, false, false, false]) (by kernel_rfl) ?_
            refine Wt_take (i := 0) (listed' := #[true, false, false, false, false, false, false, false, false, false, false, false, false, false, false, false, false, false, false, false]) (by kernel_rfl) rfl (by kernel_rfl) (by kernel_rfl) (by kernel_rfl) (by kernel_rfl) (YI_v (v := .int .i64 ((i23 : Nat) : Int)) rfl (fun w' hw' => r_load Try.isAgg3 rfl (by rw [(hb20.upd0 hw').cell]; rfl))) ?_
            refine Wt_take (i := 1) (listed' := #[true, true, false, false, false, false, false, false, false, false, false, false, false, false, false, false, false, false, false, false]) (by kernel_rfl) rfl (by kernel_rfl) (by kernel_rfl) (by kernel_rfl) (by kernel_rfl) (YI_v (v := .slice a9 m9 c9) rfl (fun w' hw' => r_load Try.isAgg22 rfl (by rw [(hb8.upd0 hw').cell]; rfl))) ?_
            refine Wt_take (i := 2) (listed' := #[true, true, true, false, false, false, false, false, false, false, false, false, false, false, false, false, false, false, false, false]) (by kernel_rfl) rfl (by kernel_rfl) (by kernel_rfl) (by kernel_rfl) (by kernel_rfl) (YI_v (v := .int .i64 ((m9 : Nat) : Int)) rfl (fun w' hw' => r_len Try.underlying22 rfl)) ?_
            refine Wt_take (i := 3) (listed' := #[true, true, true, true, false, false, false, false, false, false, false, false, false, false, false, false, false, false, false, false]) (by kernel_rfl) rfl (by kernel_rfl) (by kernel_rfl) (by kernel_rfl) (by kernel_rfl) (YI_v (v := .bool (decide (((m9 : Nat) : Int) ≤ ((i23 : Nat) : Int)))) rfl (fun w' hw' => r_ge rfl rfl)) ?_
            refine Wt_take (i := 4) (listed' := #[true, true, true, true, true, false, false, false, false, false, false, false, false, false, false, false, false, false, false, false]) (by kernel_rfl) rfl (by kernel_rfl) (by kernel_rfl) (by kernel_rfl) (by kernel_rfl) (YI_v (v := .bool (decide (((m9 : Nat) : Int) ≤ ((i23 : Nat) : Int)))) rfl (fun w' hw' => r_mv (v := .bool (decide (((m9 : Nat) : Int) ≤ ((i23 : Nat) : Int)))) rfl)) ?_
            have q4 : ¬ (((m9 : Nat) : Int) ≤ ((i23 : Nat) : Int)) := (by omega)
            rw [decide_eq_false q4]
            refine Wt_take (i := 5) (listed' := #[true, true, true, true, true, true, false, false, false, false, false, false, false, false, false, false, false, false, false, false]) (by kernel_rfl) rfl (by kernel_rfl) (by kernel_rfl) (by kernel_rfl) (by kernel_rfl) (YI_v (v := .int .i64 ((ord l).getD i23 0)) rfl (fun w' hw' => r_mv (v := .int .i64 ((ord l).getD i23 0)) rfl)) ?_
            refine Wt_take (i := 6) (listed' := #[true, true, true, true, true, true, true, false, false, false, false, false, false, false, false, false, false, false, false, false]) (by kernel_rfl) rfl (by kernel_rfl) (by kernel_rfl) (by kernel_rfl) (by kernel_rfl) (YI_v (v := .slice a9 m9 c9) rfl (fun w' hw' => r_load Try.isAgg22 rfl (by rw [(hb8.upd0 hw').cell]; rfl))) ?_
            refine Wt_take (i := 7) (listed' := #[true, true, true, true, true, true, true, true, false, false, false, false, false, false, false, false, false, false, false, false]) (by kernel_rfl) rfl (by kernel_rfl) (by kernel_rfl) (by kernel_rfl) (by kernel_rfl) (YI_v (v := .int .i64 ((i23 : Nat) : Int)) rfl (fun w' hw' => r_load Try.isAgg3 rfl (by rw [(hb20.upd0 hw').cell]; rfl))) ?_
            obtain ⟨ib27, io27, ha27, hib27, hc27⟩ := (hO9.sl).iat (i := i23) (by omega)
            replace hib27 : ((w8.heap.size ≤ ib27) ∧ ib27 < w9.heap.size) := hib27
            refine Wt_take (i := 8) (listed' := #[true, true, true, true, true, true, true, true, true, false, false, false, false, false, false, false, false, false, false, false]) (by kernel_rfl) rfl (by kernel_rfl) (by kernel_rfl) (by kernel_rfl) (by kernel_rfl) (YI_v (v := .pointer (some ⟨ib27, io27 + i23, none⟩)) rfl (fun w' hw' => r_idx (b := ib27) (off := io27) (m := m9) (c := c9) (o' := io27 + i23) Try.underlying22 Try.sizeOf3 (by rw [← ha27]; rfl) rfl (by omega) (by omega) (by omega))) ?_
            refine Wt_take (i := 9) (listed' := #[true, true, true, true, true, true, true, true, true, true, false, false, false, false, false, false, false, false, false, false]) (by kernel_rfl) rfl (by kernel_rfl) (by kernel_rfl) (by kernel_rfl) (by kernel_rfl) (YI_v (v := .int .i64 ((ord l).getD i23 0)) rfl (fun w' hw' => r_load Try.isAgg3 rfl (hw'.cellk hc27))) ?_
            refine Wt_take (i := 10) (listed' := #[true, true, true, true, true, true, true, true, true, true, true, false, false, false, false, false, false, false, false, false]) (by kernel_rfl) rfl (by kernel_rfl) (by kernel_rfl) (by kernel_rfl) (by kernel_rfl) (YI_v (v := .bool (decide (((ord l).getD i23 0) ≠ ((ord l).getD i23 0)))) rfl (fun w' hw' => r_ne rfl rfl)) ?_
            refine Wt_take (i := 11) (listed' := #[true, true, true, true, true, true, true, true, true, true, true, true, false, false, false, false, false, false, false, false]) (by kernel_rfl) rfl (by kernel_rfl) (by kernel_rfl) (by kernel_rfl) (by kernel_rfl) (YI_v rfl (fun w' hw' => r_pick_f (v := .bool (decide (((ord l).getD i23 0) ≠ ((ord l).getD i23 0)))) rfl rfl)) ?_
            refine Wt_take (i := 12) (listed' := #[true, true, true, true, true, true, true, true, true, true, true, true, true, false, false, false, false, false, false, false]) (by kernel_rfl) rfl (by kernel_rfl) (by kernel_rfl) (by kernel_rfl) (by kernel_rfl) (YI_v (v := .bool (decide (((ord l).getD i23 0) ≠ ((ord l).getD i23 0)))) rfl (fun w' hw' => r_mv (v := .bool (decide (((ord l).getD i23 0) ≠ ((ord l).getD i23 0)))) rfl)) ?_
            have q5 : ¬ (((ord l).getD i23 0) ≠ ((ord l).getD i23 0)) := (fun h => h rfl)
            rw [decide_eq_false q5]
            refine Wt_take (i := 13) (listed' := #[true, true, true, true, true, true, true, true, true, true, true, true, true, true, false, false, false, false, false, false]) (by kernel_rfl) rfl (by kernel_rfl) (by kernel_rfl) (by kernel_rfl) (by kernel_rfl) (YI_v (v := .agg #[.int .i64 (((cds l).getD ((ord l).getD i23 0).toNat (0, 0)).1), .int .u32 (((cds l).getD ((ord l).getD i23 0).toNat (0, 0)).2)]) rfl (fun w' hw' => r_loada (b := B24) (off := 0) (cs := [.int .i64 (((cds l).getD ((ord l).getD i23 0).toNat (0, 0)).1), .int .u32 (((cds l).getD ((ord l).getD i23 0).toNat (0, 0)).2)]) Try.isAgg37 Try.sizeOf37 rfl rfl (fun j hj => by rw [(hb24.upd0 hw').cell]; match j, hj with | 0, _ => rfl | 1, _ => rfl))) ?_
            refine Wt_take (i := 14) (listed' := #[true, true, true, true, true, true, true, true, true, true, true, true, true, true, true, false, false, false, false, false]) (by kernel_rfl) rfl (by kernel_rfl) (by kernel_rfl) (by kernel_rfl) (by kernel_rfl) (YI_v (v := .slice a5 n c5) rfl (fun w' hw' => r_load Try.isAgg28 rfl (by rw [(hb6.upd0 hw').cell]; rfl))) ?_
            refine Wt_take (i := 15) (listed' := #[true, true, true, true, true, true, true, true, true, true, true, true, true, true, true, true, false, false, false, false]) (by kernel_rfl) rfl (by kernel_rfl) (by kernel_rfl) (by kernel_rfl) (by kernel_rfl) (YI_v (v := .int .i64 ((ord l).getD i23 0)) rfl (fun w' hw' => r_mv (v := .int .i64 ((ord l).getD i23 0)) rfl)) ?_
            obtain ⟨ib28, io28, ha28, hib28, hc28⟩ := Sl.rat (0, 0) encC_len (by decide) (hO5.sl) (i := ((ord l).getD i23 0).toNat) (by omega)
            refine Wt_take (i := 16) (listed' := #[true, true, true, true, true, true, true, true, true, true, true, true, true, true, true, true, true, false, false, false]) (by kernel_rfl) rfl (by kernel_rfl) (by kernel_rfl) (by kernel_rfl) (by kernel_rfl) (YI_v (v := .pointer (some ⟨ib28, io28 + (((ord l).getD i23 0).toNat) * 2, none⟩)) rfl (fun w' hw' => r_idx (b := ib28) (off := io28) (m := n) (c := c5) (o' := io28 + (((ord l).getD i23 0).toNat) * 2) Try.underlying28 Try.sizeOf37 (by rw [← ha28]; rfl) rfl (by omega) (by omega) (by omega))) ?_
            refine Wt_take (i := 17) (listed' := #[true, true, true, true, true, true, true, true, true, true, true, true, true, true, true, true, true, true, false, false]) (by kernel_rfl) rfl (by kernel_rfl) (by kernel_rfl) (by kernel_rfl) (by kernel_rfl) (YI_v (v := .agg #[.int .i64 (((cds l).getD ((ord l).getD i23 0).toNat (0, 0)).1), .int .u32 (((cds l).getD ((ord l).getD i23 0).toNat (0, 0)).2)]) rfl (fun w' hw' => r_loada (cs := [.int .i64 (((cds l).getD ((ord l).getD i23 0).toNat (0, 0)).1), .int .u32 (((cds l).getD ((ord l).getD i23 0).toNat (0, 0)).2)]) Try.isAgg37 Try.sizeOf37 rfl rfl (hw'.cellsk rfl hc28))) ?_
            refine Wt_take (i := 18) (listed' := #[true, true, true, true, true, true, true, true, true, true, true, true, true, true, true, true, true, true, true, false]) (by kernel_rfl) rfl (by kernel_rfl) (by kernel_rfl) (by kernel_rfl) (by kernel_rfl) (YI_v (v := .bool (!decide ((((cds l).getD ((ord l).getD i23 0).toNat (0, 0)).1) = (((cds l).getD ((ord l).getD i23 0).toNat (0, 0)).1) ∧ (((cds l).getD ((ord l).getD i23 0).toNat (0, 0)).2) = (((cds l).getD ((ord l).getD i23 0).toNat (0, 0)).2)))) rfl (fun w' hw' => r_neag (pp := (((cds l).getD ((ord l).getD i23 0).toNat (0, 0)).1) = (((cds l).getD ((ord l).getD i23 0).toNat (0, 0)).1) ∧ (((cds l).getD ((ord l).getD i23 0).toNat (0, 0)).2) = (((cds l).getD ((ord l).getD i23 0).toNat (0, 0)).2)) Try.underlying37 (by kernel_rfl) (by kernel_rfl) rfl rfl (fun w => eqf_int (by decide) Try.underlying3 Try.isAgg3 rfl rfl (fun w => eqf_int (by decide) Try.underlying35 Try.isAgg35 rfl rfl (fun w => eqf_nil))) (by simp [Bool.decide_and]))) ?_
            refine Wt_take (i := 19) (listed' := #[true, true, true, true, true, true, true, true, true, true, true, true, true, true, true, true, true, true, true, true]) (by kernel_rfl) rfl (by kernel_rfl) (by kernel_rfl) (by kernel_rfl) (by kernel_rfl) (YI_v rfl (fun w' hw' => r_pick_f (v := .bool (!decide ((((cds l).getD ((ord l).getD i23 0).toNat (0, 0)).1) = (((cds l).getD ((ord l).getD i23 0).toNat (0, 0)).1) ∧ (((cds l).getD ((ord l).getD i23 0).toNat (0, 0)).2) = (((cds l).getD ((ord l).getD i23 0).toNat (0, 0)).2)))) rfl rfl)) ?_
            intro w29 hU29
            have hzw29 := hU29.size
            replace hrc22 := hrc22.upd0 hU29
            replace hdf22 := hdf22.upd0 hU29
            replace hb20 := hb20.upd0 hU29
            replace hb1 := hb1.upd0 hU29
            replace hb2 := hb2.upd0 hU29
            replace hO5 := hO5.upd0 hU29
            replace hb6 := hb6.upd0 hU29
            replace hb8 := hb8.upd0 hU29
            replace hO9 := hO9.upd0 hU29
            replace hBo13 := hBo13.upd0 hU29
            replace hBc13 := hBc13.upd0 hU29
            replace hO13 := hO13.upd0 hU29
            replace hC13 := hC13.upd0 hU29
            replace hO12 := hO12.upd0 hU29
            replace hb18 := hb18.upd0 hU29
            replace HU := HU.trans0 hU29
            replace HB22 := HB22.trans0 hU29
            replace hb24 := hb24.upd0 hU29
            replace hc27 := cell_upd0 hU29 hc27
            refine Wa_done (by kernel_rfl) ?_
            have q6 : (((cds l).getD ((ord l).getD i23 0).toNat (0, 0)).1) = (((cds l).getD ((ord l).getD i23 0).toNat (0, 0)).1) ∧ (((cds l).getD ((ord l).getD i23 0).toNat (0, 0)).2) = (((cds l).getD ((ord l).getD i23 0).toNat (0, 0)).2) := ⟨rfl, rfl⟩
            rw [decide_eq_true q6]
            simp only [Bool.not_true, Bool.not_false]
            refine W_cond_f rfl ?_
            refine W_skip ?_
            refine W_seq ?_
            refine W_region ?_
            refine Wl_load (v := .int .i64 ((i23 : Nat) : Int)) Try.isAgg3 rfl hb20 rfl ?_
            refine Wl_v (r_add rfl rfl (wi64 (by omega) (by omega))) ?_
            refine Wl_store (v := .int .i64 (((i23 : Nat) : Int) + 1)) (cs' := [.int .i64 (((i23 : Nat) : Int) + 1)]) Try.sizeOf3 rfl rfl rfl rfl hb20 rfl rfl ?_
            intro w30 hU30 hzz30 hb20n
            replace hb20 := hb20n; clear hb20n
            have hzw30 := hU30.size
            replace hrc22 := hrc22.upd1 hU30 (by omega)
            replace hdf22 := hdf22.upd1 hU30 (by omega)
            replace hb1 := hb1.upd1 hU30 (by omega)
            replace hb2 := hb2.upd1 hU30 (by omega)
            replace hO5 := hO5.upd1 hU30 (by intro h1; have h3 : ((w2.heap.size ≤ B20) ∧ B20 < w5.heap.size) := h1; omega)
            replace hb6 := hb6.upd1 hU30 (by omega)
            replace hb8 := hb8.upd1 hU30 (by omega)
            replace hO9 := hO9.upd1 hU30 (by intro h1; have h3 : ((w8.heap.size ≤ B20) ∧ B20 < w9.heap.size) := h1; omega)
            replace hBo13 := hBo13.upd1 hU30 (by omega)
            replace hBc13 := hBc13.upd1 hU30 (by omega)
            replace hO13 := hO13.upd1 hU30 (by intro h1; have h3 : ((w12.heap.size ≤ B20) ∧ B20 < w13.heap.size) := h1; omega)
            replace hC13 := hC13.upd1 hU30 (by intro h1; have h3 : ((w12.heap.size ≤ B20) ∧ B20 < w13.heap.size) := h1; omega)
            replace hO12 := hO12.upd1 hU30 (by intro h1; have h3 : ((((B20 = B11) ∨ B20 = w11.heap.size)) ∧ B20 < w12.heap.size) := h1; omega)
            replace hb18 := hb18.upd1 hU30 (by omega)
            replace HU := HU.trans1 hU30 (by show (False) ∨ w.heap.size ≤ B20; omega)
            replace HB22 := HB22.trans1 hU30 (by show (B20 = B20 ∨ B20 = D22 + 1) ∨ w23.heap.size ≤ B20; omega)
            replace hb24 := hb24.upd1 hU30 (by omega)
            replace hc27 := cell_upd1 hU30 hc27 (by show ib27 ≠ B20; omega)
            refine Wl_nil ?_
            refine W_seq ?_
            refine W_region ?_
            refine Wl_load (v := .int .i64 0) Try.isAgg3 rfl hb18 rfl ?_
            refine Wl_v (v := .bool true) (r_eq (a := 0) (b := 0) rfl rfl) ?_
            refine Wl_v (r_mv (v := .bool true) rfl) ?_
            refine Wl_guard_t rfl ?_
            refine Wl_load (v := .int .i64 (((i23 : Nat) : Int) + 1)) Try.isAgg3 rfl hb20 rfl ?_
            refine Wl_guard_t rfl ?_
            refine Wl_load (v := .int .i64 many) Try.isAgg3 rfl hb1 rfl ?_
            refine Wl_guard_t rfl ?_
            refine Wl_v (r_ge rfl rfl) ?_
            refine Wl_v (r_pick_t (v := .bool (decide (many ≤ (((i23 : Nat) : Int) + 1)))) rfl rfl) ?_
            refine Wl_nil ?_
            by_cases q7 : many ≤ (((i23 : Nat) : Int) + 1)
            · rw [decide_eq_true q7]
              refine W_cond_t rfl ?_
              refine W_exit ?_
              refine ⟨rfl, _, hrc22, ?_⟩
              intro w31 hU31 hzz31 hrz
              have hzw31 := hU31.size
              replace hdf22 := hdf22.upd1 hU31 (by omega)
              replace hb20 := hb20.upd1 hU31 (by omega)
              replace hb1 := hb1.upd1 hU31 (by omega)
              replace hb2 := hb2.upd1 hU31 (by omega)
              replace hO5 := hO5.upd1 hU31 (by intro h1; have h3 : ((w2.heap.size ≤ (D22 + 1)) ∧ (D22 + 1) < w5.heap.size) := h1; omega)
              replace hb6 := hb6.upd1 hU31 (by omega)
              replace hb8 := hb8.upd1 hU31 (by omega)
              replace hO9 := hO9.upd1 hU31 (by intro h1; have h3 : ((w8.heap.size ≤ (D22 + 1)) ∧ (D22 + 1) < w9.heap.size) := h1; omega)
              replace hBo13 := hBo13.upd1 hU31 (by omega)
              replace hBc13 := hBc13.upd1 hU31 (by omega)
              replace hO13 := hO13.upd1 hU31 (by intro h1; have h3 : ((w12.heap.size ≤ (D22 + 1)) ∧ (D22 + 1) < w13.heap.size) := h1; omega)
              replace hC13 := hC13.upd1 hU31 (by intro h1; have h3 : ((w12.heap.size ≤ (D22 + 1)) ∧ (D22 + 1) < w13.heap.size) := h1; omega)
              replace hO12 := hO12.upd1 hU31 (by intro h1; have h3 : (((((D22 + 1) = B11) ∨ (D22 + 1) = w11.heap.size)) ∧ (D22 + 1) < w12.heap.size) := h1; omega)
              replace hb18 := hb18.upd1 hU31 (by omega)
              replace HU := HU.trans1 hU31 (by show (False) ∨ w.heap.size ≤ (D22 + 1); omega)
              replace HB22 := HB22.trans1 hU31 (by show ((D22 + 1) = B20 ∨ (D22 + 1) = D22 + 1) ∨ w23.heap.size ≤ (D22 + 1); omega)
              replace hb24 := hb24.upd1 hU31 (by omega)
              replace hc27 := cell_upd1 hU31 hc27 (by show ib27 ≠ (D22 + 1); omega)
              exact Or.inr ⟨rfl, (hJx22 _).2 (⟨i23, (by rw [hr22]; rw [hr22] at hrz; exact hrz), hdf22, hb20, hb1, hb2, hO5, hb6, hb8, hO9, hBo13, hBc13, hO13, hC13, hO12, hb18, HU, (by omega), (by omega), (by omega)⟩)⟩
            · rw [decide_eq_false q7]
              refine W_cond_f rfl ?_
              refine W_skip ?_
              refine ⟨rfl, _, hrc22, ?_⟩
              intro w32 hU32 hzz32 hrz
              have hzw32 := hU32.size
              replace hdf22 := hdf22.upd1 hU32 (by omega)
              replace hb20 := hb20.upd1 hU32 (by omega)
              replace hb1 := hb1.upd1 hU32 (by omega)
              replace hb2 := hb2.upd1 hU32 (by omega)
              replace hO5 := hO5.upd1 hU32 (by intro h1; have h3 : ((w2.heap.size ≤ (D22 + 1)) ∧ (D22 + 1) < w5.heap.size) := h1; omega)
              replace hb6 := hb6.upd1 hU32 (by omega)
              replace hb8 := hb8.upd1 hU32 (by omega)
              replace hO9 := hO9.upd1 hU32 (by intro h1; have h3 : ((w8.heap.size ≤ (D22 + 1)) ∧ (D22 + 1) < w9.heap.size) := h1; omega)
              replace hBo13 := hBo13.upd1 hU32 (by omega)
              replace hBc13 := hBc13.upd1 hU32 (by omega)
              replace hO13 := hO13.upd1 hU32 (by intro h1; have h3 : ((w12.heap.size ≤ (D22 + 1)) ∧ (D22 + 1) < w13.heap.size) := h1; omega)
              replace hC13 := hC13.upd1 hU32 (by intro h1; have h3 : ((w12.heap.size ≤ (D22 + 1)) ∧ (D22 + 1) < w13.heap.size) := h1; omega)
              replace hO12 := hO12.upd1 hU32 (by intro h1; have h3 : (((((D22 + 1) = B11) ∨ (D22 + 1) = w11.heap.size)) ∧ (D22 + 1) < w12.heap.size) := h1; omega)
              replace hb18 := hb18.upd1 hU32 (by omega)
              replace HU := HU.trans1 hU32 (by show (False) ∨ w.heap.size ≤ (D22 + 1); omega)
              replace HB22 := HB22.trans1 hU32 (by show ((D22 + 1) = B20 ∨ (D22 + 1) = D22 + 1) ∨ w23.heap.size ≤ (D22 + 1); omega)
              replace hb24 := hb24.upd1 hU32 (by omega)
              replace hc27 := cell_upd1 hU32 hc27 (by show ib27 ≠ (D22 + 1); omega)
              exact Or.inl ⟨rfl, HB22, (hJ22 _ _).2 ⟨(by rw [hr22]; rw [hr22] at hrz; exact hrz), hdf22, hb20, hb1, hb2, hO5, hb6, hb8, hO9, hBo13, hBc13, hO13, hC13, hO12, hb18, HU, (by omega)⟩⟩
          · rintro b c w9 (⟨rfl, h1, h2⟩ | ⟨rfl, h1⟩)
            · exact Or.inl ⟨rfl, h1, h2⟩
            · exact Or.inr ⟨rfl, h1⟩
        rintro e w33 ⟨v, rfl, hh | hh⟩
        · obtain ⟨hrc22, hdf22, hb20, hb1, hb2, hO5, hb6, hb8, hO9, hBo13, hBc13, hO13, hC13, hO12, hb18, HU, hpm⟩ := (hJ22 _ _).1 hh
          have hrl22 := hrc22.lt
          refine ⟨r22, hrc22, (by rw [hr22]; simp), ?_⟩
          intro w34 hU34 hzz34
          have hzw34 := hU34.size
          replace hdf22 := hdf22.upd1 hU34 (by omega)
          replace hb20 := hb20.upd1 hU34 (by omega)
          replace hb1 := hb1.upd1 hU34 (by omega)
          replace hb2 := hb2.upd1 hU34 (by omega)
          replace hO5 := hO5.upd1 hU34 (by intro h1; have h3 : ((w2.heap.size ≤ (D22 + 1)) ∧ (D22 + 1) < w5.heap.size) := h1; omega)
          replace hb6 := hb6.upd1 hU34 (by omega)
          replace hb8 := hb8.upd1 hU34 (by omega)
          replace hO9 := hO9.upd1 hU34 (by intro h1; have h3 : ((w8.heap.size ≤ (D22 + 1)) ∧ (D22 + 1) < w9.heap.size) := h1; omega)
          replace hBo13 := hBo13.upd1 hU34 (by omega)
          replace hBc13 := hBc13.upd1 hU34 (by omega)
          replace hO13 := hO13.upd1 hU34 (by intro h1; have h3 : ((w12.heap.size ≤ (D22 + 1)) ∧ (D22 + 1) < w13.heap.size) := h1; omega)
          replace hC13 := hC13.upd1 hU34 (by intro h1; have h3 : ((w12.heap.size ≤ (D22 + 1)) ∧ (D22 + 1) < w13.heap.size) := h1; omega)
          replace hO12 := hO12.upd1 hU34 (by intro h1; have h3 : (((((D22 + 1) = B11) ∨ (D22 + 1) = w11.heap.size)) ∧ (D22 + 1) < w12.heap.size) := h1; omega)
          replace hb18 := hb18.upd1 hU34 (by omega)
          replace HU := HU.trans1 hU34 (by show (False) ∨ w.heap.size ≤ (D22 + 1); omega)
          rw [hr22]
          skip
          refine W_seq ?_
          refine W_region ?_
          refine Wl_load (v := .int .i64 0) Try.isAgg3 rfl hb18 rfl ?_
          refine Wl_v (v := .bool true) (r_eq (a := 0) (b := 0) rfl rfl) ?_
          refine Wl_v (r_mv (v := .bool true) rfl) ?_
          refine Wl_guard_t rfl ?_
          refine Wl_load (v := .int .i64 ((m13 : Nat) : Int)) Try.isAgg3 rfl hb20 rfl ?_
          refine Wl_guard_t rfl ?_
          refine Wl_load (v := .slice a9 m9 c9) Try.isAgg22 rfl hb8 rfl ?_
          refine Wl_guard_t rfl ?_
          refine Wl_v (r_len Try.underlying22 rfl) ?_
          refine Wl_guard_t rfl ?_
          refine Wl_load (v := .int .i64 many) Try.isAgg3 rfl hb1 rfl ?_
          refine Wl_guard_t rfl ?_
          refine Wl_v (r_max rfl rfl) ?_
          refine Wl_guard_t rfl ?_
          refine Wl_v (r_min rfl rfl) ?_
          refine Wl_guard_t rfl ?_
          refine Wl_v (r_ne rfl rfl) ?_
          refine Wl_v (r_pick_t (v := .bool (decide (((m13 : Nat) : Int) ≠ (min ((m9 : Nat) : Int) (max 1 many))))) rfl rfl) ?_
          refine Wl_v (r_mv (v := .bool (decide (((m13 : Nat) : Int) ≠ (min ((m9 : Nat) : Int) (max 1 many))))) rfl) ?_
          have q8 : ¬ (((m13 : Nat) : Int) ≠ (min ((m9 : Nat) : Int) (max 1 many))) := (by omega)
          rw [decide_eq_false q8]
          refine Wl_guard_t rfl ?_
          refine Wl_load (v := .int .i64 0) Try.isAgg3 rfl hb18 rfl ?_
          refine Wl_guard_t rfl ?_
          refine Wl_v (v := .bool false) (r_eq (a := 0) (b := 1) rfl rfl) ?_
          refine Wl_guard_t rfl ?_
          refine Wl_v (r_mv (v := .bool false) rfl) ?_
          refine Wl_guard_f rfl ?_
          refine Wl_guard_f rfl ?_
          refine Wl_guard_f rfl ?_
          refine Wl_guard_f rfl ?_
          refine Wl_guard_t rfl ?_
          refine Wl_v (r_pick_f (v := .bool false) rfl rfl) ?_
          refine Wl_v (r_pick_f (v := .bool false) rfl rfl) ?_
          refine Wl_nil ?_
          refine W_cond_f rfl ?_
          refine W_skip ?_
          refine W_seq ?_
          refine W_seq ?_
          refine W_region ?_
          refine Wl_load (v := .int .i64 0) Try.isAgg3 rfl hb18 rfl ?_
          refine Wl_nil ?_
          refine W_region ?_
          refine Wl_alloc (cs := [.int .i64 0]) Try.zeroValue3 rfl ?_
          intro B35 w35 hB35 hU35 hzz35 hb35
          have hzw35 := hU35.size
          replace hdf22 := hdf22.upd0 hU35
          replace hb20 := hb20.upd0 hU35
          replace hb1 := hb1.upd0 hU35
          replace hb2 := hb2.upd0 hU35
          replace hO5 := hO5.upd0 hU35
          replace hb6 := hb6.upd0 hU35
          replace hb8 := hb8.upd0 hU35
          replace hO9 := hO9.upd0 hU35
          replace hBo13 := hBo13.upd0 hU35
          replace hBc13 := hBc13.upd0 hU35
          replace hO13 := hO13.upd0 hU35
          replace hC13 := hC13.upd0 hU35
          replace hO12 := hO12.upd0 hU35
          replace hb18 := hb18.upd0 hU35
          replace HU := HU.trans0 hU35
          refine Wl_store (v := .int .i64 0) (cs' := [.int .i64 0]) Try.sizeOf3 rfl rfl rfl rfl hb35 rfl rfl ?_
          intro w36 hU36 hzz36 hb35n
          replace hb35 := hb35n; clear hb35n
          have hzw36 := hU36.size
          replace hdf22 := hdf22.upd1 hU36 (by omega)
          replace hb20 := hb20.upd1 hU36 (by omega)
          replace hb1 := hb1.upd1 hU36 (by omega)
          replace hb2 := hb2.upd1 hU36 (by omega)
          replace hO5 := hO5.upd1 hU36 (by intro h1; have h3 : ((w2.heap.size ≤ B35) ∧ B35 < w5.heap.size) := h1; omega)
          replace hb6 := hb6.upd1 hU36 (by omega)
          replace hb8 := hb8.upd1 hU36 (by omega)
          replace hO9 := hO9.upd1 hU36 (by intro h1; have h3 : ((w8.heap.size ≤ B35) ∧ B35 < w9.heap.size) := h1; omega)
          replace hBo13 := hBo13.upd1 hU36 (by omega)
          replace hBc13 := hBc13.upd1 hU36 (by omega)
          replace hO13 := hO13.upd1 hU36 (by intro h1; have h3 : ((w12.heap.size ≤ B35) ∧ B35 < w13.heap.size) := h1; omega)
          replace hC13 := hC13.upd1 hU36 (by intro h1; have h3 : ((w12.heap.size ≤ B35) ∧ B35 < w13.heap.size) := h1; omega)
          replace hO12 := hO12.upd1 hU36 (by intro h1; have h3 : ((((B35 = B11) ∨ B35 = w11.heap.size)) ∧ B35 < w12.heap.size) := h1; omega)
          replace hb18 := hb18.upd1 hU36 (by omega)
          replace HU := HU.trans1 hU36 (by show (False) ∨ w.heap.size ≤ B35; omega)
          refine Wl_nil ?_
          refine W_region ?_
          refine Wl_load (v := .int .i64 0) Try.isAgg3 rfl hb35 rfl ?_
          refine Wl_v (r_add rfl rfl (show IntKind.i64.wrap (0 + 1) = 1 by decide)) ?_
          refine Wl_store (v := .int .i64 1) (cs' := [.int .i64 1]) Try.sizeOf3 rfl rfl rfl rfl hb35 rfl rfl ?_
          intro w37 hU37 hzz37 hb35n
          replace hb35 := hb35n; clear hb35n
          have hzw37 := hU37.size
          replace hdf22 := hdf22.upd1 hU37 (by omega)
          replace hb20 := hb20.upd1 hU37 (by omega)
          replace hb1 := hb1.upd1 hU37 (by omega)
          replace hb2 := hb2.upd1 hU37 (by omega)
          replace hO5 := hO5.upd1 hU37 (by intro h1; have h3 : ((w2.heap.size ≤ B35) ∧ B35 < w5.heap.size) := h1; omega)
          replace hb6 := hb6.upd1 hU37 (by omega)
          replace hb8 := hb8.upd1 hU37 (by omega)
          replace hO9 := hO9.upd1 hU37 (by intro h1; have h3 : ((w8.heap.size ≤ B35) ∧ B35 < w9.heap.size) := h1; omega)
          replace hBo13 := hBo13.upd1 hU37 (by omega)
          replace hBc13 := hBc13.upd1 hU37 (by omega)
          replace hO13 := hO13.upd1 hU37 (by intro h1; have h3 : ((w12.heap.size ≤ B35) ∧ B35 < w13.heap.size) := h1; omega)
          replace hC13 := hC13.upd1 hU37 (by intro h1; have h3 : ((w12.heap.size ≤ B35) ∧ B35 < w13.heap.size) := h1; omega)
          replace hO12 := hO12.upd1 hU37 (by intro h1; have h3 : ((((B35 = B11) ∨ B35 = w11.heap.size)) ∧ B35 < w12.heap.size) := h1; omega)
          replace hb18 := hb18.upd1 hU37 (by omega)
          replace HU := HU.trans1 hU37 (by show (False) ∨ w.heap.size ≤ B35; omega)
          refine Wl_nil ?_
          refine W_seq ?_
          refine W_seq ?_
          refine W_region ?_
          refine Wl_load (v := .int .i64 1) Try.isAgg3 rfl hb35 rfl ?_
          refine Wl_v (v := .bool true) (r_lt (a := 1) (b := 2) rfl rfl) ?_
          refine Wl_nil ?_
          refine W_cond_t rfl ?_
          refine W_skip ?_
          refine W_seq ?_
          refine W_block ?_
          refine W_seq ?_
          refine W_region ?_
          refine Wl_alloc (cs := [.int .i64 0]) Try.zeroValue3 rfl ?_
          intro B38 w38 hB38 hU38 hzz38 hb38
          have hzw38 := hU38.size
          replace hdf22 := hdf22.upd0 hU38
          replace hb20 := hb20.upd0 hU38
          replace hb1 := hb1.upd0 hU38
          replace hb2 := hb2.upd0 hU38
          replace hO5 := hO5.upd0 hU38
          replace hb6 := hb6.upd0 hU38
          replace hb8 := hb8.upd0 hU38
          replace hO9 := hO9.upd0 hU38
          replace hBo13 := hBo13.upd0 hU38
          replace hBc13 := hBc13.upd0 hU38
          replace hO13 := hO13.upd0 hU38
          replace hC13 := hC13.upd0 hU38
          replace hO12 := hO12.upd0 hU38
          replace hb18 := hb18.upd0 hU38
          replace HU := HU.trans0 hU38
          replace hb35 := hb35.upd0 hU38
          refine Wl_store (v := .int .i64 0) (cs' := [.int .i64 0]) Try.sizeOf3 rfl rfl rfl rfl hb38 rfl rfl ?_
          intro w39 hU39 hzz39 hb38n
          replace hb38 := hb38n; clear hb38n
          have hzw39 := hU39.size
          replace hdf22 := hdf22.upd1 hU39 (by omega)
          replace hb20 := hb20.upd1 hU39 (by omega)
          replace hb1 := hb1.upd1 hU39 (by omega)
          replace hb2 := hb2.upd1 hU39 (by omega)
          replace hO5 := hO5.upd1 hU39 (by intro h1; have h3 : ((w2.heap.size ≤ B38) ∧ B38 < w5.heap.size) := h1; omega)
          replace hb6 := hb6.upd1 hU39 (by omega)
          replace hb8 := hb8.upd1 hU39 (by omega)
          replace hO9 := hO9.upd1 hU39 (by intro h1; have h3 : ((w8.heap.size ≤ B38) ∧ B38 < w9.heap.size) := h1; omega)
          replace hBo13 := hBo13.upd1 hU39 (by omega)
          replace hBc13 := hBc13.upd1 hU39 (by omega)
          replace hO13 := hO13.upd1 hU39 (by intro h1; have h3 : ((w12.heap.size ≤ B38) ∧ B38 < w13.heap.size) := h1; omega)
          replace hC13 := hC13.upd1 hU39 (by intro h1; have h3 : ((w12.heap.size ≤ B38) ∧ B38 < w13.heap.size) := h1; omega)
          replace hO12 := hO12.upd1 hU39 (by intro h1; have h3 : ((((B38 = B11) ∨ B38 = w11.heap.size)) ∧ B38 < w12.heap.size) := h1; omega)
          replace hb18 := hb18.upd1 hU39 (by omega)
          replace HU := HU.trans1 hU39 (by show (False) ∨ w.heap.size ≤ B38; omega)
          replace hb35 := hb35.upd1 hU39 (by omega)
          refine Wl_nil ?_
          refine W_seq ?_
          refine W_seq ?_
          refine W_region ?_
          refine Wl_v (r_mv (v := .func (.func 49) #[] #[.pointer (some ⟨Bo13, 0, none⟩), .pointer (some ⟨Bc13, 0, none⟩)]) rfl) ?_
          refine Wl_nil ?_
          refine W_block ?_
          refine W_range (gf := 49) (ar := fun y => #[y, .pointer (some ⟨Bo13, 0, none⟩), .pointer (some ⟨Bc13, 0, none⟩)]) rfl Try.call49 (fun y => by simp) ?_
          intro D40 fn40 w40 hD40 hU40 hzz40 hdf40 hrc400
          have hzw40 := hU40.size
          replace hdf22 := hdf22.upd0 hU40
          replace hb20 := hb20.upd0 hU40
          replace hb1 := hb1.upd0 hU40
          replace hb2 := hb2.upd0 hU40
          replace hO5 := hO5.upd0 hU40
          replace hb6 := hb6.upd0 hU40
          replace hb8 := hb8.upd0 hU40
          replace hO9 := hO9.upd0 hU40
          replace hBo13 := hBo13.upd0 hU40
          replace hBc13 := hBc13.upd0 hU40
          replace hO13 := hO13.upd0 hU40
          replace hC13 := hC13.upd0 hU40
          replace hO12 := hO12.upd0 hU40
          replace hb18 := hb18.upd0 hU40
          replace HU := HU.trans0 hU40
          replace hb35 := hb35.upd0 hU40
          replace hb38 := hb38.upd0 hU40
          obtain ⟨r40, hr40, hrc40⟩ : ∃ r, r = _ ∧ Rec w40 (D40 + 1) r := ⟨_, rfl, hrc400⟩
          clear hrc400
          obtain ⟨J40, hJ40⟩ : ∃ J : Nat → World → Prop, ∀ i w', J i w' ↔ (Rec w' (D40 + 1) r40 ∧ Dfr w' D40 ∧ Blk w' B38 [.int .i64 ((i : Nat) : Int)] ∧ Dfr w' D22 ∧ Blk w' B20 [.int .i64 ((m13 : Nat) : Int)] ∧ Blk w' B1 [.int .i64 many] ∧ Blk w' B2 [.bool false] ∧ Own w' (fun g => ((w2.heap.size ≤ g) ∧ g < w5.heap.size)) 37 2 (.slice a5 n c5) n (rows encC (cds l)) ∧ Blk w' B6 [.slice a5 n c5] ∧ Blk w' B8 [.slice a9 m9 c9] ∧ Own w' (fun g => ((w8.heap.size ≤ g) ∧ g < w9.heap.size)) 3 1 (.slice a9 m9 c9) m9 (ints .i64 (ord l)) ∧ Blk w' Bo13 [.slice a13 m13 c13] ∧ Blk w' Bc13 [.slice b13 n13 d13] ∧ Own w' (fun g => ((w12.heap.size ≤ g) ∧ g < w13.heap.size)) 3 1 (.slice a13 m13 c13) m13 (ints .i64 (ord l)) ∧ Own w' (fun g => ((w12.heap.size ≤ g) ∧ g < w13.heap.size)) 37 2 (.slice b13 n13 d13) n13 (rows encC (cds l)) ∧ Own w' (fun g => ((((g = B11) ∨ g = w11.heap.size)) ∧ g < w12.heap.size)) 3 1 (.slice a12 n c12) n (ints .i64 ys) ∧ Blk w' B18 [.int .i64 0] ∧ Blk w' B35 [.int .i64 1] ∧ Upd No w w') := ⟨_, fun _ _ => Iff.rfl⟩
          obtain ⟨Jx40, hJx40⟩ : ∃ Jx : World → Prop, ∀ w', Jx w' ↔ (False) := ⟨_, fun _ => Iff.rfl⟩
          refine (all1_spec (ly := (D40 + 1)) (J := J40) (Jx := Jx40) (Sb := (fun g => g = B38 ∨ g = D40 + 1)) (R := fun g => ((w12.heap.size ≤ g) ∧ g < w13.heap.size)) (T := fun g => ((w12.heap.size ≤ g) ∧ g < w13.heap.size)) w40 hBo13 hO13.sl hBc13 hC13.sl (by omega) (by omega) (fun i hi => by obtain ⟨jx, e1, e2, _⟩ := ord_at (l := l) (i := i) (by omega); omega) (by intro g h1 h2; have h3 : ((w12.heap.size ≤ g) ∧ g < w13.heap.size) := h1; have h4 : g = B38 ∨ g = D40 + 1 := h2; omega) (by show ¬ (_ ∨ _); omega) (by intro g h1 h2; have h3 : ((w12.heap.size ≤ g) ∧ g < w13.heap.size) := h1; have h4 : g = B38 ∨ g = D40 + 1 := h2; omega) ?_ ?_).mono ?_
          · exact (hJ40 _ _).2 ⟨hrc40, hdf40, hb38, hdf22, hb20, hb1, hb2, hO5, hb6, hb8, hO9, hBo13, hBc13, hO13, hC13, hO12, hb18, hb35, HU⟩
          · intro i41 w41 hi41 hh
            obtain ⟨hrc40, hdf40, hb38, hdf22, hb20, hb1, hb2, hO5, hb6, hb8, hO9, hBo13, hBc13, hO13, hC13, hO12, hb18, hb35, HU⟩ := (hJ40 _ _).1 hh
            have hrl40 := hrc40.lt
            obtain ⟨jx, hjx, hjn, _⟩ := ord_at (l := l) (i := i41) (by omega)
            have HB40 : Upd (fun g => g = B38 ∨ g = D40 + 1) w41 w41 := Upd.refl _ _
            refine yieldC_of_W (R := fun b c w' => (b = true ∧ Upd (fun g => g = B38 ∨ g = D40 + 1) w41 w' ∧ J40 (i41 + 1) w') ∨ (b = false ∧ Jx40 w')) hrc40 (by rw [hr40]; rfl) (by rw [hr40]; exact zip2 _ _ _ _ _ _) ?_ ?_
            · rw [hr40]
              refine W_seq ?_
              refine W_region ?_
              refine Wl_v (r_as (v := .int .i64 ((ord l).getD i41 0)) rfl) ?_
              refine Wl_nil ?_
              refine W_region ?_
              refine Wl_alloc (cs := [.int .i64 0, .int .u32 0]) Try.zeroValue37 rfl ?_
              intro B42 w42 hB42 hU42 hzz42 hb42
              have hzw42 := hU42.size
              replace hrc40 := hrc40.upd0 hU42
              replace hdf40 := hdf40.upd0 hU42
              replace hb38 := hb38.upd0 hU42
              replace hdf22 := hdf22.upd0 hU42
              replace hb20 := hb20.upd0 hU42
              replace hb1 := hb1.upd0 hU42
              replace hb2 := hb2.upd0 hU42
              replace hO5 := hO5.upd0 hU42
              replace hb6 := hb6.upd0 hU42
              replace hb8 := hb8.upd0 hU42
              replace hO9 := hO9.upd0 hU42
              replace hBo13 := hBo13.upd0 hU42
              replace hBc13 := hBc13.upd0 hU42
              replace hO13 := hO13.upd0 hU42
              replace hC13 := hC13.upd0 hU42
              replace hO12 := hO12.upd0 hU42
              replace hb18 := hb18.upd0 hU42
              replace hb35 := hb35.upd0 hU42
              replace HU := HU.trans0 hU42
              replace HB40 := HB40.trans0 hU42
              refine Wl_storea (off := 0) (vs := [.int .i64 (((cds l).getD ((ord l).getD i41 0).toNat (0, 0)).1), .int .u32 (((cds l).getD ((ord l).getD i41 0).toNat (0, 0)).2)]) (cs' := [.int .i64 (((cds l).getD ((ord l).getD i41 0).toNat (0, 0)).1), .int .u32 (((cds l).getD ((ord l).getD i41 0).toNat (0, 0)).2)]) Try.sizeOf37 rfl rfl rfl (by simp only [List.mem_cons, List.not_mem_nil, or_false, forall_eq_or_imp, forall_eq]; exact ⟨rfl, rfl⟩) hb42 (by simp) rfl ?_
              intro w43 hU43 hzz43 hb42n
              replace hb42 := hb42n; clear hb42n
              have hzw43 := hU43.size
              replace hrc40 := hrc40.upd1 hU43 (by omega)
              replace hdf40 := hdf40.upd1 hU43 (by omega)
              replace hb38 := hb38.upd1 hU43 (by omega)
              replace hdf22 := hdf22.upd1 hU43 (by omega)
              replace hb20 := hb20.upd1 hU43 (by omega)
              replace hb1 := hb1.upd1 hU43 (by omega)
              replace hb2 := hb2.upd1 hU43 (by omega)
              replace hO5 := hO5.upd1 hU43 (by intro h1; have h3 : ((w2.heap.size ≤ B42) ∧ B42 < w5.heap.size) := h1; omega)
              replace hb6 := hb6.upd1 hU43 (by omega)
              replace hb8 := hb8.upd1 hU43 (by omega)
              replace hO9 := hO9.upd1 hU43 (by intro h1; have h3 : ((w8.heap.size ≤ B42) ∧ B42 < w9.heap.size) := h1; omega)
              replace hBo13 := hBo13.upd1 hU43 (by omega)
              replace hBc13 := hBc13.upd1 hU43 (by omega)
              replace hO13 := hO13.upd1 hU43 (by intro h1; have h3 : ((w12.heap.size ≤ B42) ∧ B42 < w13.heap.size) := h1; omega)
              replace hC13 := hC13.upd1 hU43 (by intro h1; have h3 : ((w12.heap.size ≤ B42) ∧ B42 < w13.heap.size) := h1; omega)
              replace hO12 := hO12.upd1 hU43 (by intro h1; have h3 : ((((B42 = B11) ∨ B42 = w11.heap.size)) ∧ B42 < w12.heap.size) := h1; omega)
              replace hb18 := hb18.upd1 hU43 (by omega)
              replace hb35 := hb35.upd1 hU43 (by omega)
              replace HU := HU.trans1 hU43 (by show (False) ∨ w.heap.size ≤ B42; omega)
              replace HB40 := HB40.trans1 hU43 (by show (B42 = B38 ∨ B42 = D40 + 1) ∨ w41.heap.size ≤ B42; omega)
              refine Wl_nil ?_
              refine ⟨rfl, _, hrc40, (by rw [hr40]), ?_⟩
              intro w44 hU44 hzz44 hrc40b
              have hzw44 := hU44.size
              replace hdf40 := hdf40.upd1 hU44 (by omega)
              replace hb38 := hb38.upd1 hU44 (by omega)
              replace hdf22 := hdf22.upd1 hU44 (by omega)
              replace hb20 := hb20.upd1 hU44 (by omega)
              replace hb1 := hb1.upd1 hU44 (by omega)
              replace hb2 := hb2.upd1 hU44 (by omega)
              replace hO5 := hO5.upd1 hU44 (by intro h1; have h3 : ((w2.heap.size ≤ (D40 + 1)) ∧ (D40 + 1) < w5.heap.size) := h1; omega)
              replace hb6 := hb6.upd1 hU44 (by omega)
              replace hb8 := hb8.upd1 hU44 (by omega)
              replace hO9 := hO9.upd1 hU44 (by intro h1; have h3 : ((w8.heap.size ≤ (D40 + 1)) ∧ (D40 + 1) < w9.heap.size) := h1; omega)
              replace hBo13 := hBo13.upd1 hU44 (by omega)
              replace hBc13 := hBc13.upd1 hU44 (by omega)
              replace hO13 := hO13.upd1 hU44 (by intro h1; have h3 : ((w12.heap.size ≤ (D40 + 1)) ∧ (D40 + 1) < w13.heap.size) := h1; omega)
              replace hC13 := hC13.upd1 hU44 (by intro h1; have h3 : ((w12.heap.size ≤ (D40 + 1)) ∧ (D40 + 1) < w13.heap.size) := h1; omega)
              replace hO12 := hO12.upd1 hU44 (by intro h1; have h3 : (((((D40 + 1) = B11) ∨ (D40 + 1) = w11.heap.size)) ∧ (D40 + 1) < w12.heap.size) := h1; omega)
              replace hb18 := hb18.upd1 hU44 (by omega)
              replace hb35 := hb35.upd1 hU44 (by omega)
              replace HU := HU.trans1 hU44 (by show (False) ∨ w.heap.size ≤ (D40 + 1); omega)
              replace HB40 := HB40.trans1 hU44 (by show ((D40 + 1) = B38 ∨ (D40 + 1) = D40 + 1) ∨ w41.heap.size ≤ (D40 + 1); omega)
              replace hb42 := hb42.upd1 hU44 (by omega)
              clear hrc40
              have hrc40 := hrc40b
              clear hrc40b
              refine W_block ?_
              refine W_seq ?_
              refine W_seq ?_
              refine W_drawt rfl (l0 := #[false, false, false, false, false, false, false, false, false, false, false, false, false, false, false, false, false, false, false, false]) (by kernel_rfl) ?_
              refine Wt_take (i := 0) (listed' := #[true, false, false, false, false, false, false, false, false, false, false, false, false, false, false, false, false, false, false, false]) (by kernel_rfl) rfl (by kernel_rfl) (by kernel_rfl) (by kernel_rfl) (by kernel_rfl) (YI_v (v := .int .i64 ((i41 : Nat) : Int)) rfl (fun w' hw' => r_load Try.isAgg3 rfl (by rw [(hb38.upd0 hw').cell]; rfl))) ?_
              refine Wt_take (i := 1) (listed' := #[true, true, false, false, false, false, false, false, false, false, false, false, false, false, false, false, false, false, false, false]) (by kernel_rfl) rfl (by kernel_rfl) (by kernel_rfl) (by kernel_rfl) (by kernel_rfl) (YI_v (v := .slice a9 m9 c9) rfl (fun w' hw' => r_load Try.isAgg22 rfl (by rw [(hb8.upd0 hw').cell]; rfl))) ?_
              refine Wt_take (i := 2) (listed' := #[true, true, true, false, false, false, false, false, false, false, false, false, false, false, false, false, false, false, false, false]) (by kernel_rfl) rfl (by kernel_rfl) (by kernel_rfl) (by kernel_rfl) (by kernel_rfl) (YI_v (v := .int .i64 ((m9 : Nat) : Int)) rfl (fun w' hw' => r_len Try.underlying22 rfl)) ?_
              refine Wt_take (i := 3) (listed' := #[true, true, true, true, false, false, false, false, false, false, false, false, false, false, false, false, false, false, false, false]) (by kernel_rfl) rfl (by kernel_rfl) (by kernel_rfl) (by kernel_rfl) (by kernel_rfl) (YI_v (v := .bool (decide (((m9 : Nat) : Int) ≤ ((i41 : Nat) : Int)))) rfl (fun w' hw' => r_ge rfl rfl)) ?_
              refine Wt_take (i := 4) (listed' := #[true, true, true, true, true, false, false, false, false, false, false, false, false, false, false, false, false, false, false, false]) (by kernel_rfl) rfl (by kernel_rfl) (by kernel_rfl) (by kernel_rfl) (by kernel_rfl) (YI_v (v := .bool (decide (((m9 : Nat) : Int) ≤ ((i41 : Nat) : Int)))) rfl (fun w' hw' => r_mv (v := .bool (decide (((m9 : Nat) : Int) ≤ ((i41 : Nat) : Int)))) rfl)) ?_
              have q9 : ¬ (((m9 : Nat) : Int) ≤ ((i41 : Nat) : Int)) := (by omega)
              rw [decide_eq_false q9]
              refine Wt_take (i := 5) (listed' := #[true, true, true, true, true, true, false, false, false, false, false, false, false, false, false, false, false, false, false, false]) (by kernel_rfl) rfl (by kernel_rfl) (by kernel_rfl) (by kernel_rfl) (by kernel_rfl) (YI_v (v := .int .i64 ((ord l).getD i41 0)) rfl (fun w' hw' => r_mv (v := .int .i64 ((ord l).getD i41 0)) rfl)) ?_
              refine Wt_take (i := 6) (listed' := #[true, true, true, true, true, true, true, false, false, false, false, false, false, false, false, false, false, false, false, false]) (by kernel_rfl) rfl (by kernel_rfl) (by kernel_rfl) (by kernel_rfl) (by kernel_rfl) (YI_v (v := .slice a9 m9 c9) rfl (fun w' hw' => r_load Try.isAgg22 rfl (by rw [(hb8.upd0 hw').cell]; rfl))) ?_
              refine Wt_take (i := 7) (listed' := #[true, true, true, true, true, true, true, true, false, false, false, false, false, false, false, false, false, false, false, false]) (by kernel_rfl) rfl (by kernel_rfl) (by kernel_rfl) (by kernel_rfl) (by kernel_rfl) (YI_v (v := .int .i64 ((i41 : Nat) : Int)) rfl (fun w' hw' => r_load Try.isAgg3 rfl (by rw [(hb38.upd0 hw').cell]; rfl))) ?_
              obtain ⟨ib45, io45, ha45, hib45, hc45⟩ := (hO9.sl).iat (i := i41) (by omega)
              replace hib45 : ((w8.heap.size ≤ ib45) ∧ ib45 < w9.heap.size) := hib45
              refine Wt_take (i := 8) (listed' := #[true, true, true, true, true, true, true, true, true, false, false, false, false, false, false, false, false, false, false, false]) (by kernel_rfl) rfl (by kernel_rfl) (by kernel_rfl) (by kernel_rfl) (by kernel_rfl) (YI_v (v := .pointer (some ⟨ib45, io45 + i41, none⟩)) rfl (fun w' hw' => r_idx (b := ib45) (off := io45) (m := m9) (c := c9) (o' := io45 + i41) Try.underlying22 Try.sizeOf3 (by rw [← ha45]; rfl) rfl (by omega) (by omega) (by omega))) ?_
              refine Wt_take (i := 9) (listed' := #[true, true, true, true, true, true, true, true, true, true, false, false, false, false, false, false, false, false, false, false]) (by kernel_rfl) rfl (by kernel_rfl) (by kernel_rfl) (by kernel_rfl) (by kernel_rfl) (YI_v (v := .int .i64 ((ord l).getD i41 0)) rfl (fun w' hw' => r_load Try.isAgg3 rfl (hw'.cellk hc45))) ?_
              refine Wt_take (i := 10) (listed' := #[true, true, true, true, true, true, true, true, true, true, true, false, false, false, false, false, false, false, false, false]) (by kernel_rfl) rfl (by kernel_rfl) (by kernel_rfl) (by kernel_rfl) (by kernel_rfl) (YI_v (v := .bool (decide (((ord l).getD i41 0) ≠ ((ord l).getD i41 0)))) rfl (fun w' hw' => r_ne rfl rfl)) ?_
              refine Wt_take (i := 11) (listed' := #[true, true, true, true, true, true, true, true, true, true, true, true, false, false, false, false, false, false, false, false]) (by kernel_rfl) rfl (by kernel_rfl) (by kernel_rfl) (by kernel_rfl) (by kernel_rfl) (YI_v rfl (fun w' hw' => r_pick_f (v := .bool (decide (((ord l).getD i41 0) ≠ ((ord l).getD i41 0)))) rfl rfl)) ?_
              refine Wt_take (i := 12) (listed' := #[true, true, true, true, true, true, true, true, true, true, true, true, true, false, false, false, false, false, false, false]) (by kernel_rfl) rfl (by kernel_rfl) (by kernel_rfl) (by kernel_rfl) (by kernel_rfl) (YI_v (v := .bool (decide (((ord l).getD i41 0) ≠ ((ord l).getD i41 0)))) rfl (fun w' hw' => r_mv (v := .bool (decide (((ord l).getD i41 0) ≠ ((ord l).getD i41 0)))) rfl)) ?_
              have q10 : ¬ (((ord l).getD i41 0) ≠ ((ord l).getD i41 0)) := (fun h => h rfl)
              rw [decide_eq_false q10]
              refine Wt_take (i := 13) (listed' := #[true, true, true, true, true, true, true, true, true, true, true, true, true, true, false, false, false, false, false, false]) (by kernel_rfl) rfl (by kernel_rfl) (by kernel_rfl) (by kernel_rfl) (by kernel_rfl) (YI_v (v := .agg #[.int .i64 (((cds l).getD ((ord l).getD i41 0).toNat (0, 0)).1), .int .u32 (((cds l).getD ((ord l).getD i41 0).toNat (0, 0)).2)]) rfl (fun w' hw' => r_loada (b := B42) (off := 0) (cs := [.int .i64 (((cds l).getD ((ord l).getD i41 0).toNat (0, 0)).1), .int .u32 (((cds l).getD ((ord l).getD i41 0).toNat (0, 0)).2)]) Try.isAgg37 Try.sizeOf37 rfl rfl (fun j hj => by rw [(hb42.upd0 hw').cell]; match j, hj with | 0, _ => rfl | 1, _ => rfl))) ?_
              refine Wt_take (i := 14) (listed' := #[true, true, true, true, true, true, true, true, true, true, true, true, true, true, true, false, false, false, false, false]) (by kernel_rfl) rfl (by kernel_rfl) (by kernel_rfl) (by kernel_rfl) (by kernel_rfl) (YI_v (v := .slice a5 n c5) rfl (fun w' hw' => r_load Try.isAgg28 rfl (by rw [(hb6.upd0 hw').cell]; rfl))) ?_
              refine Wt_take (i := 15) (listed' := #[true, true, true, true, true, true, true, true, true, true, true, true, true, true, true, true, false, false, false, false]) (by kernel_rfl) rfl (by kernel_rfl) (by kernel_rfl) (by kernel_rfl) (by kernel_rfl) (YI_v (v := .int .i64 ((ord l).getD i41 0)) rfl (fun w' hw' => r_mv (v := .int .i64 ((ord l).getD i41 0)) rfl)) ?_
              obtain ⟨ib46, io46, ha46, hib46, hc46⟩ := Sl.rat (0, 0) encC_len (by decide) (hO5.sl) (i := ((ord l).getD i41 0).toNat) (by omega)
              refine Wt_take (i := 16) (listed' := #[true, true, true, true, true, true, true, true, true, true, true, true, true, true, true, true, true, false, false, false]) (by kernel_rfl) rfl (by kernel_rfl) (by kernel_rfl) (by kernel_rfl) (by kernel_rfl) (YI_v (v := .pointer (some ⟨ib46, io46 + (((ord l).getD i41 0).toNat) * 2, none⟩)) rfl (fun w' hw' => r_idx (b := ib46) (off := io46) (m := n) (c := c5) (o' := io46 + (((ord l).getD i41 0).toNat) * 2) Try.underlying28 Try.sizeOf37 (by rw [← ha46]; rfl) rfl (by omega) (by omega) (by omega))) ?_
              refine Wt_take (i := 17) (listed' := #[true, true, true, true, true, true, true, true, true, true, true, true, true, true, true, true, true, true, false, false]) (by kernel_rfl) rfl (by kernel_rfl) (by kernel_rfl) (by kernel_rfl) (by kernel_rfl) (YI_v (v := .agg #[.int .i64 (((cds l).getD ((ord l).getD i41 0).toNat (0, 0)).1), .int .u32 (((cds l).getD ((ord l).getD i41 0).toNat (0, 0)).2)]) rfl (fun w' hw' => r_loada (cs := [.int .i64 (((cds l).getD ((ord l).getD i41 0).toNat (0, 0)).1), .int .u32 (((cds l).getD ((ord l).getD i41 0).toNat (0, 0)).2)]) Try.isAgg37 Try.sizeOf37 rfl rfl (hw'.cellsk rfl hc46))) ?_
              refine Wt_take (i := 18) (listed' := #[true, true, true, true, true, true, true, true, true, true, true, true, true, true, true, true, true, true, true, false]) (by kernel_rfl) rfl (by kernel_rfl) (by kernel_rfl) (by kernel_rfl) (by kernel_rfl) (YI_v (v := .bool (!decide ((((cds l).getD ((ord l).getD i41 0).toNat (0, 0)).1) = (((cds l).getD ((ord l).getD i41 0).toNat (0, 0)).1) ∧ (((cds l).getD ((ord l).getD i41 0).toNat (0, 0)).2) = (((cds l).getD ((ord l).getD i41 0).toNat (0, 0)).2)))) rfl (fun w' hw' => r_neag (pp := (((cds l).getD ((ord l).getD i41 0).toNat (0, 0)).1) = (((cds l).getD ((ord l).getD i41 0).toNat (0, 0)).1) ∧ (((cds l).getD ((ord l).getD i41 0).toNat (0, 0)).2) = (((cds l).getD ((ord l).getD i41 0).toNat (0, 0)).2)) Try.underlying37 (by kernel_rfl) (by kernel_rfl) rfl rfl (fun w => eqf_int (by decide) Try.underlying3 Try.isAgg3 rfl rfl (fun w => eqf_int (by decide) Try.underlying35 Try.isAgg35 rfl rfl (fun w => eqf_nil))) (by simp [Bool.decide_and]))) ?_
              refine Wt_take (i := 19) (listed' := #[true, true, true, true, true, true, true, true, true, true, true, true, true, true, true, true, true, true, true, true]) (by kernel_rfl) rfl (by kernel_rfl) (by kernel_rfl) (by kernel_rfl) (by kernel_rfl) (YI_v rfl (fun w' hw' => r_pick_f (v := .bool (!decide ((((cds l).getD ((ord l).getD i41 0).toNat (0, 0)).1) = (((cds l).getD ((ord l).getD i41 0).toNat (0, 0)).1) ∧ (((cds l).getD ((ord l).getD i41 0).toNat (0, 0)).2) = (((cds l).getD ((ord l).getD i41 0).toNat (0, 0)).2)))) rfl rfl)) ?_
              intro w47 hU47
              have hzw47 := hU47.size
              replace hrc40 := hrc40.upd0 hU47
              replace hdf40 := hdf40.upd0 hU47
              replace hb38 := hb38.upd0 hU47
              replace hdf22 := hdf22.upd0 hU47
              replace hb20 := hb20.upd0 hU47
              replace hb1 := hb1.upd0 hU47
              replace hb2 := hb2.upd0 hU47
              replace hO5 := hO5.upd0 hU47
              replace hb6 := hb6.upd0 hU47
              replace hb8 := hb8.upd0 hU47
              replace hO9 := hO9.upd0 hU47
              replace hBo13 := hBo13.upd0 hU47
              replace hBc13 := hBc13.upd0 hU47
              replace hO13 := hO13.upd0 hU47
              replace hC13 := hC13.upd0 hU47
              replace hO12 := hO12.upd0 hU47
              replace hb18 := hb18.upd0 hU47
              replace hb35 := hb35.upd0 hU47
              replace HU := HU.trans0 hU47
              replace HB40 := HB40.trans0 hU47
              replace hb42 := hb42.upd0 hU47
              replace hc45 := cell_upd0 hU47 hc45
              refine Wa_done (by kernel_rfl) ?_
              have q11 : (((cds l).getD ((ord l).getD i41 0).toNat (0, 0)).1) = (((cds l).getD ((ord l).getD i41 0).toNat (0, 0)).1) ∧ (((cds l).getD ((ord l).getD i41 0).toNat (0, 0)).2) = (((cds l).getD ((ord l).getD i41 0).toNat (0, 0)).2) := ⟨rfl, rfl⟩
              rw [decide_eq_true q11]
              simp only [Bool.not_true, Bool.not_false]
              refine W_cond_f rfl ?_
              refine W_skip ?_
              refine W_seq ?_
              refine W_region ?_
              refine Wl_load (v := .int .i64 ((i41 : Nat) : Int)) Try.isAgg3 rfl hb38 rfl ?_
              refine Wl_v (r_add rfl rfl (wi64 (by omega) (by omega))) ?_
              refine Wl_store (v := .int .i64 (((i41 : Nat) : Int) + 1)) (cs' := [.int .i64 (((i41 : Nat) : Int) + 1)]) Try.sizeOf3 rfl rfl rfl rfl hb38 rfl rfl ?_
              intro w48 hU48 hzz48 hb38n
              replace hb38 := hb38n; clear hb38n
              have hzw48 := hU48.size
              replace hrc40 := hrc40.upd1 hU48 (by omega)
              replace hdf40 := hdf40.upd1 hU48 (by omega)
              replace hdf22 := hdf22.upd1 hU48 (by omega)
              replace hb20 := hb20.upd1 hU48 (by omega)
              replace hb1 := hb1.upd1 hU48 (by omega)
              replace hb2 := hb2.upd1 hU48 (by omega)
              replace hO5 := hO5.upd1 hU48 (by intro h1; have h3 : ((w2.heap.size ≤ B38) ∧ B38 < w5.heap.size) := h1; omega)
              replace hb6 := hb6.upd1 hU48 (by omega)
              replace hb8 := hb8.upd1 hU48 (by omega)
              replace hO9 := hO9.upd1 hU48 (by intro h1; have h3 : ((w8.heap.size ≤ B38) ∧ B38 < w9.heap.size) := h1; omega)
              replace hBo13 := hBo13.upd1 hU48 (by omega)
              replace hBc13 := hBc13.upd1 hU48 (by omega)
              replace hO13 := hO13.upd1 hU48 (by intro h1; have h3 : ((w12.heap.size ≤ B38) ∧ B38 < w13.heap.size) := h1; omega)
              replace hC13 := hC13.upd1 hU48 (by intro h1; have h3 : ((w12.heap.size ≤ B38) ∧ B38 < w13.heap.size) := h1; omega)
              replace hO12 := hO12.upd1 hU48 (by intro h1; have h3 : ((((B38 = B11) ∨ B38 = w11.heap.size)) ∧ B38 < w12.heap.size) := h1; omega)
              replace hb18 := hb18.upd1 hU48 (by omega)
              replace hb35 := hb35.upd1 hU48 (by omega)
              replace HU := HU.trans1 hU48 (by show (False) ∨ w.heap.size ≤ B38; omega)
              replace HB40 := HB40.trans1 hU48 (by show (B38 = B38 ∨ B38 = D40 + 1) ∨ w41.heap.size ≤ B38; omega)
              replace hb42 := hb42.upd1 hU48 (by omega)
              replace hc45 := cell_upd1 hU48 hc45 (by show ib45 ≠ B38; omega)
              refine Wl_nil ?_
              refine W_seq ?_
              refine W_region ?_
              refine Wl_load (v := .int .i64 1) Try.isAgg3 rfl hb35 rfl ?_
              refine Wl_v (v := .bool false) (r_eq (a := 1) (b := 0) rfl rfl) ?_
              refine Wl_v (r_mv (v := .bool false) rfl) ?_
              refine Wl_guard_f rfl ?_
              refine Wl_guard_f rfl ?_
              refine Wl_guard_f rfl ?_
              refine Wl_v (r_pick_f (v := .bool false) rfl rfl) ?_
              refine Wl_nil ?_
              refine W_cond_f rfl ?_
              refine W_skip ?_
              refine ⟨rfl, _, hrc40, ?_⟩
              intro w49 hU49 hzz49 hrz
              have hzw49 := hU49.size
              replace hdf40 := hdf40.upd1 hU49 (by omega)
              replace hb38 := hb38.upd1 hU49 (by omega)
              replace hdf22 := hdf22.upd1 hU49 (by omega)
              replace hb20 := hb20.upd1 hU49 (by omega)
              replace hb1 := hb1.upd1 hU49 (by omega)
              replace hb2 := hb2.upd1 hU49 (by omega)
              replace hO5 := hO5.upd1 hU49 (by intro h1; have h3 : ((w2.heap.size ≤ (D40 + 1)) ∧ (D40 + 1) < w5.heap.size) := h1; omega)
              replace hb6 := hb6.upd1 hU49 (by omega)
              replace hb8 := hb8.upd1 hU49 (by omega)
              replace hO9 := hO9.upd1 hU49 (by intro h1; have h3 : ((w8.heap.size ≤ (D40 + 1)) ∧ (D40 + 1) < w9.heap.size) := h1; omega)
              replace hBo13 := hBo13.upd1 hU49 (by omega)
              replace hBc13 := hBc13.upd1 hU49 (by omega)
              replace hO13 := hO13.upd1 hU49 (by intro h1; have h3 : ((w12.heap.size ≤ (D40 + 1)) ∧ (D40 + 1) < w13.heap.size) := h1; omega)
              replace hC13 := hC13.upd1 hU49 (by intro h1; have h3 : ((w12.heap.size ≤ (D40 + 1)) ∧ (D40 + 1) < w13.heap.size) := h1; omega)
              replace hO12 := hO12.upd1 hU49 (by intro h1; have h3 : (((((D40 + 1) = B11) ∨ (D40 + 1) = w11.heap.size)) ∧ (D40 + 1) < w12.heap.size) := h1; omega)
              replace hb18 := hb18.upd1 hU49 (by omega)
              replace hb35 := hb35.upd1 hU49 (by omega)
              replace HU := HU.trans1 hU49 (by show (False) ∨ w.heap.size ≤ (D40 + 1); omega)
              replace HB40 := HB40.trans1 hU49 (by show ((D40 + 1) = B38 ∨ (D40 + 1) = D40 + 1) ∨ w41.heap.size ≤ (D40 + 1); omega)
              replace hb42 := hb42.upd1 hU49 (by omega)
              replace hc45 := cell_upd1 hU49 hc45 (by show ib45 ≠ (D40 + 1); omega)
              exact Or.inl ⟨rfl, HB40, (hJ40 _ _).2 ⟨(by rw [hr40]; rw [hr40] at hrz; exact hrz), hdf40, hb38, hdf22, hb20, hb1, hb2, hO5, hb6, hb8, hO9, hBo13, hBc13, hO13, hC13, hO12, hb18, hb35, HU⟩⟩
            · rintro b c w9 (⟨rfl, h1, h2⟩ | ⟨rfl, h1⟩)
              · exact Or.inl ⟨rfl, h1, h2⟩
              · exact Or.inr ⟨rfl, h1⟩
          rintro e w50 ⟨v, rfl, hh | hh⟩
          · obtain ⟨hrc40, hdf40, hb38, hdf22, hb20, hb1, hb2, hO5, hb6, hb8, hO9, hBo13, hBc13, hO13, hC13, hO12, hb18, hb35, HU⟩ := (hJ40 _ _).1 hh
            have hrl40 := hrc40.lt
            refine ⟨r40, hrc40, (by rw [hr40]; simp), ?_⟩
            intro w51 hU51 hzz51
            have hzw51 := hU51.size
            replace hdf40 := hdf40.upd1 hU51 (by omega)
            replace hb38 := hb38.upd1 hU51 (by omega)
            replace hdf22 := hdf22.upd1 hU51 (by omega)
            replace hb20 := hb20.upd1 hU51 (by omega)
            replace hb1 := hb1.upd1 hU51 (by omega)
            replace hb2 := hb2.upd1 hU51 (by omega)
            replace hO5 := hO5.upd1 hU51 (by intro h1; have h3 : ((w2.heap.size ≤ (D40 + 1)) ∧ (D40 + 1) < w5.heap.size) := h1; omega)
            replace hb6 := hb6.upd1 hU51 (by omega)
            replace hb8 := hb8.upd1 hU51 (by omega)
            replace hO9 := hO9.upd1 hU51 (by intro h1; have h3 : ((w8.heap.size ≤ (D40 + 1)) ∧ (D40 + 1) < w9.heap.size) := h1; omega)
            replace hBo13 := hBo13.upd1 hU51 (by omega)
            replace hBc13 := hBc13.upd1 hU51 (by omega)
            replace hO13 := hO13.upd1 hU51 (by intro h1; have h3 : ((w12.heap.size ≤ (D40 + 1)) ∧ (D40 + 1) < w13.heap.size) := h1; omega)
            replace hC13 := hC13.upd1 hU51 (by intro h1; have h3 : ((w12.heap.size ≤ (D40 + 1)) ∧ (D40 + 1) < w13.heap.size) := h1; omega)
            replace hO12 := hO12.upd1 hU51 (by intro h1; have h3 : (((((D40 + 1) = B11) ∨ (D40 + 1) = w11.heap.size)) ∧ (D40 + 1) < w12.heap.size) := h1; omega)
            replace hb18 := hb18.upd1 hU51 (by omega)
            replace hb35 := hb35.upd1 hU51 (by omega)
            replace HU := HU.trans1 hU51 (by show (False) ∨ w.heap.size ≤ (D40 + 1); omega)
            rw [hr40]
            skip
            refine W_seq ?_
            refine W_region ?_
            refine Wl_load (v := .int .i64 1) Try.isAgg3 rfl hb35 rfl ?_
            refine Wl_v (v := .bool false) (r_eq (a := 1) (b := 0) rfl rfl) ?_
            refine Wl_v (r_mv (v := .bool false) rfl) ?_
            refine Wl_guard_f rfl ?_
            refine Wl_guard_f rfl ?_
            refine Wl_guard_f rfl ?_
            refine Wl_guard_f rfl ?_
            refine Wl_guard_f rfl ?_
            refine Wl_guard_f rfl ?_
            refine Wl_guard_f rfl ?_
            refine Wl_v (r_pick_f (v := .bool false) rfl rfl) ?_
            refine Wl_v (r_mv (v := .bool false) rfl) ?_
            refine Wl_guard_t rfl ?_
            refine Wl_load (v := .int .i64 1) Try.isAgg3 rfl hb35 rfl ?_
            refine Wl_guard_t rfl ?_
            refine Wl_v (v := .bool true) (r_eq (a := 1) (b := 1) rfl rfl) ?_
            refine Wl_guard_t rfl ?_
            refine Wl_v (r_mv (v := .bool true) rfl) ?_
            refine Wl_guard_t rfl ?_
            refine Wl_load (v := .int .i64 ((m13 : Nat) : Int)) Try.isAgg3 rfl hb38 rfl ?_
            refine Wl_guard_t rfl ?_
            refine Wl_load (v := .slice a9 m9 c9) Try.isAgg22 rfl hb8 rfl ?_
            refine Wl_guard_t rfl ?_
            refine Wl_v (r_len Try.underlying22 rfl) ?_
            refine Wl_guard_t rfl ?_
            refine Wl_v (r_ne rfl rfl) ?_
            refine Wl_guard_t rfl ?_
            refine Wl_v (r_pick_t (v := .bool (decide (((m13 : Nat) : Int) ≠ ((m9 : Nat) : Int)))) rfl rfl) ?_
            refine Wl_v (r_pick_f (v := .bool (decide (((m13 : Nat) : Int) ≠ ((m9 : Nat) : Int)))) rfl rfl) ?_
            refine Wl_nil ?_
            have q12 : ¬ (((m13 : Nat) : Int) ≠ ((m9 : Nat) : Int)) := (by omega)
            rw [decide_eq_false q12]
            refine W_cond_f rfl ?_
            refine W_skip ?_
            refine W_seq ?_
            refine W_seq ?_
            refine W_region ?_
            refine Wl_load (v := .int .i64 1) Try.isAgg3 rfl hb35 rfl ?_
            refine Wl_nil ?_
            refine W_region ?_
            refine Wl_alloc (cs := [.int .i64 0]) Try.zeroValue3 rfl ?_
            intro B52 w52 hB52 hU52 hzz52 hb52
            have hzw52 := hU52.size
            replace hdf40 := hdf40.upd0 hU52
            replace hb38 := hb38.upd0 hU52
            replace hdf22 := hdf22.upd0 hU52
            replace hb20 := hb20.upd0 hU52
            replace hb1 := hb1.upd0 hU52
            replace hb2 := hb2.upd0 hU52
            replace hO5 := hO5.upd0 hU52
            replace hb6 := hb6.upd0 hU52
            replace hb8 := hb8.upd0 hU52
            replace hO9 := hO9.upd0 hU52
            replace hBo13 := hBo13.upd0 hU52
            replace hBc13 := hBc13.upd0 hU52
            replace hO13 := hO13.upd0 hU52
            replace hC13 := hC13.upd0 hU52
            replace hO12 := hO12.upd0 hU52
            replace hb18 := hb18.upd0 hU52
            replace hb35 := hb35.upd0 hU52
            replace HU := HU.trans0 hU52
            refine Wl_store (v := .int .i64 1) (cs' := [.int .i64 1]) Try.sizeOf3 rfl rfl rfl rfl hb52 rfl rfl ?_
            intro w53 hU53 hzz53 hb52n
            replace hb52 := hb52n; clear hb52n
            have hzw53 := hU53.size
            replace hdf40 := hdf40.upd1 hU53 (by omega)
            replace hb38 := hb38.upd1 hU53 (by omega)
            replace hdf22 := hdf22.upd1 hU53 (by omega)
            replace hb20 := hb20.upd1 hU53 (by omega)
            replace hb1 := hb1.upd1 hU53 (by omega)
            replace hb2 := hb2.upd1 hU53 (by omega)
            replace hO5 := hO5.upd1 hU53 (by intro h1; have h3 : ((w2.heap.size ≤ B52) ∧ B52 < w5.heap.size) := h1; omega)
            replace hb6 := hb6.upd1 hU53 (by omega)
            replace hb8 := hb8.upd1 hU53 (by omega)
            replace hO9 := hO9.upd1 hU53 (by intro h1; have h3 : ((w8.heap.size ≤ B52) ∧ B52 < w9.heap.size) := h1; omega)
            replace hBo13 := hBo13.upd1 hU53 (by omega)
            replace hBc13 := hBc13.upd1 hU53 (by omega)
            replace hO13 := hO13.upd1 hU53 (by intro h1; have h3 : ((w12.heap.size ≤ B52) ∧ B52 < w13.heap.size) := h1; omega)
            replace hC13 := hC13.upd1 hU53 (by intro h1; have h3 : ((w12.heap.size ≤ B52) ∧ B52 < w13.heap.size) := h1; omega)
            replace hO12 := hO12.upd1 hU53 (by intro h1; have h3 : ((((B52 = B11) ∨ B52 = w11.heap.size)) ∧ B52 < w12.heap.size) := h1; omega)
            replace hb18 := hb18.upd1 hU53 (by omega)
            replace hb35 := hb35.upd1 hU53 (by omega)
            replace HU := HU.trans1 hU53 (by show (False) ∨ w.heap.size ≤ B52; omega)
            refine Wl_nil ?_
            refine W_region ?_
            refine Wl_load (v := .int .i64 1) Try.isAgg3 rfl hb52 rfl ?_
            refine Wl_v (r_add rfl rfl (show IntKind.i64.wrap (1 + 1) = 2 by decide)) ?_
            refine Wl_store (v := .int .i64 2) (cs' := [.int .i64 2]) Try.sizeOf3 rfl rfl rfl rfl hb52 rfl rfl ?_
            intro w54 hU54 hzz54 hb52n
            replace hb52 := hb52n; clear hb52n
            have hzw54 := hU54.size
            replace hdf40 := hdf40.upd1 hU54 (by omega)
            replace hb38 := hb38.upd1 hU54 (by omega)
            replace hdf22 := hdf22.upd1 hU54 (by omega)
            replace hb20 := hb20.upd1 hU54 (by omega)
            replace hb1 := hb1.upd1 hU54 (by omega)
            replace hb2 := hb2.upd1 hU54 (by omega)
            replace hO5 := hO5.upd1 hU54 (by intro h1; have h3 : ((w2.heap.size ≤ B52) ∧ B52 < w5.heap.size) := h1; omega)
            replace hb6 := hb6.upd1 hU54 (by omega)
            replace hb8 := hb8.upd1 hU54 (by omega)
            replace hO9 := hO9.upd1 hU54 (by intro h1; have h3 : ((w8.heap.size ≤ B52) ∧ B52 < w9.heap.size) := h1; omega)
            replace hBo13 := hBo13.upd1 hU54 (by omega)
            replace hBc13 := hBc13.upd1 hU54 (by omega)
            replace hO13 := hO13.upd1 hU54 (by intro h1; have h3 : ((w12.heap.size ≤ B52) ∧ B52 < w13.heap.size) := h1; omega)
            replace hC13 := hC13.upd1 hU54 (by intro h1; have h3 : ((w12.heap.size ≤ B52) ∧ B52 < w13.heap.size) := h1; omega)
            replace hO12 := hO12.upd1 hU54 (by intro h1; have h3 : ((((B52 = B11) ∨ B52 = w11.heap.size)) ∧ B52 < w12.heap.size) := h1; omega)
            replace hb18 := hb18.upd1 hU54 (by omega)
            replace hb35 := hb35.upd1 hU54 (by omega)
            replace HU := HU.trans1 hU54 (by show (False) ∨ w.heap.size ≤ B52; omega)
            refine Wl_nil ?_
            refine W_seq ?_
            refine W_seq ?_
            refine W_region ?_
            refine Wl_load (v := .int .i64 2) Try.isAgg3 rfl hb52 rfl ?_
            refine Wl_v (v := .bool false) (r_lt (a := 2) (b := 2) rfl rfl) ?_
            refine Wl_nil ?_
            refine W_cond_f rfl ?_
            refine W_exit ?_
            refine W_seq ?_
            refine W_region ?_
            refine Wl_call (r_call0 rfl Try.call12 ) (works_spec _ ) ?_
            rintro v w55 ⟨rfl, hU55⟩
            have hzw55 := hU55.size
            replace hdf40 := hdf40.upd0 hU55
            replace hb38 := hb38.upd0 hU55
            replace hdf22 := hdf22.upd0 hU55
            replace hb20 := hb20.upd0 hU55
            replace hb1 := hb1.upd0 hU55
            replace hb2 := hb2.upd0 hU55
            replace hO5 := hO5.upd0 hU55
            replace hb6 := hb6.upd0 hU55
            replace hb8 := hb8.upd0 hU55
            replace hO9 := hO9.upd0 hU55
            replace hBo13 := hBo13.upd0 hU55
            replace hBc13 := hBc13.upd0 hU55
            replace hO13 := hO13.upd0 hU55
            replace hC13 := hC13.upd0 hU55
            replace hO12 := hO12.upd0 hU55
            replace hb18 := hb18.upd0 hU55
            replace hb35 := hb35.upd0 hU55
            replace HU := HU.trans0 hU55
            replace hb52 := hb52.upd0 hU55
            refine Wl_store (v := .bool true) (cs' := [.bool true]) Try.sizeOf4 rfl rfl rfl rfl hb2 rfl rfl ?_
            intro w56 hU56 hzz56 hb2n
            replace hb2 := hb2n; clear hb2n
            have hzw56 := hU56.size
            replace hdf40 := hdf40.upd1 hU56 (by omega)
            replace hb38 := hb38.upd1 hU56 (by omega)
            replace hdf22 := hdf22.upd1 hU56 (by omega)
            replace hb20 := hb20.upd1 hU56 (by omega)
            replace hb1 := hb1.upd1 hU56 (by omega)
            replace hO5 := hO5.upd1 hU56 (by intro h1; have h3 : ((w2.heap.size ≤ B2) ∧ B2 < w5.heap.size) := h1; omega)
            replace hb6 := hb6.upd1 hU56 (by omega)
            replace hb8 := hb8.upd1 hU56 (by omega)
            replace hO9 := hO9.upd1 hU56 (by intro h1; have h3 : ((w8.heap.size ≤ B2) ∧ B2 < w9.heap.size) := h1; omega)
            replace hBo13 := hBo13.upd1 hU56 (by omega)
            replace hBc13 := hBc13.upd1 hU56 (by omega)
            replace hO13 := hO13.upd1 hU56 (by intro h1; have h3 : ((w12.heap.size ≤ B2) ∧ B2 < w13.heap.size) := h1; omega)
            replace hC13 := hC13.upd1 hU56 (by intro h1; have h3 : ((w12.heap.size ≤ B2) ∧ B2 < w13.heap.size) := h1; omega)
            replace hO12 := hO12.upd1 hU56 (by intro h1; have h3 : ((((B2 = B11) ∨ B2 = w11.heap.size)) ∧ B2 < w12.heap.size) := h1; omega)
            replace hb18 := hb18.upd1 hU56 (by omega)
            replace hb35 := hb35.upd1 hU56 (by omega)
            replace HU := HU.trans1 hU56 (by show (False) ∨ w.heap.size ≤ B2; omega)
            replace hb52 := hb52.upd1 hU56 (by omega)
            refine Wl_nil ?_
            refine W_ret ?_
            refine ret_ds rfl ?_
            refine lv_mark (by simp) hdf40 ?_
            intro w57 hU57 hzz57
            have hzw57 := hU57.size
            replace hb38 := hb38.upd1 hU57 (by omega)
            replace hdf22 := hdf22.upd1 hU57 (by omega)
            replace hb20 := hb20.upd1 hU57 (by omega)
            replace hb1 := hb1.upd1 hU57 (by omega)
            replace hb2 := hb2.upd1 hU57 (by omega)
            replace hO5 := hO5.upd1 hU57 (by intro h1; have h3 : ((w2.heap.size ≤ D40) ∧ D40 < w5.heap.size) := h1; omega)
            replace hb6 := hb6.upd1 hU57 (by omega)
            replace hb8 := hb8.upd1 hU57 (by omega)
            replace hO9 := hO9.upd1 hU57 (by intro h1; have h3 : ((w8.heap.size ≤ D40) ∧ D40 < w9.heap.size) := h1; omega)
            replace hBo13 := hBo13.upd1 hU57 (by omega)
            replace hBc13 := hBc13.upd1 hU57 (by omega)
            replace hO13 := hO13.upd1 hU57 (by intro h1; have h3 : ((w12.heap.size ≤ D40) ∧ D40 < w13.heap.size) := h1; omega)
            replace hC13 := hC13.upd1 hU57 (by intro h1; have h3 : ((w12.heap.size ≤ D40) ∧ D40 < w13.heap.size) := h1; omega)
            replace hO12 := hO12.upd1 hU57 (by intro h1; have h3 : ((((D40 = B11) ∨ D40 = w11.heap.size)) ∧ D40 < w12.heap.size) := h1; omega)
            replace hb18 := hb18.upd1 hU57 (by omega)
            replace hb35 := hb35.upd1 hU57 (by omega)
            replace HU := HU.trans1 hU57 (by show (False) ∨ w.heap.size ≤ D40; omega)
            replace hb52 := hb52.upd1 hU57 (by omega)
            refine lv_mark (by simp) hdf22 ?_
            intro w58 hU58 hzz58
            have hzw58 := hU58.size
            replace hb38 := hb38.upd1 hU58 (by omega)
            replace hb20 := hb20.upd1 hU58 (by omega)
            replace hb1 := hb1.upd1 hU58 (by omega)
            replace hb2 := hb2.upd1 hU58 (by omega)
            replace hO5 := hO5.upd1 hU58 (by intro h1; have h3 : ((w2.heap.size ≤ D22) ∧ D22 < w5.heap.size) := h1; omega)
            replace hb6 := hb6.upd1 hU58 (by omega)
            replace hb8 := hb8.upd1 hU58 (by omega)
            replace hO9 := hO9.upd1 hU58 (by intro h1; have h3 : ((w8.heap.size ≤ D22) ∧ D22 < w9.heap.size) := h1; omega)
            replace hBo13 := hBo13.upd1 hU58 (by omega)
            replace hBc13 := hBc13.upd1 hU58 (by omega)
            replace hO13 := hO13.upd1 hU58 (by intro h1; have h3 : ((w12.heap.size ≤ D22) ∧ D22 < w13.heap.size) := h1; omega)
            replace hC13 := hC13.upd1 hU58 (by intro h1; have h3 : ((w12.heap.size ≤ D22) ∧ D22 < w13.heap.size) := h1; omega)
            replace hO12 := hO12.upd1 hU58 (by intro h1; have h3 : ((((D22 = B11) ∨ D22 = w11.heap.size)) ∧ D22 < w12.heap.size) := h1; omega)
            replace hb18 := hb18.upd1 hU58 (by omega)
            replace hb35 := hb35.upd1 hU58 (by omega)
            replace HU := HU.trans1 hU58 (by show (False) ∨ w.heap.size ≤ D22; omega)
            replace hb52 := hb52.upd1 hU58 (by omega)
            refine lv_nil (v := .bool true) (rc1 Try.results10 rfl (cellIs Try.isAgg4 hb2)) ?_
            exact ⟨_, rfl, rfl, HU⟩
          · exact ((hJx40 _).1 hh).elim
        · obtain ⟨ij, hrc22, hdf22, hb20, hb1, hb2, hO5, hb6, hb8, hO9, hBo13, hBc13, hO13, hC13, hO12, hb18, HU, hq0, hq1, hq2⟩ := (hJx22 _).1 hh
          have hrl22 := hrc22.lt
          refine ⟨_, hrc22, (by simp), ?_⟩
          intro w59 hU59 hzz59
          have hzw59 := hU59.size
          replace hdf22 := hdf22.upd1 hU59 (by omega)
          replace hb20 := hb20.upd1 hU59 (by omega)
          replace hb1 := hb1.upd1 hU59 (by omega)
          replace hb2 := hb2.upd1 hU59 (by omega)
          replace hO5 := hO5.upd1 hU59 (by intro h1; have h3 : ((w2.heap.size ≤ (D22 + 1)) ∧ (D22 + 1) < w5.heap.size) := h1; omega)
          replace hb6 := hb6.upd1 hU59 (by omega)
          replace hb8 := hb8.upd1 hU59 (by omega)
          replace hO9 := hO9.upd1 hU59 (by intro h1; have h3 : ((w8.heap.size ≤ (D22 + 1)) ∧ (D22 + 1) < w9.heap.size) := h1; omega)
          replace hBo13 := hBo13.upd1 hU59 (by omega)
          replace hBc13 := hBc13.upd1 hU59 (by omega)
          replace hO13 := hO13.upd1 hU59 (by intro h1; have h3 : ((w12.heap.size ≤ (D22 + 1)) ∧ (D22 + 1) < w13.heap.size) := h1; omega)
          replace hC13 := hC13.upd1 hU59 (by intro h1; have h3 : ((w12.heap.size ≤ (D22 + 1)) ∧ (D22 + 1) < w13.heap.size) := h1; omega)
          replace hO12 := hO12.upd1 hU59 (by intro h1; have h3 : (((((D22 + 1) = B11) ∨ (D22 + 1) = w11.heap.size)) ∧ (D22 + 1) < w12.heap.size) := h1; omega)
          replace hb18 := hb18.upd1 hU59 (by omega)
          replace HU := HU.trans1 hU59 (by show (False) ∨ w.heap.size ≤ (D22 + 1); omega)
          refine W_exit ?_
          refine W_seq ?_
          refine W_region ?_
          refine Wl_load (v := .int .i64 0) Try.isAgg3 rfl hb18 rfl ?_
          refine Wl_v (v := .bool true) (r_eq (a := 0) (b := 0) rfl rfl) ?_
          refine Wl_v (r_mv (v := .bool true) rfl) ?_
          refine Wl_guard_t rfl ?_
          refine Wl_load (v := .int .i64 (((ij : Nat) : Int) + 1)) Try.isAgg3 rfl hb20 rfl ?_
          refine Wl_guard_t rfl ?_
          refine Wl_load (v := .slice a9 m9 c9) Try.isAgg22 rfl hb8 rfl ?_
          refine Wl_guard_t rfl ?_
          refine Wl_v (r_len Try.underlying22 rfl) ?_
          refine Wl_guard_t rfl ?_
          refine Wl_load (v := .int .i64 many) Try.isAgg3 rfl hb1 rfl ?_
          refine Wl_guard_t rfl ?_
          refine Wl_v (r_max rfl rfl) ?_
          refine Wl_guard_t rfl ?_
          refine Wl_v (r_min rfl rfl) ?_
          refine Wl_guard_t rfl ?_
          refine Wl_v (r_ne rfl rfl) ?_
          refine Wl_v (r_pick_t (v := .bool (decide ((((ij : Nat) : Int) + 1) ≠ (min ((m9 : Nat) : Int) (max 1 many))))) rfl rfl) ?_
          refine Wl_v (r_mv (v := .bool (decide ((((ij : Nat) : Int) + 1) ≠ (min ((m9 : Nat) : Int) (max 1 many))))) rfl) ?_
          have q13 : ¬ ((((ij : Nat) : Int) + 1) ≠ (min ((m9 : Nat) : Int) (max 1 many))) := (by omega)
          rw [decide_eq_false q13]
          refine Wl_guard_t rfl ?_
          refine Wl_load (v := .int .i64 0) Try.isAgg3 rfl hb18 rfl ?_
          refine Wl_guard_t rfl ?_
          refine Wl_v (v := .bool false) (r_eq (a := 0) (b := 1) rfl rfl) ?_
          refine Wl_guard_t rfl ?_
          refine Wl_v (r_mv (v := .bool false) rfl) ?_
          refine Wl_guard_f rfl ?_
          refine Wl_guard_f rfl ?_
          refine Wl_guard_f rfl ?_
          refine Wl_guard_f rfl ?_
          refine Wl_guard_t rfl ?_
          refine Wl_v (r_pick_f (v := .bool false) rfl rfl) ?_
          refine Wl_v (r_pick_f (v := .bool false) rfl rfl) ?_
          refine Wl_nil ?_
          refine W_cond_f rfl ?_
          refine W_skip ?_
          refine W_seq ?_
          refine W_seq ?_
          refine W_region ?_
          refine Wl_load (v := .int .i64 0) Try.isAgg3 rfl hb18 rfl ?_
          refine Wl_nil ?_
          refine W_region ?_
          refine Wl_alloc (cs := [.int .i64 0]) Try.zeroValue3 rfl ?_
          intro B60 w60 hB60 hU60 hzz60 hb60
          have hzw60 := hU60.size
          replace hdf22 := hdf22.upd0 hU60
          replace hb20 := hb20.upd0 hU60
          replace hb1 := hb1.upd0 hU60
          replace hb2 := hb2.upd0 hU60
          replace hO5 := hO5.upd0 hU60
          replace hb6 := hb6.upd0 hU60
          replace hb8 := hb8.upd0 hU60
          replace hO9 := hO9.upd0 hU60
          replace hBo13 := hBo13.upd0 hU60
          replace hBc13 := hBc13.upd0 hU60
          replace hO13 := hO13.upd0 hU60
          replace hC13 := hC13.upd0 hU60
          replace hO12 := hO12.upd0 hU60
          replace hb18 := hb18.upd0 hU60
          replace HU := HU.trans0 hU60
          refine Wl_store (v := .int .i64 0) (cs' := [.int .i64 0]) Try.sizeOf3 rfl rfl rfl rfl hb60 rfl rfl ?_
          intro w61 hU61 hzz61 hb60n
          replace hb60 := hb60n; clear hb60n
          have hzw61 := hU61.size
          replace hdf22 := hdf22.upd1 hU61 (by omega)
          replace hb20 := hb20.upd1 hU61 (by omega)
          replace hb1 := hb1.upd1 hU61 (by omega)
          replace hb2 := hb2.upd1 hU61 (by omega)
          replace hO5 := hO5.upd1 hU61 (by intro h1; have h3 : ((w2.heap.size ≤ B60) ∧ B60 < w5.heap.size) := h1; omega)
          replace hb6 := hb6.upd1 hU61 (by omega)
          replace hb8 := hb8.upd1 hU61 (by omega)
          replace hO9 := hO9.upd1 hU61 (by intro h1; have h3 : ((w8.heap.size ≤ B60) ∧ B60 < w9.heap.size) := h1; omega)
          replace hBo13 := hBo13.upd1 hU61 (by omega)
          replace hBc13 := hBc13.upd1 hU61 (by omega)
          replace hO13 := hO13.upd1 hU61 (by intro h1; have h3 : ((w12.heap.size ≤ B60) ∧ B60 < w13.heap.size) := h1; omega)
          replace hC13 := hC13.upd1 hU61 (by intro h1; have h3 : ((w12.heap.size ≤ B60) ∧ B60 < w13.heap.size) := h1; omega)
          replace hO12 := hO12.upd1 hU61 (by intro h1; have h3 : ((((B60 = B11) ∨ B60 = w11.heap.size)) ∧ B60 < w12.heap.size) := h1; omega)
          replace hb18 := hb18.upd1 hU61 (by omega)
          replace HU := HU.trans1 hU61 (by show (False) ∨ w.heap.size ≤ B60; omega)
          refine Wl_nil ?_
          refine W_region ?_
          refine Wl_load (v := .int .i64 0) Try.isAgg3 rfl hb60 rfl ?_
          refine Wl_v (r_add rfl rfl (show IntKind.i64.wrap (0 + 1) = 1 by decide)) ?_
          refine Wl_store (v := .int .i64 1) (cs' := [.int .i64 1]) Try.sizeOf3 rfl rfl rfl rfl hb60 rfl rfl ?_
          intro w62 hU62 hzz62 hb60n
          replace hb60 := hb60n; clear hb60n
          have hzw62 := hU62.size
          replace hdf22 := hdf22.upd1 hU62 (by omega)
          replace hb20 := hb20.upd1 hU62 (by omega)
          replace hb1 := hb1.upd1 hU62 (by omega)
          replace hb2 := hb2.upd1 hU62 (by omega)
          replace hO5 := hO5.upd1 hU62 (by intro h1; have h3 : ((w2.heap.size ≤ B60) ∧ B60 < w5.heap.size) := h1; omega)
          replace hb6 := hb6.upd1 hU62 (by omega)
          replace hb8 := hb8.upd1 hU62 (by omega)
          replace hO9 := hO9.upd1 hU62 (by intro h1; have h3 : ((w8.heap.size ≤ B60) ∧ B60 < w9.heap.size) := h1; omega)
          replace hBo13 := hBo13.upd1 hU62 (by omega)
          replace hBc13 := hBc13.upd1 hU62 (by omega)
          replace hO13 := hO13.upd1 hU62 (by intro h1; have h3 : ((w12.heap.size ≤ B60) ∧ B60 < w13.heap.size) := h1; omega)
          replace hC13 := hC13.upd1 hU62 (by intro h1; have h3 : ((w12.heap.size ≤ B60) ∧ B60 < w13.heap.size) := h1; omega)
          replace hO12 := hO12.upd1 hU62 (by intro h1; have h3 : ((((B60 = B11) ∨ B60 = w11.heap.size)) ∧ B60 < w12.heap.size) := h1; omega)
          replace hb18 := hb18.upd1 hU62 (by omega)
          replace HU := HU.trans1 hU62 (by show (False) ∨ w.heap.size ≤ B60; omega)
          refine Wl_nil ?_
          refine W_seq ?_
          refine W_seq ?_
          refine W_region ?_
          refine Wl_load (v := .int .i64 1) Try.isAgg3 rfl hb60 rfl ?_
          refine Wl_v (v := .bool true) (r_lt (a := 1) (b := 2) rfl rfl) ?_
          refine Wl_nil ?_
          refine W_cond_t rfl ?_
          refine W_skip ?_
          refine W_seq ?_
          refine W_block ?_
          refine W_seq ?_
          refine W_region ?_
          refine Wl_alloc (cs := [.int .i64 0]) Try.zeroValue3 rfl ?_
          intro B63 w63 hB63 hU63 hzz63 hb63
          have hzw63 := hU63.size
          replace hdf22 := hdf22.upd0 hU63
          replace hb20 := hb20.upd0 hU63
          replace hb1 := hb1.upd0 hU63
          replace hb2 := hb2.upd0 hU63
          replace hO5 := hO5.upd0 hU63
          replace hb6 := hb6.upd0 hU63
          replace hb8 := hb8.upd0 hU63
          replace hO9 := hO9.upd0 hU63
          replace hBo13 := hBo13.upd0 hU63
          replace hBc13 := hBc13.upd0 hU63
          replace hO13 := hO13.upd0 hU63
          replace hC13 := hC13.upd0 hU63
          replace hO12 := hO12.upd0 hU63
          replace hb18 := hb18.upd0 hU63
          replace HU := HU.trans0 hU63
          replace hb60 := hb60.upd0 hU63
          refine Wl_store (v := .int .i64 0) (cs' := [.int .i64 0]) Try.sizeOf3 rfl rfl rfl rfl hb63 rfl rfl ?_
          intro w64 hU64 hzz64 hb63n
          replace hb63 := hb63n; clear hb63n
          have hzw64 := hU64.size
          replace hdf22 := hdf22.upd1 hU64 (by omega)
          replace hb20 := hb20.upd1 hU64 (by omega)
          replace hb1 := hb1.upd1 hU64 (by omega)
          replace hb2 := hb2.upd1 hU64 (by omega)
          replace hO5 := hO5.upd1 hU64 (by intro h1; have h3 : ((w2.heap.size ≤ B63) ∧ B63 < w5.heap.size) := h1; omega)
          replace hb6 := hb6.upd1 hU64 (by omega)
          replace hb8 := hb8.upd1 hU64 (by omega)
          replace hO9 := hO9.upd1 hU64 (by intro h1; have h3 : ((w8.heap.size ≤ B63) ∧ B63 < w9.heap.size) := h1; omega)
          replace hBo13 := hBo13.upd1 hU64 (by omega)
          replace hBc13 := hBc13.upd1 hU64 (by omega)
          replace hO13 := hO13.upd1 hU64 (by intro h1; have h3 : ((w12.heap.size ≤ B63) ∧ B63 < w13.heap.size) := h1; omega)
          replace hC13 := hC13.upd1 hU64 (by intro h1; have h3 : ((w12.heap.size ≤ B63) ∧ B63 < w13.heap.size) := h1; omega)
          replace hO12 := hO12.upd1 hU64 (by intro h1; have h3 : ((((B63 = B11) ∨ B63 = w11.heap.size)) ∧ B63 < w12.heap.size) := h1; omega)
          replace hb18 := hb18.upd1 hU64 (by omega)
          replace HU := HU.trans1 hU64 (by show (False) ∨ w.heap.size ≤ B63; omega)
          replace hb60 := hb60.upd1 hU64 (by omega)
          refine Wl_nil ?_
          refine W_seq ?_
          refine W_seq ?_
          refine W_region ?_
          refine Wl_v (r_mv (v := .func (.func 49) #[] #[.pointer (some ⟨Bo13, 0, none⟩), .pointer (some ⟨Bc13, 0, none⟩)]) rfl) ?_
          refine Wl_nil ?_
          refine W_block ?_
          refine W_range (gf := 49) (ar := fun y => #[y, .pointer (some ⟨Bo13, 0, none⟩), .pointer (some ⟨Bc13, 0, none⟩)]) rfl Try.call49 (fun y => by simp) ?_
          intro D65 fn65 w65 hD65 hU65 hzz65 hdf65 hrc650
          have hzw65 := hU65.size
          replace hdf22 := hdf22.upd0 hU65
          replace hb20 := hb20.upd0 hU65
          replace hb1 := hb1.upd0 hU65
          replace hb2 := hb2.upd0 hU65
          replace hO5 := hO5.upd0 hU65
          replace hb6 := hb6.upd0 hU65
          replace hb8 := hb8.upd0 hU65
          replace hO9 := hO9.upd0 hU65
          replace hBo13 := hBo13.upd0 hU65
          replace hBc13 := hBc13.upd0 hU65
          replace hO13 := hO13.upd0 hU65
          replace hC13 := hC13.upd0 hU65
          replace hO12 := hO12.upd0 hU65
          replace hb18 := hb18.upd0 hU65
          replace HU := HU.trans0 hU65
          replace hb60 := hb60.upd0 hU65
          replace hb63 := hb63.upd0 hU65
          obtain ⟨r65, hr65, hrc65⟩ : ∃ r, r = _ ∧ Rec w65 (D65 + 1) r := ⟨_, rfl, hrc650⟩
          clear hrc650
          obtain ⟨J65, hJ65⟩ : ∃ J : Nat → World → Prop, ∀ i w', J i w' ↔ (Rec w' (D65 + 1) r65 ∧ Dfr w' D65 ∧ Blk w' B63 [.int .i64 ((i : Nat) : Int)] ∧ Dfr w' D22 ∧ Blk w' B20 [.int .i64 (((ij : Nat) : Int) + 1)] ∧ Blk w' B1 [.int .i64 many] ∧ Blk w' B2 [.bool false] ∧ Own w' (fun g => ((w2.heap.size ≤ g) ∧ g < w5.heap.size)) 37 2 (.slice a5 n c5) n (rows encC (cds l)) ∧ Blk w' B6 [.slice a5 n c5] ∧ Blk w' B8 [.slice a9 m9 c9] ∧ Own w' (fun g => ((w8.heap.size ≤ g) ∧ g < w9.heap.size)) 3 1 (.slice a9 m9 c9) m9 (ints .i64 (ord l)) ∧ Blk w' Bo13 [.slice a13 m13 c13] ∧ Blk w' Bc13 [.slice b13 n13 d13] ∧ Own w' (fun g => ((w12.heap.size ≤ g) ∧ g < w13.heap.size)) 3 1 (.slice a13 m13 c13) m13 (ints .i64 (ord l)) ∧ Own w' (fun g => ((w12.heap.size ≤ g) ∧ g < w13.heap.size)) 37 2 (.slice b13 n13 d13) n13 (rows encC (cds l)) ∧ Own w' (fun g => ((((g = B11) ∨ g = w11.heap.size)) ∧ g < w12.heap.size)) 3 1 (.slice a12 n c12) n (ints .i64 ys) ∧ Blk w' B18 [.int .i64 0] ∧ Blk w' B60 [.int .i64 1] ∧ Upd No w w') := ⟨_, fun _ _ => Iff.rfl⟩
          obtain ⟨Jx65, hJx65⟩ : ∃ Jx : World → Prop, ∀ w', Jx w' ↔ (False) := ⟨_, fun _ => Iff.rfl⟩
          refine (all1_spec (ly := (D65 + 1)) (J := J65) (Jx := Jx65) (Sb := (fun g => g = B63 ∨ g = D65 + 1)) (R := fun g => ((w12.heap.size ≤ g) ∧ g < w13.heap.size)) (T := fun g => ((w12.heap.size ≤ g) ∧ g < w13.heap.size)) w65 hBo13 hO13.sl hBc13 hC13.sl (by omega) (by omega) (fun i hi => by obtain ⟨jx, e1, e2, _⟩ := ord_at (l := l) (i := i) (by omega); omega) (by intro g h1 h2; have h3 : ((w12.heap.size ≤ g) ∧ g < w13.heap.size) := h1; have h4 : g = B63 ∨ g = D65 + 1 := h2; omega) (by show ¬ (_ ∨ _); omega) (by intro g h1 h2; have h3 : ((w12.heap.size ≤ g) ∧ g < w13.heap.size) := h1; have h4 : g = B63 ∨ g = D65 + 1 := h2; omega) ?_ ?_).mono ?_
          · exact (hJ65 _ _).2 ⟨hrc65, hdf65, hb63, hdf22, hb20, hb1, hb2, hO5, hb6, hb8, hO9, hBo13, hBc13, hO13, hC13, hO12, hb18, hb60, HU⟩
          · intro i66 w66 hi66 hh
            obtain ⟨hrc65, hdf65, hb63, hdf22, hb20, hb1, hb2, hO5, hb6, hb8, hO9, hBo13, hBc13, hO13, hC13, hO12, hb18, hb60, HU⟩ := (hJ65 _ _).1 hh
            have hrl65 := hrc65.lt
            obtain ⟨jx, hjx, hjn, _⟩ := ord_at (l := l) (i := i66) (by omega)
            have HB65 : Upd (fun g => g = B63 ∨ g = D65 + 1) w66 w66 := Upd.refl _ _
            refine yieldC_of_W (R := fun b c w' => (b = true ∧ Upd (fun g => g = B63 ∨ g = D65 + 1) w66 w' ∧ J65 (i66 + 1) w') ∨ (b = false ∧ Jx65 w')) hrc65 (by rw [hr65]; rfl) (by rw [hr65]; exact zip2 _ _ _ _ _ _) ?_ ?_
            · rw [hr65]
              refine W_seq ?_
              refine W_region ?_
              refine Wl_v (r_as (v := .int .i64 ((ord l).getD i66 0)) rfl) ?_
              refine Wl_nil ?_
              refine W_region ?_
              refine Wl_alloc (cs := [.int .i64 0, .int .u32 0]) Try.zeroValue37 rfl ?_
              intro B67 w67 hB67 hU67 hzz67 hb67
              have hzw67 := hU67.size
              replace hrc65 := hrc65.upd0 hU67
              replace hdf65 := hdf65.upd0 hU67
              replace hb63 := hb63.upd0 hU67
              replace hdf22 := hdf22.upd0 hU67
              replace hb20 := hb20.upd0 hU67
              replace hb1 := hb1.upd0 hU67
              replace hb2 := hb2.upd0 hU67
              replace hO5 := hO5.upd0 hU67
              replace hb6 := hb6.upd0 hU67
              replace hb8 := hb8.upd0 hU67
              replace hO9 := hO9.upd0 hU67
              replace hBo13 := hBo13.upd0 hU67
              replace hBc13 := hBc13.upd0 hU67
              replace hO13 := hO13.upd0 hU67
              replace hC13 := hC13.upd0 hU67
              replace hO12 := hO12.upd0 hU67
              replace hb18 := hb18.upd0 hU67
              replace hb60 := hb60.upd0 hU67
              replace HU := HU.trans0 hU67
              replace HB65 := HB65.trans0 hU67
              refine Wl_storea (off := 0) (vs := [.int .i64 (((cds l).getD ((ord l).getD i66 0).toNat (0, 0)).1), .int .u32 (((cds l).getD ((ord l).getD i66 0).toNat (0, 0)).2)]) (cs' := [.int .i64 (((cds l).getD ((ord l).getD i66 0).toNat (0, 0)).1), .int .u32 (((cds l).getD ((ord l).getD i66 0).toNat (0, 0)).2)]) Try.sizeOf37 rfl rfl rfl (by simp only [List.mem_cons, List.not_mem_nil, or_false, forall_eq_or_imp, forall_eq]; exact ⟨rfl, rfl⟩) hb67 (by simp) rfl ?_
              intro w68 hU68 hzz68 hb67n
              replace hb67 := hb67n; clear hb67n
              have hzw68 := hU68.size
              replace hrc65 := hrc65.upd1 hU68 (by omega)
              replace hdf65 := hdf65.upd1 hU68 (by omega)
              replace hb63 := hb63.upd1 hU68 (by omega)
              replace hdf22 := hdf22.upd1 hU68 (by omega)
              replace hb20 := hb20.upd1 hU68 (by omega)
              replace hb1 := hb1.upd1 hU68 (by omega)
              replace hb2 := hb2.upd1 hU68 (by omega)
              replace hO5 := hO5.upd1 hU68 (by intro h1; have h3 : ((w2.heap.size ≤ B67) ∧ B67 < w5.heap.size) := h1; omega)
              replace hb6 := hb6.upd1 hU68 (by omega)
              replace hb8 := hb8.upd1 hU68 (by omega)
              replace hO9 := hO9.upd1 hU68 (by intro h1; have h3 : ((w8.heap.size ≤ B67) ∧ B67 < w9.heap.size) := h1; omega)
              replace hBo13 := hBo13.upd1 hU68 (by omega)
              replace hBc13 := hBc13.upd1 hU68 (by omega)
              replace hO13 := hO13.upd1 hU68 (by intro h1; have h3 : ((w12.heap.size ≤ B67) ∧ B67 < w13.heap.size) := h1; omega)
              replace hC13 := hC13.upd1 hU68 (by intro h1; have h3 : ((w12.heap.size ≤ B67) ∧ B67 < w13.heap.size) := h1; omega)
              replace hO12 := hO12.upd1 hU68 (by intro h1; have h3 : ((((B67 = B11) ∨ B67 = w11.heap.size)) ∧ B67 < w12.heap.size) := h1; omega)
              replace hb18 := hb18.upd1 hU68 (by omega)
              replace hb60 := hb60.upd1 hU68 (by omega)
              replace HU := HU.trans1 hU68 (by show (False) ∨ w.heap.size ≤ B67; omega)
              replace HB65 := HB65.trans1 hU68 (by show (B67 = B63 ∨ B67 = D65 + 1) ∨ w66.heap.size ≤ B67; omega)
              refine Wl_nil ?_
              refine ⟨rfl, _, hrc65, (by rw [hr65]), ?_⟩
              intro w69 hU69 hzz69 hrc65b
              have hzw69 := hU69.size
              replace hdf65 := hdf65.upd1 hU69 (by omega)
              replace hb63 := hb63.upd1 hU69 (by omega)
              replace hdf22 := hdf22.upd1 hU69 (by omega)
              replace hb20 := hb20.upd1 hU69 (by omega)
              replace hb1 := hb1.upd1 hU69 (by omega)
              replace hb2 := hb2.upd1 hU69 (by omega)
              replace hO5 := hO5.upd1 hU69 (by intro h1; have h3 : ((w2.heap.size ≤ (D65 + 1)) ∧ (D65 + 1) < w5.heap.size) := h1; omega)
              replace hb6 := hb6.upd1 hU69 (by omega)
              replace hb8 := hb8.upd1 hU69 (by omega)
              replace hO9 := hO9.upd1 hU69 (by intro h1; have h3 : ((w8.heap.size ≤ (D65 + 1)) ∧ (D65 + 1) < w9.heap.size) := h1; omega)
              replace hBo13 := hBo13.upd1 hU69 (by omega)
              replace hBc13 := hBc13.upd1 hU69 (by omega)
              replace hO13 := hO13.upd1 hU69 (by intro h1; have h3 : ((w12.heap.size ≤ (D65 + 1)) ∧ (D65 + 1) < w13.heap.size) := h1; omega)
              replace hC13 := hC13.upd1 hU69 (by intro h1; have h3 : ((w12.heap.size ≤ (D65 + 1)) ∧ (D65 + 1) < w13.heap.size) := h1; omega)
              replace hO12 := hO12.upd1 hU69 (by intro h1; have h3 : (((((D65 + 1) = B11) ∨ (D65 + 1) = w11.heap.size)) ∧ (D65 + 1) < w12.heap.size) := h1; omega)
              replace hb18 := hb18.upd1 hU69 (by omega)
              replace hb60 := hb60.upd1 hU69 (by omega)
              replace HU := HU.trans1 hU69 (by show (False) ∨ w.heap.size ≤ (D65 + 1); omega)
              replace HB65 := HB65.trans1 hU69 (by show ((D65 + 1) = B63 ∨ (D65 + 1) = D65 + 1) ∨ w66.heap.size ≤ (D65 + 1); omega)
              replace hb67 := hb67.upd1 hU69 (by omega)
              clear hrc65
              have hrc65 := hrc65b
              clear hrc65b
              refine W_block ?_
              refine W_seq ?_
              refine W_seq ?_
              refine W_drawt rfl (l0 := #[false, false, false, false, false, false, false, false, false, false, false, false, false, false, false, false, false, false, false, false]) (by kernel_rfl) ?_
              refine Wt_take (i := 0) (listed' := #[true, false, false, false, false, false, false, false, false, false, false, false, false, false, false, false, false, false, false, false]) (by kernel_rfl) rfl (by kernel_rfl) (by kernel_rfl) (by kernel_rfl) (by kernel_rfl) (YI_v (v := .int .i64 ((i66 : Nat) : Int)) rfl (fun w' hw' => r_load Try.isAgg3 rfl (by rw [(hb63.upd0 hw').cell]; rfl))) ?_
              refine Wt_take (i := 1) (listed' := #[true, true, false, false, false, false, false, false, false, false, false, false, false, false, false, false, false, false, false, false]) (by kernel_rfl) rfl (by kernel_rfl) (by kernel_rfl) (by kernel_rfl) (by kernel_rfl) (YI_v (v := .slice a9 m9 c9) rfl (fun w' hw' => r_load Try.isAgg22 rfl (by rw [(hb8.upd0 hw').cell]; rfl))) ?_
              refine Wt_take (i := 2) (listed' := #[true, true, true, false, false, false, false, false, false, false, false, false, false, false, false, false, false, false, false, false]) (by kernel_rfl) rfl (by kernel_rfl) (by kernel_rfl) (by kernel_rfl) (by kernel_rfl) (YI_v (v := .int .i64 ((m9 : Nat) : Int)) rfl (fun w' hw' => r_len Try.underlying22 rfl)) ?_
              refine Wt_take (i := 3) (listed' := #[true, true, true, true, false, false, false, false, false, false, false, false, false, false, false, false, false, false, false, false]) (by kernel_rfl) rfl (by kernel_rfl) (by kernel_rfl) (by kernel_rfl) (by kernel_rfl) (YI_v (v := .bool (decide (((m9 : Nat) : Int) ≤ ((i66 : Nat) : Int)))) rfl (fun w' hw' => r_ge rfl rfl)) ?_
              refine Wt_take (i := 4) (listed' := #[true, true, true, true, true, false, false, false, false, false, false, false, false, false, false, false, false, false, false, false]) (by kernel_rfl) rfl (by kernel_rfl) (by kernel_rfl) (by kernel_rfl) (by kernel_rfl) (YI_v (v := .bool (decide (((m9 : Nat) : Int) ≤ ((i66 : Nat) : Int)))) rfl (fun w' hw' => r_mv (v := .bool (decide (((m9 : Nat) : Int) ≤ ((i66 : Nat) : Int)))) rfl)) ?_
              have q14 : ¬ (((m9 : Nat) : Int) ≤ ((i66 : Nat) : Int)) := (by omega)
              rw [decide_eq_false q14]
              refine Wt_take (i := 5) (listed' := #[true, true, true, true, true, true, false, false, false, false, false, false, false, false, false, false, false, false, false, false]) (by kernel_rfl) rfl (by kernel_rfl) (by kernel_rfl) (by kernel_rfl) (by kernel_rfl) (YI_v (v := .int .i64 ((ord l).getD i66 0)) rfl (fun w' hw' => r_mv (v := .int .i64 ((ord l).getD i66 0)) rfl)) ?_
              refine Wt_take (i := 6) (listed' := #[true, true, true, true, true, true, true, false, false, false, false, false, false, false, false, false, false, false, false, false]) (by kernel_rfl) rfl (by kernel_rfl) (by kernel_rfl) (by kernel_rfl) (by kernel_rfl) (YI_v (v := .slice a9 m9 c9) rfl (fun w' hw' => r_load Try.isAgg22 rfl (by rw [(hb8.upd0 hw').cell]; rfl))) ?_
              refine Wt_take (i := 7) (listed' := #[true, true, true, true, true, true, true, true, false, false, false, false, false, false, false, false, false, false, false, false]) (by kernel_rfl) rfl (by kernel_rfl) (by kernel_rfl) (by kernel_rfl) (by kernel_rfl) (YI_v (v := .int .i64 ((i66 : Nat) : Int)) rfl (fun w' hw' => r_load Try.isAgg3 rfl (by rw [(hb63.upd0 hw').cell]; rfl))) ?_
              obtain ⟨ib70, io70, ha70, hib70, hc70⟩ := (hO9.sl).iat (i := i66) (by omega)
              replace hib70 : ((w8.heap.size ≤ ib70) ∧ ib70 < w9.heap.size) := hib70
              refine Wt_take (i := 8) (listed' := #[true, true, true, true, true, true, true, true, true, false, false, false, false, false, false, false, false, false, false, false]) (by kernel_rfl) rfl (by kernel_rfl) (by kernel_rfl) (by kernel_rfl) (by kernel_rfl) (YI_v (v := .pointer (some ⟨ib70, io70 + i66, none⟩)) rfl (fun w' hw' => r_idx (b := ib70) (off := io70) (m := m9) (c := c9) (o' := io70 + i66) Try.underlying22 Try.sizeOf3 (by rw [← ha70]; rfl) rfl (by omega) (by omega) (by omega))) ?_
              refine Wt_take (i := 9) (listed' := #[true, true, true, true, true, true, true, true, true, true, false, false, false, false, false, false, false, false, false, false]) (by kernel_rfl) rfl (by kernel_rfl) (by kernel_rfl) (by kernel_rfl) (by kernel_rfl) (YI_v (v := .int .i64 ((ord l).getD i66 0)) rfl (fun w' hw' => r_load Try.isAgg3 rfl (hw'.cellk hc70))) ?_
              refine Wt_take (i := 10) (listed' := #[true, true, true, true, true, true, true, true, true, true, true, false, false, false, false, false, false, false, false, false]) (by kernel_rfl) rfl (by kernel_rfl) (by kernel_rfl) (by kernel_rfl) (by kernel_rfl) (YI_v (v := .bool (decide (((ord l).getD i66 0) ≠ ((ord l).getD i66 0)))) rfl (fun w' hw' => r_ne rfl rfl)) ?_
              refine Wt_take (i := 11) (listed' := #[true, true, true, true, true, true, true, true, true, true, true, true, false, false, false, false, false, false, false, false]) (by kernel_rfl) rfl (by kernel_rfl) (by kernel_rfl) (by kernel_rfl) (by kernel_rfl) (YI_v rfl (fun w' hw' => r_pick_f (v := .bool (decide (((ord l).getD i66 0) ≠ ((ord l).getD i66 0)))) rfl rfl)) ?_
              refine Wt_take (i := 12) (listed' := #[true, true, true, true, true, true, true, true, true, true, true, true, true, false, false, false, false, false, false, false]) (by kernel_rfl) rfl (by kernel_rfl) (by kernel_rfl) (by kernel_rfl) (by kernel_rfl) (YI_v (v := .bool (decide (((ord l).getD i66 0) ≠ ((ord l).getD i66 0)))) rfl (fun w' hw' => r_mv (v := .bool (decide (((ord l).getD i66 0) ≠ ((ord l).getD i66 0)))) rfl)) ?_
              have q15 : ¬ (((ord l).getD i66 0) ≠ ((ord l).getD i66 0)) := (fun h => h rfl)
              rw [decide_eq_false q15]
              refine Wt_take (i := 13) (listed' := #[true, true, true, true, true, true, true, true, true, true, true, true, true, true, false, false, false, false, false, false]) (by kernel_rfl) rfl (by kernel_rfl) (by kernel_rfl) (by kernel_rfl) (by kernel_rfl) (YI_v (v := .agg #[.int .i64 (((cds l).getD ((ord l).getD i66 0).toNat (0, 0)).1), .int .u32 (((cds l).getD ((ord l).getD i66 0).toNat (0, 0)).2)]) rfl (fun w' hw' => r_loada (b := B67) (off := 0) (cs := [.int .i64 (((cds l).getD ((ord l).getD i66 0).toNat (0, 0)).1), .int .u32 (((cds l).getD ((ord l).getD i66 0).toNat (0, 0)).2)]) Try.isAgg37 Try.sizeOf37 rfl rfl (fun j hj => by rw [(hb67.upd0 hw').cell]; match j, hj with | 0, _ => rfl | 1, _ => rfl))) ?_
              refine Wt_take (i := 14) (listed' := #[true, true, true, true, true, true, true, true, true, true, true, true, true, true, true, false, false, false, false, false]) (by kernel_rfl) rfl (by kernel_rfl) (by kernel_rfl) (by kernel_rfl) (by kernel_rfl) (YI_v (v := .slice a5 n c5) rfl (fun w' hw' => r_load Try.isAgg28 rfl (by rw [(hb6.upd0 hw').cell]; rfl))) ?_
              refine Wt_take (i := 15) (listed' := #[true, true, true, true, true, true, true, true, true, true, true, true, true, true, true, true, false, false, false, false]) (by kernel_rfl) rfl (by kernel_rfl) (by kernel_rfl) (by kernel_rfl) (by kernel_rfl) (YI_v (v := .int .i64 ((ord l).getD i66 0)) rfl (fun w' hw' => r_mv (v := .int .i64 ((ord l).getD i66 0)) rfl)) ?_
              obtain ⟨ib71, io71, ha71, hib71, hc71⟩ := Sl.rat (0, 0) encC_len (by decide) (hO5.sl) (i := ((ord l).getD i66 0).toNat) (by omega)
              refine Wt_take (i := 16) (listed' := #[true, true, true, true, true, true, true, true, true, true, true, true, true, true, true, true, true, false, false, false]) (by kernel_rfl) rfl (by kernel_rfl) (by kernel_rfl) (by kernel_rfl) (by kernel_rfl) (YI_v (v := .pointer (some ⟨ib71, io71 + (((ord l).getD i66 0).toNat) * 2, none⟩)) rfl (fun w' hw' => r_idx (b := ib71) (off := io71) (m := n) (c := c5) (o' := io71 + (((ord l).getD i66 0).toNat) * 2) Try.underlying28 Try.sizeOf37 (by rw [← ha71]; rfl) rfl (by omega) (by omega) (by omega))) ?_
              refine Wt_take (i := 17) (listed' := #[true, true, true, true, true, true, true, true, true, true, true, true, true, true, true, true, true, true, false, false]) (by kernel_rfl) rfl (by kernel_rfl) (by kernel_rfl) (by kernel_rfl) (by kernel_rfl) (YI_v (v := .agg #[.int .i64 (((cds l).getD ((ord l).getD i66 0).toNat (0, 0)).1), .int .u32 (((cds l).getD ((ord l).getD i66 0).toNat (0, 0)).2)]) rfl (fun w' hw' => r_loada (cs := [.int .i64 (((cds l).getD ((ord l).getD i66 0).toNat (0, 0)).1), .int .u32 (((cds l).getD ((ord l).getD i66 0).toNat (0, 0)).2)]) Try.isAgg37 Try.sizeOf37 rfl rfl (hw'.cellsk rfl hc71))) ?_
              refine Wt_take (i := 18) (listed' := #[true, true, true, true, true, true, true, true, true, true, true, true, true, true, true, true, true, true, true, false]) (by kernel_rfl) rfl (by kernel_rfl) (by kernel_rfl) (by kernel_rfl) (by kernel_rfl) (YI_v (v := .bool (!decide ((((cds l).getD ((ord l).getD i66 0).toNat (0, 0)).1) = (((cds l).getD ((ord l).getD i66 0).toNat (0, 0)).1) ∧ (((cds l).getD ((ord l).getD i66 0).toNat (0, 0)).2) = (((cds l).getD ((ord l).getD i66 0).toNat (0, 0)).2)))) rfl (fun w' hw' => r_neag (pp := (((cds l).getD ((ord l).getD i66 0).toNat (0, 0)).1) = (((cds l).getD ((ord l).getD i66 0).toNat (0, 0)).1) ∧ (((cds l).getD ((ord l).getD i66 0).toNat (0, 0)).2) = (((cds l).getD ((ord l).getD i66 0).toNat (0, 0)).2)) Try.underlying37 (by kernel_rfl) (by kernel_rfl) rfl rfl (fun w => eqf_int (by decide) Try.underlying3 Try.isAgg3 rfl rfl (fun w => eqf_int (by decide) Try.underlying35 Try.isAgg35 rfl rfl (fun w => eqf_nil))) (by simp [Bool.decide_and]))) ?_
              refine Wt_take (i := 19) (listed' := #[true, true, true, true, true, true, true, true, true, true, true, true, true, true, true, true, true, true, true, true]) (by kernel_rfl) rfl (by kernel_rfl) (by kernel_rfl) (by kernel_rfl) (by kernel_rfl) (YI_v rfl (fun w' hw' => r_pick_f (v := .bool (!decide ((((cds l).getD ((ord l).getD i66 0).toNat (0, 0)).1) = (((cds l).getD ((ord l).getD i66 0).toNat (0, 0)).1) ∧ (((cds l).getD ((ord l).getD i66 0).toNat (0, 0)).2) = (((cds l).getD ((ord l).getD i66 0).toNat (0, 0)).2)))) rfl rfl)) ?_
              intro w72 hU72
              have hzw72 := hU72.size
              replace hrc65 := hrc65.upd0 hU72
              replace hdf65 := hdf65.upd0 hU72
              replace hb63 := hb63.upd0 hU72
              replace hdf22 := hdf22.upd0 hU72
              replace hb20 := hb20.upd0 hU72
              replace hb1 := hb1.upd0 hU72
              replace hb2 := hb2.upd0 hU72
              replace hO5 := hO5.upd0 hU72
              replace hb6 := hb6.upd0 hU72
              replace hb8 := hb8.upd0 hU72
              replace hO9 := hO9.upd0 hU72
              replace hBo13 := hBo13.upd0 hU72
              replace hBc13 := hBc13.upd0 hU72
              replace hO13 := hO13.upd0 hU72
              replace hC13 := hC13.upd0 hU72
              replace hO12 := hO12.upd0 hU72
              replace hb18 := hb18.upd0 hU72
              replace hb60 := hb60.upd0 hU72
              replace HU := HU.trans0 hU72
              replace HB65 := HB65.trans0 hU72
              replace hb67 := hb67.upd0 hU72
              replace hc70 := cell_upd0 hU72 hc70
              refine Wa_done (by kernel_rfl) ?_
              have q16 : (((cds l).getD ((ord l).getD i66 0).toNat (0, 0)).1) = (((cds l).getD ((ord l).getD i66 0).toNat (0, 0)).1) ∧ (((cds l).getD ((ord l).getD i66 0).toNat (0, 0)).2) = (((cds l).getD ((ord l).getD i66 0).toNat (0, 0)).2) := ⟨rfl, rfl⟩
              rw [decide_eq_true q16]
              simp only [Bool.not_true, Bool.not_false]
              refine W_cond_f rfl ?_
              refine W_skip ?_
              refine W_seq ?_
              refine W_region ?_
              refine Wl_load (v := .int .i64 ((i66 : Nat) : Int)) Try.isAgg3 rfl hb63 rfl ?_
              refine Wl_v (r_add rfl rfl (wi64 (by omega) (by omega))) ?_
              refine Wl_store (v := .int .i64 (((i66 : Nat) : Int) + 1)) (cs' := [.int .i64 (((i66 : Nat) : Int) + 1)]) Try.sizeOf3 rfl rfl rfl rfl hb63 rfl rfl ?_
              intro w73 hU73 hzz73 hb63n
              replace hb63 := hb63n; clear hb63n
              have hzw73 := hU73.size
              replace hrc65 := hrc65.upd1 hU73 (by omega)
              replace hdf65 := hdf65.upd1 hU73 (by omega)
              replace hdf22 := hdf22.upd1 hU73 (by omega)
              replace hb20 := hb20.upd1 hU73 (by omega)
              replace hb1 := hb1.upd1 hU73 (by omega)
              replace hb2 := hb2.upd1 hU73 (by omega)
              replace hO5 := hO5.upd1 hU73 (by intro h1; have h3 : ((w2.heap.size ≤ B63) ∧ B63 < w5.heap.size) := h1; omega)
              replace hb6 := hb6.upd1 hU73 (by omega)
              replace hb8 := hb8.upd1 hU73 (by omega)
              replace hO9 := hO9.upd1 hU73 (by intro h1; have h3 : ((w8.heap.size ≤ B63) ∧ B63 < w9.heap.size) := h1; omega)
              replace hBo13 := hBo13.upd1 hU73 (by omega)
              replace hBc13 := hBc13.upd1 hU73 (by omega)
              replace hO13 := hO13.upd1 hU73 (by intro h1; have h3 : ((w12.heap.size ≤ B63) ∧ B63 < w13.heap.size) := h1; omega)
              replace hC13 := hC13.upd1 hU73 (by intro h1; have h3 : ((w12.heap.size ≤ B63) ∧ B63 < w13.heap.size) := h1; omega)
              replace hO12 := hO12.upd1 hU73 (by intro h1; have h3 : ((((B63 = B11) ∨ B63 = w11.heap.size)) ∧ B63 < w12.heap.size) := h1; omega)
              replace hb18 := hb18.upd1 hU73 (by omega)
              replace hb60 := hb60.upd1 hU73 (by omega)
              replace HU := HU.trans1 hU73 (by show (False) ∨ w.heap.size ≤ B63; omega)
              replace HB65 := HB65.trans1 hU73 (by show (B63 = B63 ∨ B63 = D65 + 1) ∨ w66.heap.size ≤ B63; omega)
              replace hb67 := hb67.upd1 hU73 (by omega)
              replace hc70 := cell_upd1 hU73 hc70 (by show ib70 ≠ B63; omega)
              refine Wl_nil ?_
              refine W_seq ?_
              refine W_region ?_
              refine Wl_load (v := .int .i64 1) Try.isAgg3 rfl hb60 rfl ?_
              refine Wl_v (v := .bool false) (r_eq (a := 1) (b := 0) rfl rfl) ?_
              refine Wl_v (r_mv (v := .bool false) rfl) ?_
              refine Wl_guard_f rfl ?_
              refine Wl_guard_f rfl ?_
              refine Wl_guard_f rfl ?_
              refine Wl_v (r_pick_f (v := .bool false) rfl rfl) ?_
              refine Wl_nil ?_
              refine W_cond_f rfl ?_
              refine W_skip ?_
              refine ⟨rfl, _, hrc65, ?_⟩
              intro w74 hU74 hzz74 hrz
              have hzw74 := hU74.size
              replace hdf65 := hdf65.upd1 hU74 (by omega)
              replace hb63 := hb63.upd1 hU74 (by omega)
              replace hdf22 := hdf22.upd1 hU74 (by omega)
              replace hb20 := hb20.upd1 hU74 (by omega)
              replace hb1 := hb1.upd1 hU74 (by omega)
              replace hb2 := hb2.upd1 hU74 (by omega)
              replace hO5 := hO5.upd1 hU74 (by intro h1; have h3 : ((w2.heap.size ≤ (D65 + 1)) ∧ (D65 + 1) < w5.heap.size) := h1; omega)
              replace hb6 := hb6.upd1 hU74 (by omega)
              replace hb8 := hb8.upd1 hU74 (by omega)
              replace hO9 := hO9.upd1 hU74 (by intro h1; have h3 : ((w8.heap.size ≤ (D65 + 1)) ∧ (D65 + 1) < w9.heap.size) := h1; omega)
              replace hBo13 := hBo13.upd1 hU74 (by omega)
              replace hBc13 := hBc13.upd1 hU74 (by omega)
              replace hO13 := hO13.upd1 hU74 (by intro h1; have h3 : ((w12.heap.size ≤ (D65 + 1)) ∧ (D65 + 1) < w13.heap.size) := h1; omega)
              replace hC13 := hC13.upd1 hU74 (by intro h1; have h3 : ((w12.heap.size ≤ (D65 + 1)) ∧ (D65 + 1) < w13.heap.size) := h1; omega)
              replace hO12 := hO12.upd1 hU74 (by intro h1; have h3 : (((((D65 + 1) = B11) ∨ (D65 + 1) = w11.heap.size)) ∧ (D65 + 1) < w12.heap.size) := h1; omega)
              replace hb18 := hb18.upd1 hU74 (by omega)
              replace hb60 := hb60.upd1 hU74 (by omega)
              replace HU := HU.trans1 hU74 (by show (False) ∨ w.heap.size ≤ (D65 + 1); omega)
              replace HB65 := HB65.trans1 hU74 (by show ((D65 + 1) = B63 ∨ (D65 + 1) = D65 + 1) ∨ w66.heap.size ≤ (D65 + 1); omega)
              replace hb67 := hb67.upd1 hU74 (by omega)
              replace hc70 := cell_upd1 hU74 hc70 (by show ib70 ≠ (D65 + 1); omega)
              exact Or.inl ⟨rfl, HB65, (hJ65 _ _).2 ⟨(by rw [hr65]; rw [hr65] at hrz; exact hrz), hdf65, hb63, hdf22, hb20, hb1, hb2, hO5, hb6, hb8, hO9, hBo13, hBc13, hO13, hC13, hO12, hb18, hb60, HU⟩⟩
            · rintro b c w9 (⟨rfl, h1, h2⟩ | ⟨rfl, h1⟩)
              · exact Or.inl ⟨rfl, h1, h2⟩
              · exact Or.inr ⟨rfl, h1⟩
          rintro e w75 ⟨v, rfl, hh | hh⟩
          · obtain ⟨hrc65, hdf65, hb63, hdf22, hb20, hb1, hb2, hO5, hb6, hb8, hO9, hBo13, hBc13, hO13, hC13, hO12, hb18, hb60, HU⟩ := (hJ65 _ _).1 hh
            have hrl65 := hrc65.lt
            refine ⟨r65, hrc65, (by rw [hr65]; simp), ?_⟩
            intro w76 hU76 hzz76
            have hzw76 := hU76.size
            replace hdf65 := hdf65.upd1 hU76 (by omega)
            replace hb63 := hb63.upd1 hU76 (by omega)
            replace hdf22 := hdf22.upd1 hU76 (by omega)
            replace hb20 := hb20.upd1 hU76 (by omega)
            replace hb1 := hb1.upd1 hU76 (by omega)
            replace hb2 := hb2.upd1 hU76 (by omega)
            replace hO5 := hO5.upd1 hU76 (by intro h1; have h3 : ((w2.heap.size ≤ (D65 + 1)) ∧ (D65 + 1) < w5.heap.size) := h1; omega)
            replace hb6 := hb6.upd1 hU76 (by omega)
            replace hb8 := hb8.upd1 hU76 (by omega)
            replace hO9 := hO9.upd1 hU76 (by intro h1; have h3 : ((w8.heap.size ≤ (D65 + 1)) ∧ (D65 + 1) < w9.heap.size) := h1; omega)
            replace hBo13 := hBo13.upd1 hU76 (by omega)
            replace hBc13 := hBc13.upd1 hU76 (by omega)
            replace hO13 := hO13.upd1 hU76 (by intro h1; have h3 : ((w12.heap.size ≤ (D65 + 1)) ∧ (D65 + 1) < w13.heap.size) := h1; omega)
            replace hC13 := hC13.upd1 hU76 (by intro h1; have h3 : ((w12.heap.size ≤ (D65 + 1)) ∧ (D65 + 1) < w13.heap.size) := h1; omega)
            replace hO12 := hO12.upd1 hU76 (by intro h1; have h3 : (((((D65 + 1) = B11) ∨ (D65 + 1) = w11.heap.size)) ∧ (D65 + 1) < w12.heap.size) := h1; omega)
            replace hb18 := hb18.upd1 hU76 (by omega)
            replace hb60 := hb60.upd1 hU76 (by omega)
            replace HU := HU.trans1 hU76 (by show (False) ∨ w.heap.size ≤ (D65 + 1); omega)
            rw [hr65]
            skip
            refine W_seq ?_
            refine W_region ?_
            refine Wl_load (v := .int .i64 1) Try.isAgg3 rfl hb60 rfl ?_
            refine Wl_v (v := .bool false) (r_eq (a := 1) (b := 0) rfl rfl) ?_
            refine Wl_v (r_mv (v := .bool false) rfl) ?_
            refine Wl_guard_f rfl ?_
            refine Wl_guard_f rfl ?_
            refine Wl_guard_f rfl ?_
            refine Wl_guard_f rfl ?_
            refine Wl_guard_f rfl ?_
            refine Wl_guard_f rfl ?_
            refine Wl_guard_f rfl ?_
            refine Wl_v (r_pick_f (v := .bool false) rfl rfl) ?_
            refine Wl_v (r_mv (v := .bool false) rfl) ?_
            refine Wl_guard_t rfl ?_
            refine Wl_load (v := .int .i64 1) Try.isAgg3 rfl hb60 rfl ?_
            refine Wl_guard_t rfl ?_
            refine Wl_v (v := .bool true) (r_eq (a := 1) (b := 1) rfl rfl) ?_
            refine Wl_guard_t rfl ?_
            refine Wl_v (r_mv (v := .bool true) rfl) ?_
            refine Wl_guard_t rfl ?_
            refine Wl_load (v := .int .i64 ((m13 : Nat) : Int)) Try.isAgg3 rfl hb63 rfl ?_
            refine Wl_guard_t rfl ?_
            refine Wl_load (v := .slice a9 m9 c9) Try.isAgg22 rfl hb8 rfl ?_
            refine Wl_guard_t rfl ?_
            refine Wl_v (r_len Try.underlying22 rfl) ?_
            refine Wl_guard_t rfl ?_
            refine Wl_v (r_ne rfl rfl) ?_
            refine Wl_guard_t rfl ?_
            refine Wl_v (r_pick_t (v := .bool (decide (((m13 : Nat) : Int) ≠ ((m9 : Nat) : Int)))) rfl rfl) ?_
            refine Wl_v (r_pick_f (v := .bool (decide (((m13 : Nat) : Int) ≠ ((m9 : Nat) : Int)))) rfl rfl) ?_
            refine Wl_nil ?_
            have q17 : ¬ (((m13 : Nat) : Int) ≠ ((m9 : Nat) : Int)) := (by omega)
            rw [decide_eq_false q17]
            refine W_cond_f rfl ?_
            refine W_skip ?_
            refine W_seq ?_
            refine W_seq ?_
            refine W_region ?_
            refine Wl_load (v := .int .i64 1) Try.isAgg3 rfl hb60 rfl ?_
            refine Wl_nil ?_
            refine W_region ?_
            refine Wl_alloc (cs := [.int .i64 0]) Try.zeroValue3 rfl ?_
            intro B77 w77 hB77 hU77 hzz77 hb77
            have hzw77 := hU77.size
            replace hdf65 := hdf65.upd0 hU77
            replace hb63 := hb63.upd0 hU77
            replace hdf22 := hdf22.upd0 hU77
            replace hb20 := hb20.upd0 hU77
            replace hb1 := hb1.upd0 hU77
            replace hb2 := hb2.upd0 hU77
            replace hO5 := hO5.upd0 hU77
            replace hb6 := hb6.upd0 hU77
            replace hb8 := hb8.upd0 hU77
            replace hO9 := hO9.upd0 hU77
            replace hBo13 := hBo13.upd0 hU77
            replace hBc13 := hBc13.upd0 hU77
            replace hO13 := hO13.upd0 hU77
            replace hC13 := hC13.upd0 hU77
            replace hO12 := hO12.upd0 hU77
            replace hb18 := hb18.upd0 hU77
            replace hb60 := hb60.upd0 hU77
            replace HU := HU.trans0 hU77
            refine Wl_store (v := .int .i64 1) (cs' := [.int .i64 1]) Try.sizeOf3 rfl rfl rfl rfl hb77 rfl rfl ?_
            intro w78 hU78 hzz78 hb77n
            replace hb77 := hb77n; clear hb77n
            have hzw78 := hU78.size
            replace hdf65 := hdf65.upd1 hU78 (by omega)
            replace hb63 := hb63.upd1 hU78 (by omega)
            replace hdf22 := hdf22.upd1 hU78 (by omega)
            replace hb20 := hb20.upd1 hU78 (by omega)
            replace hb1 := hb1.upd1 hU78 (by omega)
            replace hb2 := hb2.upd1 hU78 (by omega)
            replace hO5 := hO5.upd1 hU78 (by intro h1; have h3 : ((w2.heap.size ≤ B77) ∧ B77 < w5.heap.size) := h1; omega)
            replace hb6 := hb6.upd1 hU78 (by omega)
            replace hb8 := hb8.upd1 hU78 (by omega)
            replace hO9 := hO9.upd1 hU78 (by intro h1; have h3 : ((w8.heap.size ≤ B77) ∧ B77 < w9.heap.size) := h1; omega)
            replace hBo13 := hBo13.upd1 hU78 (by omega)
            replace hBc13 := hBc13.upd1 hU78 (by omega)
            replace hO13 := hO13.upd1 hU78 (by intro h1; have h3 : ((w12.heap.size ≤ B77) ∧ B77 < w13.heap.size) := h1; omega)
            replace hC13 := hC13.upd1 hU78 (by intro h1; have h3 : ((w12.heap.size ≤ B77) ∧ B77 < w13.heap.size) := h1; omega)
            replace hO12 := hO12.upd1 hU78 (by intro h1; have h3 : ((((B77 = B11) ∨ B77 = w11.heap.size)) ∧ B77 < w12.heap.size) := h1; omega)
            replace hb18 := hb18.upd1 hU78 (by omega)
            replace hb60 := hb60.upd1 hU78 (by omega)
            replace HU := HU.trans1 hU78 (by show (False) ∨ w.heap.size ≤ B77; omega)
            refine Wl_nil ?_
            refine W_region ?_
            refine Wl_load (v := .int .i64 1) Try.isAgg3 rfl hb77 rfl ?_
            refine Wl_v (r_add rfl rfl (show IntKind.i64.wrap (1 + 1) = 2 by decide)) ?_
            refine Wl_store (v := .int .i64 2) (cs' := [.int .i64 2]) Try.sizeOf3 rfl rfl rfl rfl hb77 rfl rfl ?_
            intro w79 hU79 hzz79 hb77n
            replace hb77 := hb77n; clear hb77n
            have hzw79 := hU79.size
            replace hdf65 := hdf65.upd1 hU79 (by omega)
            replace hb63 := hb63.upd1 hU79 (by omega)
            replace hdf22 := hdf22.upd1 hU79 (by omega)
            replace hb20 := hb20.upd1 hU79 (by omega)
            replace hb1 := hb1.upd1 hU79 (by omega)
            replace hb2 := hb2.upd1 hU79 (by omega)
            replace hO5 := hO5.upd1 hU79 (by intro h1; have h3 : ((w2.heap.size ≤ B77) ∧ B77 < w5.heap.size) := h1; omega)
            replace hb6 := hb6.upd1 hU79 (by omega)
            replace hb8 := hb8.upd1 hU79 (by omega)
            replace hO9 := hO9.upd1 hU79 (by intro h1; have h3 : ((w8.heap.size ≤ B77) ∧ B77 < w9.heap.size) := h1; omega)
            replace hBo13 := hBo13.upd1 hU79 (by omega)
            replace hBc13 := hBc13.upd1 hU79 (by omega)
            replace hO13 := hO13.upd1 hU79 (by intro h1; have h3 : ((w12.heap.size ≤ B77) ∧ B77 < w13.heap.size) := h1; omega)
            replace hC13 := hC13.upd1 hU79 (by intro h1; have h3 : ((w12.heap.size ≤ B77) ∧ B77 < w13.heap.size) := h1; omega)
            replace hO12 := hO12.upd1 hU79 (by intro h1; have h3 : ((((B77 = B11) ∨ B77 = w11.heap.size)) ∧ B77 < w12.heap.size) := h1; omega)
            replace hb18 := hb18.upd1 hU79 (by omega)
            replace hb60 := hb60.upd1 hU79 (by omega)
            replace HU := HU.trans1 hU79 (by show (False) ∨ w.heap.size ≤ B77; omega)
            refine Wl_nil ?_
            refine W_seq ?_
            refine W_seq ?_
            refine W_region ?_
            refine Wl_load (v := .int .i64 2) Try.isAgg3 rfl hb77 rfl ?_
            refine Wl_v (v := .bool false) (r_lt (a := 2) (b := 2) rfl rfl) ?_
            refine Wl_nil ?_
            refine W_cond_f rfl ?_
            refine W_exit ?_
            refine W_seq ?_
            refine W_region ?_
            refine Wl_call (r_call0 rfl Try.call12 ) (works_spec _ ) ?_
            rintro v w80 ⟨rfl, hU80⟩
            have hzw80 := hU80.size
            replace hdf65 := hdf65.upd0 hU80
            replace hb63 := hb63.upd0 hU80
            replace hdf22 := hdf22.upd0 hU80
            replace hb20 := hb20.upd0 hU80
            replace hb1 := hb1.upd0 hU80
            replace hb2 := hb2.upd0 hU80
            replace hO5 := hO5.upd0 hU80
            replace hb6 := hb6.upd0 hU80
            replace hb8 := hb8.upd0 hU80
            replace hO9 := hO9.upd0 hU80
            replace hBo13 := hBo13.upd0 hU80
            replace hBc13 := hBc13.upd0 hU80
            replace hO13 := hO13.upd0 hU80
            replace hC13 := hC13.upd0 hU80
            replace hO12 := hO12.upd0 hU80
            replace hb18 := hb18.upd0 hU80
            replace hb60 := hb60.upd0 hU80
            replace HU := HU.trans0 hU80
            replace hb77 := hb77.upd0 hU80
            refine Wl_store (v := .bool true) (cs' := [.bool true]) Try.sizeOf4 rfl rfl rfl rfl hb2 rfl rfl ?_
            intro w81 hU81 hzz81 hb2n
            replace hb2 := hb2n; clear hb2n
            have hzw81 := hU81.size
            replace hdf65 := hdf65.upd1 hU81 (by omega)
            replace hb63 := hb63.upd1 hU81 (by omega)
            replace hdf22 := hdf22.upd1 hU81 (by omega)
            replace hb20 := hb20.upd1 hU81 (by omega)
            replace hb1 := hb1.upd1 hU81 (by omega)
            replace hO5 := hO5.upd1 hU81 (by intro h1; have h3 : ((w2.heap.size ≤ B2) ∧ B2 < w5.heap.size) := h1; omega)
            replace hb6 := hb6.upd1 hU81 (by omega)
            replace hb8 := hb8.upd1 hU81 (by omega)
            replace hO9 := hO9.upd1 hU81 (by intro h1; have h3 : ((w8.heap.size ≤ B2) ∧ B2 < w9.heap.size) := h1; omega)
            replace hBo13 := hBo13.upd1 hU81 (by omega)
            replace hBc13 := hBc13.upd1 hU81 (by omega)
            replace hO13 := hO13.upd1 hU81 (by intro h1; have h3 : ((w12.heap.size ≤ B2) ∧ B2 < w13.heap.size) := h1; omega)
            replace hC13 := hC13.upd1 hU81 (by intro h1; have h3 : ((w12.heap.size ≤ B2) ∧ B2 < w13.heap.size) := h1; omega)
            replace hO12 := hO12.upd1 hU81 (by intro h1; have h3 : ((((B2 = B11) ∨ B2 = w11.heap.size)) ∧ B2 < w12.heap.size) := h1; omega)
            replace hb18 := hb18.upd1 hU81 (by omega)
            replace hb60 := hb60.upd1 hU81 (by omega)
            replace HU := HU.trans1 hU81 (by show (False) ∨ w.heap.size ≤ B2; omega)
            replace hb77 := hb77.upd1 hU81 (by omega)
            refine Wl_nil ?_
            refine W_ret ?_
            refine ret_ds rfl ?_
            refine lv_mark (by simp) hdf65 ?_
            intro w82 hU82 hzz82
            have hzw82 := hU82.size
            replace hb63 := hb63.upd1 hU82 (by omega)
            replace hdf22 := hdf22.upd1 hU82 (by omega)
            replace hb20 := hb20.upd1 hU82 (by omega)
            replace hb1 := hb1.upd1 hU82 (by omega)
            replace hb2 := hb2.upd1 hU82 (by omega)
            replace hO5 := hO5.upd1 hU82 (by intro h1; have h3 : ((w2.heap.size ≤ D65) ∧ D65 < w5.heap.size) := h1; omega)
            replace hb6 := hb6.upd1 hU82 (by omega)
            replace hb8 := hb8.upd1 hU82 (by omega)
            replace hO9 := hO9.upd1 hU82 (by intro h1; have h3 : ((w8.heap.size ≤ D65) ∧ D65 < w9.heap.size) := h1; omega)
            replace hBo13 := hBo13.upd1 hU82 (by omega)
            replace hBc13 := hBc13.upd1 hU82 (by omega)
            replace hO13 := hO13.upd1 hU82 (by intro h1; have h3 : ((w12.heap.size ≤ D65) ∧ D65 < w13.heap.size) := h1; omega)
            replace hC13 := hC13.upd1 hU82 (by intro h1; have h3 : ((w12.heap.size ≤ D65) ∧ D65 < w13.heap.size) := h1; omega)
            replace hO12 := hO12.upd1 hU82 (by intro h1; have h3 : ((((D65 = B11) ∨ D65 = w11.heap.size)) ∧ D65 < w12.heap.size) := h1; omega)
            replace hb18 := hb18.upd1 hU82 (by omega)
            replace hb60 := hb60.upd1 hU82 (by omega)
            replace HU := HU.trans1 hU82 (by show (False) ∨ w.heap.size ≤ D65; omega)
            replace hb77 := hb77.upd1 hU82 (by omega)
            refine lv_mark (by simp) hdf22 ?_
            intro w83 hU83 hzz83
            have hzw83 := hU83.size
            replace hb63 := hb63.upd1 hU83 (by omega)
            replace hb20 := hb20.upd1 hU83 (by omega)
            replace hb1 := hb1.upd1 hU83 (by omega)
            replace hb2 := hb2.upd1 hU83 (by omega)
            replace hO5 := hO5.upd1 hU83 (by intro h1; have h3 : ((w2.heap.size ≤ D22) ∧ D22 < w5.heap.size) := h1; omega)
            replace hb6 := hb6.upd1 hU83 (by omega)
            replace hb8 := hb8.upd1 hU83 (by omega)
            replace hO9 := hO9.upd1 hU83 (by intro h1; have h3 : ((w8.heap.size ≤ D22) ∧ D22 < w9.heap.size) := h1; omega)
            replace hBo13 := hBo13.upd1 hU83 (by omega)
            replace hBc13 := hBc13.upd1 hU83 (by omega)
            replace hO13 := hO13.upd1 hU83 (by intro h1; have h3 : ((w12.heap.size ≤ D22) ∧ D22 < w13.heap.size) := h1; omega)
            replace hC13 := hC13.upd1 hU83 (by intro h1; have h3 : ((w12.heap.size ≤ D22) ∧ D22 < w13.heap.size) := h1; omega)
            replace hO12 := hO12.upd1 hU83 (by intro h1; have h3 : ((((D22 = B11) ∨ D22 = w11.heap.size)) ∧ D22 < w12.heap.size) := h1; omega)
            replace hb18 := hb18.upd1 hU83 (by omega)
            replace hb60 := hb60.upd1 hU83 (by omega)
            replace HU := HU.trans1 hU83 (by show (False) ∨ w.heap.size ≤ D22; omega)
            replace hb77 := hb77.upd1 hU83 (by omega)
            refine lv_nil (v := .bool true) (rc1 Try.results10 rfl (cellIs Try.isAgg4 hb2)) ?_
            exact ⟨_, rfl, rfl, HU⟩
          · exact ((hJx65 _).1 hh).elim
    · refine Wl_call (r_call1 rfl Try.call17 rfl) (rcodes_no _ hs (by omega) q2) ?_
      rintro v w84 ⟨rfl, hU84⟩
      have hzw84 := hU84.size
      replace hs := hs.upd0 hU84
      replace HU := HU.trans0 hU84
      replace hb1 := hb1.upd0 hU84
      replace hb2 := hb2.upd0 hU84
      refine Wl_v (r_mv (v := .tuple #[.slice none 0 0, .int .i64 12]) rfl) ?_
      refine Wl_v (r_ext (v := .slice none 0 0) rfl rfl) ?_
      refine Wl_v (r_ext (v := .int .i64 12) rfl rfl) ?_
      refine Wl_alloc (cs := [.slice none 0 0]) Try.zeroValue28 rfl ?_
      intro B85 w85 hB85 hU85 hzz85 hb85
      have hzw85 := hU85.size
      replace hs := hs.upd0 hU85
      replace HU := HU.trans0 hU85
      replace hb1 := hb1.upd0 hU85
      replace hb2 := hb2.upd0 hU85
      refine Wl_store (v := .slice none 0 0) (cs' := [.slice none 0 0]) Try.sizeOf28 rfl rfl rfl rfl hb85 rfl rfl ?_
      intro w86 hU86 hzz86 hb85n
      replace hb85 := hb85n; clear hb85n
      have hzw86 := hU86.size
      replace hs := hs.upd1 hU86 (by intro h1; have h3 : B85 < w.heap.size := h1; omega)
      replace HU := HU.trans1 hU86 (by show (False) ∨ w.heap.size ≤ B85; omega)
      replace hb1 := hb1.upd1 hU86 (by omega)
      replace hb2 := hb2.upd1 hU86 (by omega)
      refine Wl_v (r_as (v := .int .i64 12) rfl) ?_
      refine Wl_nil ?_
      refine W_seq ?_
      refine W_region ?_
      refine Wl_alloc (cs := [.slice none 0 0]) Try.zeroValue22 rfl ?_
      intro B87 w87 hB87 hU87 hzz87 hb87
      have hzw87 := hU87.size
      replace hs := hs.upd0 hU87
      replace HU := HU.trans0 hU87
      replace hb1 := hb1.upd0 hU87
      replace hb2 := hb2.upd0 hU87
      replace hb85 := hb85.upd0 hU87
      refine Wl_nil ?_
      refine W_seq ?_
      refine W_seq ?_
      refine W_region ?_
      refine Wl_v (r_mv (v := .int .i64 12) rfl) ?_
      refine Wl_v (v := .bool false) (r_eq (a := 12) (b := 0) rfl rfl) ?_
      refine Wl_nil ?_
      refine W_cond_f rfl ?_
      refine W_skip ?_
      refine W_seq ?_
      refine W_region ?_
      refine Wl_lit0 Try.underlying22 Try.sizeOf3 ?_
      intro B88 w88 hB88 hU88 hzz88 hs88
      have hzw88 := hU88.size
      replace hs := hs.upd0 hU88
      replace HU := HU.trans0 hU88
      replace hb1 := hb1.upd0 hU88
      replace hb2 := hb2.upd0 hU88
      replace hb85 := hb85.upd0 hU88
      replace hb87 := hb87.upd0 hU88
      refine Wl_v (r_mv (v := .slice a n c) rfl) ?_
      refine Wl_appendi (xs := []) (ys := l) (zs := l) (k' := .i64) (tot := n) (by first | rfl | simp) Try.underlying22 (ti := Try.t3) (z := .int .i64 0) (sz := 1) (by' := 8) rfl rfl rfl rfl rfl (by decide) rfl hs88 rfl hs  (by omega) (by simp only [maxLen]; omega) (by omega) ?_
      intro a89 c89 w89 hU89 hzz89 hO89
      clear hs88
      have hzw89 := hU89.size
      replace hs := hs.upd hU89 (by intro x h1 h2; have h3 : x < w.heap.size := h1; have h4 : x = B88 := h2; omega)
      replace HU := HU.trans hU89 (by intro x hx; have hx2 : x = B88 := hx; show (False) ∨ w.heap.size ≤ x; omega)
      replace hb1 := hb1.upd hU89 (by intro hx; have hx2 : B1 = B88 := hx; omega)
      replace hb2 := hb2.upd hU89 (by intro hx; have hx2 : B2 = B88 := hx; omega)
      replace hb85 := hb85.upd hU89 (by intro hx; have hx2 : B85 = B88 := hx; omega)
      replace hb87 := hb87.upd hU89 (by intro hx; have hx2 : B87 = B88 := hx; omega)
      replace hO89 := hO89.tight
      have hl_hO89 := ilen hO89.sl
      have hc_hO89 := hO89.sl.cap.1
      refine Wl_v (r_as (v := .slice a89 n c89) rfl) ?_
      refine Wl_nil ?_
      refine W_seq ?_
      refine W_region ?_
      refine Wl_v (r_mv (v := .slice a89 n c89) rfl) ?_
      refine Wl_call (r_call1 rfl Try.call32 rfl) (all_spec _ hO89.sl (by omega)) ?_
      rintro v w90 ⟨Bo90, Bc90, a90, m90, c90, b90, n90, d90, rfl, hBo90, hBc90, hO90, hC90, hb1_90, hb2_90, hU90⟩
      have hzw90 := hU90.size
      replace hs := hs.upd0 hU90
      replace HU := HU.trans0 hU90
      replace hb1 := hb1.upd0 hU90
      replace hb2 := hb2.upd0 hU90
      replace hb85 := hb85.upd0 hU90
      replace hb87 := hb87.upd0 hU90
      replace hO89 := hO89.upd0 hU90
      have hbl_hBo90 := hBo90.lt
      have hbl_hBc90 := hBc90.lt
      replace hO90 := hO90.tight
      have hl_hO90 := ilen hO90.sl
      have hc_hO90 := hO90.sl.cap.1
      replace hC90 := hC90.tight
      have hl_hC90 := rlen encC_len (by decide) hC90.sl
      have hc_hC90 := hC90.sl.cap.1
      replace hO90 := hO90.icong (show ordR l = [] from if_neg q2)
      replace hC90 := hC90.rcong (show cdsR l = [] from if_neg q2)
      have hlo := ilen hO90.sl
      have hlc := rlen encC_len (by decide) hC90.sl
      simp only [List.length_nil] at hlo hlc
      refine Wl_v (r_as (v := .func (.func 49) #[] #[.pointer (some ⟨Bo90, 0, none⟩), .pointer (some ⟨Bc90, 0, none⟩)]) rfl) ?_
      refine Wl_nil ?_
      refine W_seq ?_
      refine W_seq ?_
      refine W_region ?_
      refine Wl_v (r_mv (v := .func (.func 49) #[] #[.pointer (some ⟨Bo90, 0, none⟩), .pointer (some ⟨Bc90, 0, none⟩)]) rfl) ?_
      refine Wl_v (r_eqfn_s Try.underlying60 rfl rfl) ?_
      refine Wl_nil ?_
      refine W_cond_f rfl ?_
      refine W_skip ?_
      refine W_seq ?_
      refine W_seq ?_
      refine W_region ?_
      refine Wl_v (r_as (v := .int .i64 0) rfl) ?_
      refine Wl_nil ?_
      refine W_block ?_
      refine W_loop (fun mu ρ ds w' => ∃ (k : Nat) (ys : List Int), n - k = mu ∧ ds = [] ∧ Liv ρ [(3, .pointer (some ⟨B1, 0, none⟩)), (4, .pointer (some ⟨B2, 0, none⟩)), (5, .pointer (some ⟨B85, 0, none⟩)), (7, .pointer (some ⟨B87, 0, none⟩)), (8, .slice a89 n c89), (9, .func (.func 49) #[] #[.pointer (some ⟨Bo90, 0, none⟩), .pointer (some ⟨Bc90, 0, none⟩)]), (10, .int .i64 ((k : Nat) : Int))] ∧ k ≤ n ∧ Own w' (fun g => ((((g = B88) ∨ g = w88.heap.size)) ∧ g < w89.heap.size)) 3 1 (.slice a89 n c89) n (ints .i64 ys) ∧ Upd (fun g => ((((g = B88) ∨ g = w88.heap.size)) ∧ g < w89.heap.size)) w90 w') _ ⟨0, l, rfl, rfl, ⟨rfl, rfl, rfl, rfl, rfl, rfl, (by first | rfl | exact vint (by omega) | exact vint (by simp)), trivial⟩, (by omega), hO89, Upd.refl _ _⟩ ?_
      rintro m91 ρ91 ds91 w91 ⟨k, ys, rfl, rfl, hl91, hk, hO89, hU91⟩
      obtain ⟨ρ91x, rfl⟩ : ∃ ρx, ρ91 = upds ρx [(3, .pointer (some ⟨B1, 0, none⟩)), (4, .pointer (some ⟨B2, 0, none⟩)), (5, .pointer (some ⟨B85, 0, none⟩)), (7, .pointer (some ⟨B87, 0, none⟩)), (8, .slice a89 n c89), (9, .func (.func 49) #[] #[.pointer (some ⟨Bo90, 0, none⟩), .pointer (some ⟨Bc90, 0, none⟩)]), (10, .int .i64 ((k : Nat) : Int))] := ⟨_, upds_self hl91⟩
      clear hl91
      have hzw91 := hU91.size
      replace hs := hs.upd hU91 (by intro x h1 h2; have h3 : x < w.heap.size := h1; have h4 : ((((x = B88) ∨ x = w88.heap.size)) ∧ x < w89.heap.size) := h2; omega)
      replace HU := HU.trans hU91 (by intro x hx; have hx2 : ((((x = B88) ∨ x = w88.heap.size)) ∧ x < w89.heap.size) := hx; show (False) ∨ w.heap.size ≤ x; omega)
      replace hb1 := hb1.upd hU91 (by intro hx; have hx2 : ((((B1 = B88) ∨ B1 = w88.heap.size)) ∧ B1 < w89.heap.size) := hx; omega)
      replace hb2 := hb2.upd hU91 (by intro hx; have hx2 : ((((B2 = B88) ∨ B2 = w88.heap.size)) ∧ B2 < w89.heap.size) := hx; omega)
      replace hb85 := hb85.upd hU91 (by intro hx; have hx2 : ((((B85 = B88) ∨ B85 = w88.heap.size)) ∧ B85 < w89.heap.size) := hx; omega)
      replace hb87 := hb87.upd hU91 (by intro hx; have hx2 : ((((B87 = B88) ∨ B87 = w88.heap.size)) ∧ B87 < w89.heap.size) := hx; omega)
      replace hBo90 := hBo90.upd hU91 (by intro hx; have hx2 : ((((Bo90 = B88) ∨ Bo90 = w88.heap.size)) ∧ Bo90 < w89.heap.size) := hx; omega)
      replace hBc90 := hBc90.upd hU91 (by intro hx; have hx2 : ((((Bc90 = B88) ∨ Bc90 = w88.heap.size)) ∧ Bc90 < w89.heap.size) := hx; omega)
      replace hO90 := hO90.upd hU91 (by intro x h1 h2; have h3 : ((w89.heap.size ≤ x) ∧ x < w90.heap.size) := h1; have h4 : ((((x = B88) ∨ x = w88.heap.size)) ∧ x < w89.heap.size) := h2; omega)
      replace hC90 := hC90.upd hU91 (by intro x h1 h2; have h3 : ((w89.heap.size ≤ x) ∧ x < w90.heap.size) := h1; have h4 : ((((x = B88) ∨ x = w88.heap.size)) ∧ x < w89.heap.size) := h2; omega)
      have HL91 := hU91
      refine W_seq ?_
      refine W_seq ?_
      refine W_region ?_
      refine Wl_v (r_mv (v := .int .i64 ((k : Nat) : Int)) rfl) ?_
      refine Wl_v (r_mv (v := .slice a89 n c89) rfl) ?_
      refine Wl_v (r_len Try.underlying22 rfl) ?_
      refine Wl_v (r_lt rfl rfl) ?_
      refine Wl_nil ?_
      by_cases q18 : ((k : Nat) : Int) < ((n : Nat) : Int)
      · rw [decide_eq_true q18]
        refine W_cond_t rfl ?_
        refine W_skip ?_
        refine W_seq ?_
        refine W_block ?_
        refine W_region ?_
        refine Wl_v (r_mv (v := .slice a89 n c89) rfl) ?_
        refine Wl_v (r_mv (v := .int .i64 ((k : Nat) : Int)) rfl) ?_
        obtain ⟨g92, rfl, hg92⟩ := hO89.addr (by omega)
        replace hg92 : ((((g92 = B88) ∨ g92 = w88.heap.size)) ∧ g92 < w89.heap.size) := hg92
        refine Wl_idxo (i' := k) Try.underlying22 Try.sizeOf3 rfl rfl hO89 (by omega) (by omega) ?_
        intro hc93
        refine Wl_storeo (i := k) Try.sizeOf3 rfl rfl hO89 (by omega) ?_
        intro w94 hU94 hzz94 hO94
        clear hO89
        have hzw94 := hU94.size
        replace hs := hs.upd1 hU94 (by intro h1; have h3 : g92 < w.heap.size := h1; omega)
        replace HU := HU.trans1 hU94 (by show (False) ∨ w.heap.size ≤ g92; omega)
        replace hb1 := hb1.upd1 hU94 (by omega)
        replace hb2 := hb2.upd1 hU94 (by omega)
        replace hb85 := hb85.upd1 hU94 (by omega)
        replace hb87 := hb87.upd1 hU94 (by omega)
        replace hBo90 := hBo90.upd1 hU94 (by omega)
        replace hBc90 := hBc90.upd1 hU94 (by omega)
        replace hO90 := hO90.upd1 hU94 (by intro h1; have h3 : ((w89.heap.size ≤ g92) ∧ g92 < w90.heap.size) := h1; omega)
        replace hC90 := hC90.upd1 hU94 (by intro h1; have h3 : ((w89.heap.size ≤ g92) ∧ g92 < w90.heap.size) := h1; omega)
        replace HL91 := HL91.trans1 hU94 (by show (((((g92 = B88) ∨ g92 = w88.heap.size)) ∧ g92 < w89.heap.size)) ∨ w90.heap.size ≤ g92; omega)
        have hl_hO94 := ilen hO94.sl
        have hc_hO94 := hO94.sl.cap.1
        refine Wl_nil ?_
        refine W_region ?_
        refine Wl_v (r_mv (v := .int .i64 ((k : Nat) : Int)) rfl) ?_
        refine Wl_v (r_add rfl rfl (wi64 (by omega) (by omega))) ?_
        refine Wl_v (r_as (v := .int .i64 (((k : Nat) : Int) + 1)) rfl) ?_
        refine Wl_nil ?_
        refine ⟨_, ?_, (k + 1), ys.set k 1, rfl, rfl, ⟨rfl, rfl, rfl, rfl, rfl, rfl, (by first | rfl | exact vint (by omega) | exact vint (by simp)), trivial⟩, (by omega), hO94, HL91⟩
        omega
      · rw [decide_eq_false q18]
        refine W_cond_f rfl ?_
        refine W_exit ?_
        refine W_seq ?_
        refine W_seq ?_
        refine W_region ?_
        refine Wl_alloc (cs := [.int .i64 0]) Try.zeroValue3 rfl ?_
        intro B95 w95 hB95 hU95 hzz95 hb95
        have hzw95 := hU95.size
        replace hs := hs.upd0 hU95
        replace HU := HU.trans0 hU95
        replace hb1 := hb1.upd0 hU95
        replace hb2 := hb2.upd0 hU95
        replace hb85 := hb85.upd0 hU95
        replace hb87 := hb87.upd0 hU95
        replace hBo90 := hBo90.upd0 hU95
        replace hBc90 := hBc90.upd0 hU95
        replace hO90 := hO90.upd0 hU95
        replace hC90 := hC90.upd0 hU95
        replace hO89 := hO89.upd0 hU95
        replace HL91 := HL91.trans0 hU95
        refine Wl_store (v := .int .i64 0) (cs' := [.int .i64 0]) Try.sizeOf3 rfl rfl rfl rfl hb95 rfl rfl ?_
        intro w96 hU96 hzz96 hb95n
        replace hb95 := hb95n; clear hb95n
        have hzw96 := hU96.size
        replace hs := hs.upd1 hU96 (by intro h1; have h3 : B95 < w.heap.size := h1; omega)
        replace HU := HU.trans1 hU96 (by show (False) ∨ w.heap.size ≤ B95; omega)
        replace hb1 := hb1.upd1 hU96 (by omega)
        replace hb2 := hb2.upd1 hU96 (by omega)
        replace hb85 := hb85.upd1 hU96 (by omega)
        replace hb87 := hb87.upd1 hU96 (by omega)
        replace hBo90 := hBo90.upd1 hU96 (by omega)
        replace hBc90 := hBc90.upd1 hU96 (by omega)
        replace hO90 := hO90.upd1 hU96 (by intro h1; have h3 : ((w89.heap.size ≤ B95) ∧ B95 < w90.heap.size) := h1; omega)
        replace hC90 := hC90.upd1 hU96 (by intro h1; have h3 : ((w89.heap.size ≤ B95) ∧ B95 < w90.heap.size) := h1; omega)
        replace hO89 := hO89.upd1 hU96 (by intro h1; have h3 : ((((B95 = B88) ∨ B95 = w88.heap.size)) ∧ B95 < w89.heap.size) := h1; omega)
        replace HL91 := HL91.trans1 hU96 (by show (((((B95 = B88) ∨ B95 = w88.heap.size)) ∧ B95 < w89.heap.size)) ∨ w90.heap.size ≤ B95; omega)
        refine Wl_nil ?_
        refine W_block ?_
        refine W_unroll2 ?_
        refine W_seq ?_
        refine W_seq ?_
        refine W_region ?_
        refine Wl_load (v := .int .i64 0) Try.isAgg3 rfl hb95 rfl ?_
        refine Wl_v (v := .bool true) (r_lt (a := 0) (b := 2) rfl rfl) ?_
        refine Wl_nil ?_
        refine W_cond_t rfl ?_
        refine W_skip ?_
        refine W_seq ?_
        refine W_block ?_
        refine W_seq ?_
        refine W_region ?_
        refine Wl_alloc (cs := [.int .i64 0]) Try.zeroValue3 rfl ?_
        intro B97 w97 hB97 hU97 hzz97 hb97
        have hzw97 := hU97.size
        replace hs := hs.upd0 hU97
        replace HU := HU.trans0 hU97
        replace hb1 := hb1.upd0 hU97
        replace hb2 := hb2.upd0 hU97
        replace hb85 := hb85.upd0 hU97
        replace hb87 := hb87.upd0 hU97
        replace hBo90 := hBo90.upd0 hU97
        replace hBc90 := hBc90.upd0 hU97
        replace hO90 := hO90.upd0 hU97
        replace hC90 := hC90.upd0 hU97
        replace hO89 := hO89.upd0 hU97
        replace HL91 := HL91.trans0 hU97
        replace hb95 := hb95.upd0 hU97
        refine Wl_store (v := .int .i64 0) (cs' := [.int .i64 0]) Try.sizeOf3 rfl rfl rfl rfl hb97 rfl rfl ?_
        intro w98 hU98 hzz98 hb97n
        replace hb97 := hb97n; clear hb97n
        have hzw98 := hU98.size
        replace hs := hs.upd1 hU98 (by intro h1; have h3 : B97 < w.heap.size := h1; omega)
        replace HU := HU.trans1 hU98 (by show (False) ∨ w.heap.size ≤ B97; omega)
        replace hb1 := hb1.upd1 hU98 (by omega)
        replace hb2 := hb2.upd1 hU98 (by omega)
        replace hb85 := hb85.upd1 hU98 (by omega)
        replace hb87 := hb87.upd1 hU98 (by omega)
        replace hBo90 := hBo90.upd1 hU98 (by omega)
        replace hBc90 := hBc90.upd1 hU98 (by omega)
        replace hO90 := hO90.upd1 hU98 (by intro h1; have h3 : ((w89.heap.size ≤ B97) ∧ B97 < w90.heap.size) := h1; omega)
        replace hC90 := hC90.upd1 hU98 (by intro h1; have h3 : ((w89.heap.size ≤ B97) ∧ B97 < w90.heap.size) := h1; omega)
        replace hO89 := hO89.upd1 hU98 (by intro h1; have h3 : ((((B97 = B88) ∨ B97 = w88.heap.size)) ∧ B97 < w89.heap.size) := h1; omega)
        replace HL91 := HL91.trans1 hU98 (by show (((((B97 = B88) ∨ B97 = w88.heap.size)) ∧ B97 < w89.heap.size)) ∨ w90.heap.size ≤ B97; omega)
        replace hb95 := hb95.upd1 hU98 (by omega)
        refine Wl_nil ?_
        refine W_seq ?_
        refine W_seq ?_
        refine W_region ?_
        refine Wl_v (r_mv (v := .func (.func 49) #[] #[.pointer (some ⟨Bo90, 0, none⟩), .pointer (some ⟨Bc90, 0, none⟩)]) rfl) ?_
        refine Wl_nil ?_
        refine W_block ?_
        refine W_range (gf := 49) (ar := fun y => #[y, .pointer (some ⟨Bo90, 0, none⟩), .pointer (some ⟨Bc90, 0, none⟩)]) rfl Try.call49 (fun y => by simp) ?_
        intro D99 fn99 w99 hD99 hU99 hzz99 hdf99 hrc990
        have hzw99 := hU99.size
        replace hs := hs.upd0 hU99
        replace HU := HU.trans0 hU99
        replace hb1 := hb1.upd0 hU99
        replace hb2 := hb2.upd0 hU99
        replace hb85 := hb85.upd0 hU99
        replace hb87 := hb87.upd0 hU99
        replace hBo90 := hBo90.upd0 hU99
        replace hBc90 := hBc90.upd0 hU99
        replace hO90 := hO90.upd0 hU99
        replace hC90 := hC90.upd0 hU99
        replace hO89 := hO89.upd0 hU99
        replace HL91 := HL91.trans0 hU99
        replace hb95 := hb95.upd0 hU99
        replace hb97 := hb97.upd0 hU99
        obtain ⟨r99, hr99, hrc99⟩ : ∃ r, r = _ ∧ Rec w99 (D99 + 1) r := ⟨_, rfl, hrc990⟩
        clear hrc990
        obtain ⟨J99, hJ99⟩ : ∃ J : Nat → World → Prop, ∀ i w', J i w' ↔ (Rec w' (D99 + 1) r99 ∧ Dfr w' D99 ∧ Blk w' B97 [.int .i64 ((i : Nat) : Int)] ∧ Blk w' B1 [.int .i64 many] ∧ Blk w' B2 [.bool false] ∧ Blk w' B85 [.slice none 0 0] ∧ Blk w' B87 [.slice none 0 0] ∧ Blk w' Bo90 [.slice a90 m90 c90] ∧ Blk w' Bc90 [.slice b90 n90 d90] ∧ Own w' (fun g => ((w89.heap.size ≤ g) ∧ g < w90.heap.size)) 3 1 (.slice a90 m90 c90) m90 (ints .i64 ([] : List Int)) ∧ Own w' (fun g => ((w89.heap.size ≤ g) ∧ g < w90.heap.size)) 37 2 (.slice b90 n90 d90) n90 (rows encC ([] : List (Int × Int))) ∧ Own w' (fun g => ((((g = B88) ∨ g = w88.heap.size)) ∧ g < w89.heap.size)) 3 1 (.slice a89 n c89) n (ints .i64 ys) ∧ Blk w' B95 [.int .i64 0] ∧ Upd No w w' ∧ (i = 0 ∨ ((i : Nat) : Int) < many)) := ⟨_, fun _ _ => Iff.rfl⟩
        obtain ⟨Jx99, hJx99⟩ : ∃ Jx : World → Prop, ∀ w', Jx w' ↔ (False) := ⟨_, fun _ => Iff.rfl⟩
        refine (all1_spec (ly := (D99 + 1)) (J := J99) (Jx := Jx99) (Sb := (fun g => g = B97 ∨ g = D99 + 1)) (R := fun g => ((w89.heap.size ≤ g) ∧ g < w90.heap.size)) (T := fun g => ((w89.heap.size ≤ g) ∧ g < w90.heap.size)) w99 hBo90 hO90.sl hBc90 hC90.sl (by omega) (by omega) (fun i hi => by omega) (by intro g h1 h2; have h3 : ((w89.heap.size ≤ g) ∧ g < w90.heap.size) := h1; have h4 : g = B97 ∨ g = D99 + 1 := h2; omega) (by show ¬ (_ ∨ _); omega) (by intro g h1 h2; have h3 : ((w89.heap.size ≤ g) ∧ g < w90.heap.size) := h1; have h4 : g = B97 ∨ g = D99 + 1 := h2; omega) ?_ ?_).mono ?_
        · exact (hJ99 _ _).2 ⟨hrc99, hdf99, hb97, hb1, hb2, hb85, hb87, hBo90, hBc90, hO90, hC90, hO89, hb95, HU, (.inl rfl)⟩
        · intro i100 w100 hi100 hh
          obtain ⟨hrc99, hdf99, hb97, hb1, hb2, hb85, hb87, hBo90, hBc90, hO90, hC90, hO89, hb95, HU, hpm⟩ := (hJ99 _ _).1 hh
          have hrl99 := hrc99.lt
          omega
        rintro e w101 ⟨v, rfl, hh | hh⟩
        · obtain ⟨hrc99, hdf99, hb97, hb1, hb2, hb85, hb87, hBo90, hBc90, hO90, hC90, hO89, hb95, HU, hpm⟩ := (hJ99 _ _).1 hh
          have hrl99 := hrc99.lt
          refine ⟨r99, hrc99, (by rw [hr99]; simp), ?_⟩
          intro w102 hU102 hzz102
          have hzw102 := hU102.size
          replace hdf99 := hdf99.upd1 hU102 (by omega)
          replace hb97 := hb97.upd1 hU102 (by omega)
          replace hb1 := hb1.upd1 hU102 (by omega)
          replace hb2 := hb2.upd1 hU102 (by omega)
          replace hb85 := hb85.upd1 hU102 (by omega)
          replace hb87 := hb87.upd1 hU102 (by omega)
          replace hBo90 := hBo90.upd1 hU102 (by omega)
          replace hBc90 := hBc90.upd1 hU102 (by omega)
          replace hO90 := hO90.upd1 hU102 (by intro h1; have h3 : ((w89.heap.size ≤ (D99 + 1)) ∧ (D99 + 1) < w90.heap.size) := h1; omega)
          replace hC90 := hC90.upd1 hU102 (by intro h1; have h3 : ((w89.heap.size ≤ (D99 + 1)) ∧ (D99 + 1) < w90.heap.size) := h1; omega)
          replace hO89 := hO89.upd1 hU102 (by intro h1; have h3 : (((((D99 + 1) = B88) ∨ (D99 + 1) = w88.heap.size)) ∧ (D99 + 1) < w89.heap.size) := h1; omega)
          replace hb95 := hb95.upd1 hU102 (by omega)
          replace HU := HU.trans1 hU102 (by show (False) ∨ w.heap.size ≤ (D99 + 1); omega)
          rw [hr99]
          skip
          refine W_seq ?_
          refine W_region ?_
          refine Wl_load (v := .int .i64 0) Try.isAgg3 rfl hb95 rfl ?_
          refine Wl_v (v := .bool true) (r_eq (a := 0) (b := 0) rfl rfl) ?_
          refine Wl_v (r_mv (v := .bool true) rfl) ?_
          refine Wl_guard_t rfl ?_
          refine Wl_load (v := .int .i64 ((m90 : Nat) : Int)) Try.isAgg3 rfl hb97 rfl ?_
          refine Wl_guard_t rfl ?_
          refine Wl_load (v := .slice none 0 0) Try.isAgg22 rfl hb87 rfl ?_
          refine Wl_guard_t rfl ?_
          refine Wl_v (r_len Try.underlying22 rfl) ?_
          refine Wl_guard_t rfl ?_
          refine Wl_load (v := .int .i64 many) Try.isAgg3 rfl hb1 rfl ?_
          refine Wl_guard_t rfl ?_
          refine Wl_v (r_max rfl rfl) ?_
          refine Wl_guard_t rfl ?_
          refine Wl_v (r_min rfl rfl) ?_
          refine Wl_guard_t rfl ?_
          refine Wl_v (r_ne rfl rfl) ?_
          refine Wl_v (r_pick_t (v := .bool (decide (((m90 : Nat) : Int) ≠ (min ((0 : Nat) : Int) (max 1 many))))) rfl rfl) ?_
          refine Wl_v (r_mv (v := .bool (decide (((m90 : Nat) : Int) ≠ (min ((0 : Nat) : Int) (max 1 many))))) rfl) ?_
          have q19 : ¬ (((m90 : Nat) : Int) ≠ (min ((0 : Nat) : Int) (max 1 many))) := (by omega)
          rw [decide_eq_false q19]
          refine Wl_guard_t rfl ?_
          refine Wl_load (v := .int .i64 0) Try.isAgg3 rfl hb95 rfl ?_
          refine Wl_guard_t rfl ?_
          refine Wl_v (v := .bool false) (r_eq (a := 0) (b := 1) rfl rfl) ?_
          refine Wl_guard_t rfl ?_
          refine Wl_v (r_mv (v := .bool false) rfl) ?_
          refine Wl_guard_f rfl ?_
          refine Wl_guard_f rfl ?_
          refine Wl_guard_f rfl ?_
          refine Wl_guard_f rfl ?_
          refine Wl_guard_t rfl ?_
          refine Wl_v (r_pick_f (v := .bool false) rfl rfl) ?_
          refine Wl_v (r_pick_f (v := .bool false) rfl rfl) ?_
          refine Wl_nil ?_
          refine W_cond_f rfl ?_
          refine W_skip ?_
          refine W_seq ?_
          refine W_seq ?_
          refine W_region ?_
          refine Wl_load (v := .int .i64 0) Try.isAgg3 rfl hb95 rfl ?_
          refine Wl_nil ?_
          refine W_region ?_
          refine Wl_alloc (cs := [.int .i64 0]) Try.zeroValue3 rfl ?_
          intro B103 w103 hB103 hU103 hzz103 hb103
          have hzw103 := hU103.size
          replace hdf99 := hdf99.upd0 hU103
          replace hb97 := hb97.upd0 hU103
          replace hb1 := hb1.upd0 hU103
          replace hb2 := hb2.upd0 hU103
          replace hb85 := hb85.upd0 hU103
          replace hb87 := hb87.upd0 hU103
          replace hBo90 := hBo90.upd0 hU103
          replace hBc90 := hBc90.upd0 hU103
          replace hO90 := hO90.upd0 hU103
          replace hC90 := hC90.upd0 hU103
          replace hO89 := hO89.upd0 hU103
          replace hb95 := hb95.upd0 hU103
          replace HU := HU.trans0 hU103
          refine Wl_store (v := .int .i64 0) (cs' := [.int .i64 0]) Try.sizeOf3 rfl rfl rfl rfl hb103 rfl rfl ?_
          intro w104 hU104 hzz104 hb103n
          replace hb103 := hb103n; clear hb103n
          have hzw104 := hU104.size
          replace hdf99 := hdf99.upd1 hU104 (by omega)
          replace hb97 := hb97.upd1 hU104 (by omega)
          replace hb1 := hb1.upd1 hU104 (by omega)
          replace hb2 := hb2.upd1 hU104 (by omega)
          replace hb85 := hb85.upd1 hU104 (by omega)
          replace hb87 := hb87.upd1 hU104 (by omega)
          replace hBo90 := hBo90.upd1 hU104 (by omega)
          replace hBc90 := hBc90.upd1 hU104 (by omega)
          replace hO90 := hO90.upd1 hU104 (by intro h1; have h3 : ((w89.heap.size ≤ B103) ∧ B103 < w90.heap.size) := h1; omega)
          replace hC90 := hC90.upd1 hU104 (by intro h1; have h3 : ((w89.heap.size ≤ B103) ∧ B103 < w90.heap.size) := h1; omega)
          replace hO89 := hO89.upd1 hU104 (by intro h1; have h3 : ((((B103 = B88) ∨ B103 = w88.heap.size)) ∧ B103 < w89.heap.size) := h1; omega)
          replace hb95 := hb95.upd1 hU104 (by omega)
          replace HU := HU.trans1 hU104 (by show (False) ∨ w.heap.size ≤ B103; omega)
          refine Wl_nil ?_
          refine W_region ?_
          refine Wl_load (v := .int .i64 0) Try.isAgg3 rfl hb103 rfl ?_
          refine Wl_v (r_add rfl rfl (show IntKind.i64.wrap (0 + 1) = 1 by decide)) ?_
          refine Wl_store (v := .int .i64 1) (cs' := [.int .i64 1]) Try.sizeOf3 rfl rfl rfl rfl hb103 rfl rfl ?_
          intro w105 hU105 hzz105 hb103n
          replace hb103 := hb103n; clear hb103n
          have hzw105 := hU105.size
          replace hdf99 := hdf99.upd1 hU105 (by omega)
          replace hb97 := hb97.upd1 hU105 (by omega)
          replace hb1 := hb1.upd1 hU105 (by omega)
          replace hb2 := hb2.upd1 hU105 (by omega)
          replace hb85 := hb85.upd1 hU105 (by omega)
          replace hb87 := hb87.upd1 hU105 (by omega)
          replace hBo90 := hBo90.upd1 hU105 (by omega)
          replace hBc90 := hBc90.upd1 hU105 (by omega)
          replace hO90 := hO90.upd1 hU105 (by intro h1; have h3 : ((w89.heap.size ≤ B103) ∧ B103 < w90.heap.size) := h1; omega)
          replace hC90 := hC90.upd1 hU105 (by intro h1; have h3 : ((w89.heap.size ≤ B103) ∧ B103 < w90.heap.size) := h1; omega)
          replace hO89 := hO89.upd1 hU105 (by intro h1; have h3 : ((((B103 = B88) ∨ B103 = w88.heap.size)) ∧ B103 < w89.heap.size) := h1; omega)
          replace hb95 := hb95.upd1 hU105 (by omega)
          replace HU := HU.trans1 hU105 (by show (False) ∨ w.heap.size ≤ B103; omega)
          refine Wl_nil ?_
          refine W_seq ?_
          refine W_seq ?_
          refine W_region ?_
          refine Wl_load (v := .int .i64 1) Try.isAgg3 rfl hb103 rfl ?_
          refine Wl_v (v := .bool true) (r_lt (a := 1) (b := 2) rfl rfl) ?_
          refine Wl_nil ?_
          refine W_cond_t rfl ?_
          refine W_skip ?_
          refine W_seq ?_
          refine W_block ?_
          refine W_seq ?_
          refine W_region ?_
          refine Wl_alloc (cs := [.int .i64 0]) Try.zeroValue3 rfl ?_
          intro B106 w106 hB106 hU106 hzz106 hb106
          have hzw106 := hU106.size
          replace hdf99 := hdf99.upd0 hU106
          replace hb97 := hb97.upd0 hU106
          replace hb1 := hb1.upd0 hU106
          replace hb2 := hb2.upd0 hU106
          replace hb85 := hb85.upd0 hU106
          replace hb87 := hb87.upd0 hU106
          replace hBo90 := hBo90.upd0 hU106
          replace hBc90 := hBc90.upd0 hU106
          replace hO90 := hO90.upd0 hU106
          replace hC90 := hC90.upd0 hU106
          replace hO89 := hO89.upd0 hU106
          replace hb95 := hb95.upd0 hU106
          replace HU := HU.trans0 hU106
          replace hb103 := hb103.upd0 hU106
          refine Wl_store (v := .int .i64 0) (cs' := [.int .i64 0]) Try.sizeOf3 rfl rfl rfl rfl hb106 rfl rfl ?_
          intro w107 hU107 hzz107 hb106n
          replace hb106 := hb106n; clear hb106n
          have hzw107 := hU107.size
          replace hdf99 := hdf99.upd1 hU107 (by omega)
          replace hb97 := hb97.upd1 hU107 (by omega)
          replace hb1 := hb1.upd1 hU107 (by omega)
          replace hb2 := hb2.upd1 hU107 (by omega)
          replace hb85 := hb85.upd1 hU107 (by omega)
          replace hb87 := hb87.upd1 hU107 (by omega)
          replace hBo90 := hBo90.upd1 hU107 (by omega)
          replace hBc90 := hBc90.upd1 hU107 (by omega)
          replace hO90 := hO90.upd1 hU107 (by intro h1; have h3 : ((w89.heap.size ≤ B106) ∧ B106 < w90.heap.size) := h1; omega)
          replace hC90 := hC90.upd1 hU107 (by intro h1; have h3 : ((w89.heap.size ≤ B106) ∧ B106 < w90.heap.size) := h1; omega)
          replace hO89 := hO89.upd1 hU107 (by intro h1; have h3 : ((((B106 = B88) ∨ B106 = w88.heap.size)) ∧ B106 < w89.heap.size) := h1; omega)
          replace hb95 := hb95.upd1 hU107 (by omega)
          replace HU := HU.trans1 hU107 (by show (False) ∨ w.heap.size ≤ B106; omega)
          replace hb103 := hb103.upd1 hU107 (by omega)
          refine Wl_nil ?_
          refine W_seq ?_
          refine W_seq ?_
          refine W_region ?_
          refine Wl_v (r_mv (v := .func (.func 49) #[] #[.pointer (some ⟨Bo90, 0, none⟩), .pointer (some ⟨Bc90, 0, none⟩)]) rfl) ?_
          refine Wl_nil ?_
          refine W_block ?_
          refine W_range (gf := 49) (ar := fun y => #[y, .pointer (some ⟨Bo90, 0, none⟩), .pointer (some ⟨Bc90, 0, none⟩)]) rfl Try.call49 (fun y => by simp) ?_
          intro D108 fn108 w108 hD108 hU108 hzz108 hdf108 hrc1080
          have hzw108 := hU108.size
          replace hdf99 := hdf99.upd0 hU108
          replace hb97 := hb97.upd0 hU108
          replace hb1 := hb1.upd0 hU108
          replace hb2 := hb2.upd0 hU108
          replace hb85 := hb85.upd0 hU108
          replace hb87 := hb87.upd0 hU108
          replace hBo90 := hBo90.upd0 hU108
          replace hBc90 := hBc90.upd0 hU108
          replace hO90 := hO90.upd0 hU108
          replace hC90 := hC90.upd0 hU108
          replace hO89 := hO89.upd0 hU108
          replace hb95 := hb95.upd0 hU108
          replace HU := HU.trans0 hU108
          replace hb103 := hb103.upd0 hU108
          replace hb106 := hb106.upd0 hU108
          obtain ⟨r108, hr108, hrc108⟩ : ∃ r, r = _ ∧ Rec w108 (D108 + 1) r := ⟨_, rfl, hrc1080⟩
          clear hrc1080
          obtain ⟨J108, hJ108⟩ : ∃ J : Nat → World → Prop, ∀ i w', J i w' ↔ (Rec w' (D108 + 1) r108 ∧ Dfr w' D108 ∧ Blk w' B106 [.int .i64 ((i : Nat) : Int)] ∧ Dfr w' D99 ∧ Blk w' B97 [.int .i64 ((m90 : Nat) : Int)] ∧ Blk w' B1 [.int .i64 many] ∧ Blk w' B2 [.bool false] ∧ Blk w' B85 [.slice none 0 0] ∧ Blk w' B87 [.slice none 0 0] ∧ Blk w' Bo90 [.slice a90 m90 c90] ∧ Blk w' Bc90 [.slice b90 n90 d90] ∧ Own w' (fun g => ((w89.heap.size ≤ g) ∧ g < w90.heap.size)) 3 1 (.slice a90 m90 c90) m90 (ints .i64 ([] : List Int)) ∧ Own w' (fun g => ((w89.heap.size ≤ g) ∧ g < w90.heap.size)) 37 2 (.slice b90 n90 d90) n90 (rows encC ([] : List (Int × Int))) ∧ Own w' (fun g => ((((g = B88) ∨ g = w88.heap.size)) ∧ g < w89.heap.size)) 3 1 (.slice a89 n c89) n (ints .i64 ys) ∧ Blk w' B95 [.int .i64 0] ∧ Blk w' B103 [.int .i64 1] ∧ Upd No w w') := ⟨_, fun _ _ => Iff.rfl⟩
          obtain ⟨Jx108, hJx108⟩ : ∃ Jx : World → Prop, ∀ w', Jx w' ↔ (False) := ⟨_, fun _ => Iff.rfl⟩
          refine (all1_spec (ly := (D108 + 1)) (J := J108) (Jx := Jx108) (Sb := (fun g => g = B106 ∨ g = D108 + 1)) (R := fun g => ((w89.heap.size ≤ g) ∧ g < w90.heap.size)) (T := fun g => ((w89.heap.size ≤ g) ∧ g < w90.heap.size)) w108 hBo90 hO90.sl hBc90 hC90.sl (by omega) (by omega) (fun i hi => by omega) (by intro g h1 h2; have h3 : ((w89.heap.size ≤ g) ∧ g < w90.heap.size) := h1; have h4 : g = B106 ∨ g = D108 + 1 := h2; omega) (by show ¬ (_ ∨ _); omega) (by intro g h1 h2; have h3 : ((w89.heap.size ≤ g) ∧ g < w90.heap.size) := h1; have h4 : g = B106 ∨ g = D108 + 1 := h2; omega) ?_ ?_).mono ?_
          · exact (hJ108 _ _).2 ⟨hrc108, hdf108, hb106, hdf99, hb97, hb1, hb2, hb85, hb87, hBo90, hBc90, hO90, hC90, hO89, hb95, hb103, HU⟩
          · intro i109 w109 hi109 hh
            obtain ⟨hrc108, hdf108, hb106, hdf99, hb97, hb1, hb2, hb85, hb87, hBo90, hBc90, hO90, hC90, hO89, hb95, hb103, HU⟩ := (hJ108 _ _).1 hh
            have hrl108 := hrc108.lt
            omega
          rintro e w110 ⟨v, rfl, hh | hh⟩
          · obtain ⟨hrc108, hdf108, hb106, hdf99, hb97, hb1, hb2, hb85, hb87, hBo90, hBc90, hO90, hC90, hO89, hb95, hb103, HU⟩ := (hJ108 _ _).1 hh
            have hrl108 := hrc108.lt
            refine ⟨r108, hrc108, (by rw [hr108]; simp), ?_⟩
            intro w111 hU111 hzz111
            have hzw111 := hU111.size
            replace hdf108 := hdf108.upd1 hU111 (by omega)
            replace hb106 := hb106.upd1 hU111 (by omega)
            replace hdf99 := hdf99.upd1 hU111 (by omega)
            replace hb97 := hb97.upd1 hU111 (by omega)
            replace hb1 := hb1.upd1 hU111 (by omega)
            replace hb2 := hb2.upd1 hU111 (by omega)
            replace hb85 := hb85.upd1 hU111 (by omega)
            replace hb87 := hb87.upd1 hU111 (by omega)
            replace hBo90 := hBo90.upd1 hU111 (by omega)
            replace hBc90 := hBc90.upd1 hU111 (by omega)
            replace hO90 := hO90.upd1 hU111 (by intro h1; have h3 : ((w89.heap.size ≤ (D108 + 1)) ∧ (D108 + 1) < w90.heap.size) := h1; omega)
            replace hC90 := hC90.upd1 hU111 (by intro h1; have h3 : ((w89.heap.size ≤ (D108 + 1)) ∧ (D108 + 1) < w90.heap.size) := h1; omega)
            replace hO89 := hO89.upd1 hU111 (by intro h1; have h3 : (((((D108 + 1) = B88) ∨ (D108 + 1) = w88.heap.size)) ∧ (D108 + 1) < w89.heap.size) := h1; omega)
            replace hb95 := hb95.upd1 hU111 (by omega)
            replace hb103 := hb103.upd1 hU111 (by omega)
            replace HU := HU.trans1 hU111 (by show (False) ∨ w.heap.size ≤ (D108 + 1); omega)
            rw [hr108]
            skip
            refine W_seq ?_
            refine W_region ?_
            refine Wl_load (v := .int .i64 1) Try.isAgg3 rfl hb103 rfl ?_
            refine Wl_v (v := .bool false) (r_eq (a := 1) (b := 0) rfl rfl) ?_
            refine Wl_v (r_mv (v := .bool false) rfl) ?_
            refine Wl_guard_f rfl ?_
            refine Wl_guard_f rfl ?_
            refine Wl_guard_f rfl ?_
            refine Wl_guard_f rfl ?_
            refine Wl_guard_f rfl ?_
            refine Wl_guard_f rfl ?_
            refine Wl_guard_f rfl ?_
            refine Wl_v (r_pick_f (v := .bool false) rfl rfl) ?_
            refine Wl_v (r_mv (v := .bool false) rfl) ?_
            refine Wl_guard_t rfl ?_
            refine Wl_load (v := .int .i64 1) Try.isAgg3 rfl hb103 rfl ?_
            refine Wl_guard_t rfl ?_
            refine Wl_v (v := .bool true) (r_eq (a := 1) (b := 1) rfl rfl) ?_
            refine Wl_guard_t rfl ?_
            refine Wl_v (r_mv (v := .bool true) rfl) ?_
            refine Wl_guard_t rfl ?_
            refine Wl_load (v := .int .i64 ((m90 : Nat) : Int)) Try.isAgg3 rfl hb106 rfl ?_
            refine Wl_guard_t rfl ?_
            refine Wl_load (v := .slice none 0 0) Try.isAgg22 rfl hb87 rfl ?_
            refine Wl_guard_t rfl ?_
            refine Wl_v (r_len Try.underlying22 rfl) ?_
            refine Wl_guard_t rfl ?_
            refine Wl_v (r_ne rfl rfl) ?_
            refine Wl_guard_t rfl ?_
            refine Wl_v (r_pick_t (v := .bool (decide (((m90 : Nat) : Int) ≠ ((0 : Nat) : Int)))) rfl rfl) ?_
            refine Wl_v (r_pick_f (v := .bool (decide (((m90 : Nat) : Int) ≠ ((0 : Nat) : Int)))) rfl rfl) ?_
            refine Wl_nil ?_
            have q20 : ¬ (((m90 : Nat) : Int) ≠ ((0 : Nat) : Int)) := (by omega)
            rw [decide_eq_false q20]
            refine W_cond_f rfl ?_
            refine W_skip ?_
            refine W_seq ?_
            refine W_seq ?_
            refine W_region ?_
            refine Wl_load (v := .int .i64 1) Try.isAgg3 rfl hb103 rfl ?_
            refine Wl_nil ?_
            refine W_region ?_
            refine Wl_alloc (cs := [.int .i64 0]) Try.zeroValue3 rfl ?_
            intro B112 w112 hB112 hU112 hzz112 hb112
            have hzw112 := hU112.size
            replace hdf108 := hdf108.upd0 hU112
            replace hb106 := hb106.upd0 hU112
            replace hdf99 := hdf99.upd0 hU112
            replace hb97 := hb97.upd0 hU112
            replace hb1 := hb1.upd0 hU112
            replace hb2 := hb2.upd0 hU112
            replace hb85 := hb85.upd0 hU112
            replace hb87 := hb87.upd0 hU112
            replace hBo90 := hBo90.upd0 hU112
            replace hBc90 := hBc90.upd0 hU112
            replace hO90 := hO90.upd0 hU112
            replace hC90 := hC90.upd0 hU112
            replace hO89 := hO89.upd0 hU112
            replace hb95 := hb95.upd0 hU112
            replace hb103 := hb103.upd0 hU112
            replace HU := HU.trans0 hU112
            refine Wl_store (v := .int .i64 1) (cs' := [.int .i64 1]) Try.sizeOf3 rfl rfl rfl rfl hb112 rfl rfl ?_
            intro w113 hU113 hzz113 hb112n
            replace hb112 := hb112n; clear hb112n
            have hzw113 := hU113.size
            replace hdf108 := hdf108.upd1 hU113 (by omega)
            replace hb106 := hb106.upd1 hU113 (by omega)
            replace hdf99 := hdf99.upd1 hU113 (by omega)
            replace hb97 := hb97.upd1 hU113 (by omega)
            replace hb1 := hb1.upd1 hU113 (by omega)
            replace hb2 := hb2.upd1 hU113 (by omega)
            replace hb85 := hb85.upd1 hU113 (by omega)
            replace hb87 := hb87.upd1 hU113 (by omega)
            replace hBo90 := hBo90.upd1 hU113 (by omega)
            replace hBc90 := hBc90.upd1 hU113 (by omega)
            replace hO90 := hO90.upd1 hU113 (by intro h1; have h3 : ((w89.heap.size ≤ B112) ∧ B112 < w90.heap.size) := h1; omega)
            replace hC90 := hC90.upd1 hU113 (by intro h1; have h3 : ((w89.heap.size ≤ B112) ∧ B112 < w90.heap.size) := h1; omega)
            replace hO89 := hO89.upd1 hU113 (by intro h1; have h3 : ((((B112 = B88) ∨ B112 = w88.heap.size)) ∧ B112 < w89.heap.size) := h1; omega)
            replace hb95 := hb95.upd1 hU113 (by omega)
            replace hb103 := hb103.upd1 hU113 (by omega)
            replace HU := HU.trans1 hU113 (by show (False) ∨ w.heap.size ≤ B112; omega)
            refine Wl_nil ?_
            refine W_region ?_
            refine Wl_load (v := .int .i64 1) Try.isAgg3 rfl hb112 rfl ?_
            refine Wl_v (r_add rfl rfl (show IntKind.i64.wrap (1 + 1) = 2 by decide)) ?_
            refine Wl_store (v := .int .i64 2) (cs' := [.int .i64 2]) Try.sizeOf3 rfl rfl rfl rfl hb112 rfl rfl ?_
            intro w114 hU114 hzz114 hb112n
            replace hb112 := hb112n; clear hb112n
            have hzw114 := hU114.size
            replace hdf108 := hdf108.upd1 hU114 (by omega)
            replace hb106 := hb106.upd1 hU114 (by omega)
            replace hdf99 := hdf99.upd1 hU114 (by omega)
            replace hb97 := hb97.upd1 hU114 (by omega)
            replace hb1 := hb1.upd1 hU114 (by omega)
            replace hb2 := hb2.upd1 hU114 (by omega)
            replace hb85 := hb85.upd1 hU114 (by omega)
            replace hb87 := hb87.upd1 hU114 (by omega)
            replace hBo90 := hBo90.upd1 hU114 (by omega)
            replace hBc90 := hBc90.upd1 hU114 (by omega)
            replace hO90 := hO90.upd1 hU114 (by intro h1; have h3 : ((w89.heap.size ≤ B112) ∧ B112 < w90.heap.size) := h1; omega)
            replace hC90 := hC90.upd1 hU114 (by intro h1; have h3 : ((w89.heap.size ≤ B112) ∧ B112 < w90.heap.size) := h1; omega)
            replace hO89 := hO89.upd1 hU114 (by intro h1; have h3 : ((((B112 = B88) ∨ B112 = w88.heap.size)) ∧ B112 < w89.heap.size) := h1; omega)
            replace hb95 := hb95.upd1 hU114 (by omega)
            replace hb103 := hb103.upd1 hU114 (by omega)
            replace HU := HU.trans1 hU114 (by show (False) ∨ w.heap.size ≤ B112; omega)
            refine Wl_nil ?_
            refine W_seq ?_
            refine W_seq ?_
            refine W_region ?_
            refine Wl_load (v := .int .i64 2) Try.isAgg3 rfl hb112 rfl ?_
            refine Wl_v (v := .bool false) (r_lt (a := 2) (b := 2) rfl rfl) ?_
            refine Wl_nil ?_
            refine W_cond_f rfl ?_
            refine W_exit ?_
            refine W_seq ?_
            refine W_region ?_
            refine Wl_call (r_call0 rfl Try.call12 ) (works_spec _ ) ?_
            rintro v w115 ⟨rfl, hU115⟩
            have hzw115 := hU115.size
            replace hdf108 := hdf108.upd0 hU115
            replace hb106 := hb106.upd0 hU115
            replace hdf99 := hdf99.upd0 hU115
            replace hb97 := hb97.upd0 hU115
            replace hb1 := hb1.upd0 hU115
            replace hb2 := hb2.upd0 hU115
            replace hb85 := hb85.upd0 hU115
            replace hb87 := hb87.upd0 hU115
            replace hBo90 := hBo90.upd0 hU115
            replace hBc90 := hBc90.upd0 hU115
            replace hO90 := hO90.upd0 hU115
            replace hC90 := hC90.upd0 hU115
            replace hO89 := hO89.upd0 hU115
            replace hb95 := hb95.upd0 hU115
            replace hb103 := hb103.upd0 hU115
            replace HU := HU.trans0 hU115
            replace hb112 := hb112.upd0 hU115
            refine Wl_store (v := .bool true) (cs' := [.bool true]) Try.sizeOf4 rfl rfl rfl rfl hb2 rfl rfl ?_
            intro w116 hU116 hzz116 hb2n
            replace hb2 := hb2n; clear hb2n
            have hzw116 := hU116.size
            replace hdf108 := hdf108.upd1 hU116 (by omega)
            replace hb106 := hb106.upd1 hU116 (by omega)
            replace hdf99 := hdf99.upd1 hU116 (by omega)
            replace hb97 := hb97.upd1 hU116 (by omega)
            replace hb1 := hb1.upd1 hU116 (by omega)
            replace hb85 := hb85.upd1 hU116 (by omega)
            replace hb87 := hb87.upd1 hU116 (by omega)
            replace hBo90 := hBo90.upd1 hU116 (by omega)
            replace hBc90 := hBc90.upd1 hU116 (by omega)
            replace hO90 := hO90.upd1 hU116 (by intro h1; have h3 : ((w89.heap.size ≤ B2) ∧ B2 < w90.heap.size) := h1; omega)
            replace hC90 := hC90.upd1 hU116 (by intro h1; have h3 : ((w89.heap.size ≤ B2) ∧ B2 < w90.heap.size) := h1; omega)
            replace hO89 := hO89.upd1 hU116 (by intro h1; have h3 : ((((B2 = B88) ∨ B2 = w88.heap.size)) ∧ B2 < w89.heap.size) := h1; omega)
            replace hb95 := hb95.upd1 hU116 (by omega)
            replace hb103 := hb103.upd1 hU116 (by omega)
            replace HU := HU.trans1 hU116 (by show (False) ∨ w.heap.size ≤ B2; omega)
            replace hb112 := hb112.upd1 hU116 (by omega)
            refine Wl_nil ?_
            refine W_ret ?_
            refine ret_ds rfl ?_
            refine lv_mark (by simp) hdf108 ?_
            intro w117 hU117 hzz117
            have hzw117 := hU117.size
            replace hb106 := hb106.upd1 hU117 (by omega)
            replace hdf99 := hdf99.upd1 hU117 (by omega)
            replace hb97 := hb97.upd1 hU117 (by omega)
            replace hb1 := hb1.upd1 hU117 (by omega)
            replace hb2 := hb2.upd1 hU117 (by omega)
            replace hb85 := hb85.upd1 hU117 (by omega)
            replace hb87 := hb87.upd1 hU117 (by omega)
            replace hBo90 := hBo90.upd1 hU117 (by omega)
            replace hBc90 := hBc90.upd1 hU117 (by omega)
            replace hO90 := hO90.upd1 hU117 (by intro h1; have h3 : ((w89.heap.size ≤ D108) ∧ D108 < w90.heap.size) := h1; omega)
            replace hC90 := hC90.upd1 hU117 (by intro h1; have h3 : ((w89.heap.size ≤ D108) ∧ D108 < w90.heap.size) := h1; omega)
            replace hO89 := hO89.upd1 hU117 (by intro h1; have h3 : ((((D108 = B88) ∨ D108 = w88.heap.size)) ∧ D108 < w89.heap.size) := h1; omega)
            replace hb95 := hb95.upd1 hU117 (by omega)
            replace hb103 := hb103.upd1 hU117 (by omega)
            replace HU := HU.trans1 hU117 (by show (False) ∨ w.heap.size ≤ D108; omega)
            replace hb112 := hb112.upd1 hU117 (by omega)
            refine lv_mark (by simp) hdf99 ?_
            intro w118 hU118 hzz118
            have hzw118 := hU118.size
            replace hb106 := hb106.upd1 hU118 (by omega)
            replace hb97 := hb97.upd1 hU118 (by omega)
            replace hb1 := hb1.upd1 hU118 (by omega)
            replace hb2 := hb2.upd1 hU118 (by omega)
            replace hb85 := hb85.upd1 hU118 (by omega)
            replace hb87 := hb87.upd1 hU118 (by omega)
            replace hBo90 := hBo90.upd1 hU118 (by omega)
            replace hBc90 := hBc90.upd1 hU118 (by omega)
            replace hO90 := hO90.upd1 hU118 (by intro h1; have h3 : ((w89.heap.size ≤ D99) ∧ D99 < w90.heap.size) := h1; omega)
            replace hC90 := hC90.upd1 hU118 (by intro h1; have h3 : ((w89.heap.size ≤ D99) ∧ D99 < w90.heap.size) := h1; omega)
            replace hO89 := hO89.upd1 hU118 (by intro h1; have h3 : ((((D99 = B88) ∨ D99 = w88.heap.size)) ∧ D99 < w89.heap.size) := h1; omega)
            replace hb95 := hb95.upd1 hU118 (by omega)
            replace hb103 := hb103.upd1 hU118 (by omega)
            replace HU := HU.trans1 hU118 (by show (False) ∨ w.heap.size ≤ D99; omega)
            replace hb112 := hb112.upd1 hU118 (by omega)
            refine lv_nil (v := .bool true) (rc1 Try.results10 rfl (cellIs Try.isAgg4 hb2)) ?_
            exact ⟨_, rfl, rfl, HU⟩
          · exact ((hJx108 _).1 hh).elim
        · exact ((hJx99 _).1 hh).elim

end Go.Proofs.Ytakbopikohghmaa
