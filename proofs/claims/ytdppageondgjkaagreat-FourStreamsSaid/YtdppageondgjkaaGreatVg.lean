/-
 Walks, printed by a small program of this project (gen.py).
-/
import Derived.Test.YtdppageondgjkaaGreatVk
set_option linter.unusedVariables false
set_option linter.unusedSimpArgs false
namespace Go.Proofs.YtdppageondgjkaaGreat
open Go.Fw
open Nu
set_option maxHeartbeats 4000000 in
set_option maxRecDepth 100000 in
theorem fourstreams {a2 : Option Addr} {m d : Nat} {b : List Int} (w : World) (hsb : Sl w (fun g => g < w.heap.size) 1 (.slice a2 m d) m (ints .u8 b)) (hb : Byt b) (hm : m ≤ 140737488351232) :
  Calls Tryz.prog 8 #[.slice a2 m d] w (Ret fun v w' => v = .bool true ∧ Upd No w w') := by
 have HU : Upd (fun b => False) w w := Upd.refl _ _
 have hl_hsb := ilen hsb
 have hc_hsb := hsb.cap.1
 refine calls_of_W Tryz.func8 rfl Tryz.ntmps8 (by simp) ?_
 refine W_seq (W_region ?_)
 refine Was (.bool false) ?_
 refine Wl_nil (W_seq (W_seq (W_region ?_)))
 refine Wmv (.slice a2 m d) ?_
 refine Wl_v (r_len Tryz.underlying32 rfl) ?_
 refine Wl_v (r_gt rfl rfl) ?_
 refine Wl_nil ?_
 by_cases q1 : 300 < ((m : Nat) : Int)
 ·rw [decide_eq_true q1]
  refine W_cond_t rfl ?_
  refine W_seq (W_region ?_)
  refine Wl_call (r_call0 rfl Tryz.call16 ) (works18 _ ) ?_
  rintro v w1 ⟨rfl, hU1⟩
  have hzw1 := hU1.size
  replace HU := HU.trans0 hU1
  refine Was (.bool true) ?_
  refine Wl_nil ?_
  refine W_ret ?_
  refine ret_end (v := .bool true) rfl (res1 Tryz.results8 rfl) ?_
  exact ⟨_, rfl, rfl, HU⟩
 ·rw [decide_eq_false q1]
  refine W_cond_f rfl ?_
  refine W_skip (W_seq (W_region ?_))
  refine Wl_lit0 Tryz.underlying32 Tryz.sizeOf5 ?_
  intro B2 w2 hB2 hU2 hzz2 hs2
  have hzw2 := hU2.size
  replace hsb := hsb.upd0 hU2
  replace HU := HU.trans0 hU2
  refine Wmv (.slice a2 m d) ?_
  refine Wl_appendi (xs := []) (ys := b) (zs := b) (k' := .u8) (tot := m) (by first | rfl | exact (rows_app _ _).symm | simp) Tryz.underlying32 (ti := Tryz.t5) (z := .int .u8 0) (sz := 1) (by' := 1) rfl rfl rfl rfl rfl (by decide) rfl hs2 rfl hsb  (by omega) (by simp only [maxLen]; omega) (by omega) ?_
  intro a3 c3 w3 hU3 hzz3 hO3
  clear hs2
  have hzw3 := hU3.size
  replace hsb := hsb.upd hU3 (by intro x h1 h2; have h3 : x < w.heap.size := h1; have h4 : x = B2 := h2; omega)
  replace HU := HU.trans hU3 (by intro x hx; have hx2 : x = B2 := hx; show (False) ∨ w.heap.size ≤ x; omega)
  replace hO3 := hO3.tight
  have hl_hO3 := ilen hO3.sl
  have hc_hO3 := hO3.sl.cap.1
  refine Was (.slice a3 m c3) ?_
  refine Wl_nil (W_seq (W_region ?_))
  refine Wmv (.slice a3 m c3) ?_
  by_cases q2 : e4 b = 0
  ·refine Wl_call (r_call1 rfl Tryz.call25 rfl) (split_ok _ hO3.sl.any hb (by omega) q2) ?_
   rintro v w4 ⟨a4, c4, ja4, ka4, qa4, jb4, kb4, qb4, jc4, kc4, qc4, jd4, kd4, qd4, rfl, hS4, hOa4, hOb4, hOc4, hOd4, hU4⟩
   have hzw4 := hU4.size
   replace hsb := hsb.upd0 hU4
   replace HU := HU.trans0 hU4
   replace hO3 := hO3.upd0 hU4
   replace hS4 := hS4.tight
   have hl_hS4 := hS4.sl.len
   have hc_hS4 := hS4.sl.cap.1
   replace hOa4 := hOa4.tight
   have hl_hOa4 := ilen hOa4.sl
   have hc_hOa4 := hOa4.sl.cap.1
   replace hOb4 := hOb4.tight
   have hl_hOb4 := ilen hOb4.sl
   have hc_hOb4 := hOb4.sl.cap.1
   replace hOc4 := hOc4.tight
   have hl_hOc4 := ilen hOc4.sl
   have hc_hOc4 := hOc4.sl.cap.1
   replace hOd4 := hOd4.tight
   have hl_hOd4 := ilen hOd4.sl
   have hc_hOd4 := hOd4.sl.cap.1
   refine Wmv (.tuple #[.slice a4 4 c4, .int .i64 0]) ?_
   refine Wl_v (r_ext (v := .slice a4 4 c4) rfl rfl) ?_
   refine Wl_v (r_ext (v := .int .i64 0) rfl rfl) ?_
   refine Was (.slice a4 4 c4) ?_
   refine Was (.int .i64 0) ?_
   refine Wl_nil (W_seq (W_seq (W_region ?_)))
   refine Wmv (.slice a3 m c3) ?_
   refine Wl_bstr Tryz.underlying32 Tryz.underlying5 Tryz.underlying9 rfl hO3.sl ?_
   refine Wmv (.slice a2 m d) ?_
   refine Wl_bstr Tryz.underlying32 Tryz.underlying5 Tryz.underlying9 rfl hsb ?_
   refine Wl_v (r_nestr (show Byt b from hb) (show Byt b from hb) rfl rfl) ?_
   refine Wl_nil ?_
   have q3 : b = b := rfl
   rw [decide_eq_true q3]
   simp only [Bool.not_true, Bool.not_false]
   refine W_cond_f rfl ?_
   refine W_skip (W_seq (W_seq (W_region ?_)))
   refine Was (.int .i64 0) ?_
   refine Wl_nil (W_block ?_)
   refine W_loop (fun mu ρ ds w' => ∃ (k : Nat) (ys : List Int), m - k = mu ∧ ds = [] ∧ Liv ρ [(0, .slice a2 m d), (3, .slice a3 m c3), (4, .slice a4 4 c4), (5, .int .i64 0), (6, .int .i64 ((k : Nat) : Int))] ∧ k ≤ m ∧ Own w' (fun g => ((((g = B2) ∨ g = w2.heap.size)) ∧ g < w3.heap.size)) 5 1 (.slice a3 m c3) m (ints .u8 ys) ∧ Upd (fun g => ((((g = B2) ∨ g = w2.heap.size)) ∧ g < w3.heap.size)) w4 w') _ ⟨0, b, rfl, rfl, ⟨rfl, rfl, rfl, rfl, (by first | rfl | exact vint (by omega) | exact vint (by simp)), trivial⟩, (by omega), hO3, Upd.refl _ _⟩ ?_
   rintro m5 ρ5 ds5 w5 ⟨k, ys, rfl, rfl, hl5, hk, hO3, hU5⟩
   obtain ⟨ρ5x, rfl⟩ : ∃ ρx, ρ5 = upds ρx [(0, .slice a2 m d), (3, .slice a3 m c3), (4, .slice a4 4 c4), (5, .int .i64 0), (6, .int .i64 ((k : Nat) : Int))] := ⟨_, upds_self hl5⟩
   clear hl5
   have hzw5 := hU5.size
   replace hsb := hsb.upd hU5 (by intro x h1 h2; have h3 : x < w.heap.size := h1; have h4 : ((((x = B2) ∨ x = w2.heap.size)) ∧ x < w3.heap.size) := h2; omega)
   replace HU := HU.trans hU5 (by intro x hx; have hx2 : ((((x = B2) ∨ x = w2.heap.size)) ∧ x < w3.heap.size) := hx; show (False) ∨ w.heap.size ≤ x; omega)
   replace hS4 := hS4.upd hU5 (by intro x h1 h2; have h3 : ((w3.heap.size ≤ x) ∧ x < w4.heap.size) := h1; have h4 : ((((x = B2) ∨ x = w2.heap.size)) ∧ x < w3.heap.size) := h2; omega)
   replace hOa4 := hOa4.upd hU5 (by intro x h1 h2; have h3 : ((w3.heap.size ≤ x) ∧ x < w4.heap.size) := h1; have h4 : ((((x = B2) ∨ x = w2.heap.size)) ∧ x < w3.heap.size) := h2; omega)
   replace hOb4 := hOb4.upd hU5 (by intro x h1 h2; have h3 : ((w3.heap.size ≤ x) ∧ x < w4.heap.size) := h1; have h4 : ((((x = B2) ∨ x = w2.heap.size)) ∧ x < w3.heap.size) := h2; omega)
   replace hOc4 := hOc4.upd hU5 (by intro x h1 h2; have h3 : ((w3.heap.size ≤ x) ∧ x < w4.heap.size) := h1; have h4 : ((((x = B2) ∨ x = w2.heap.size)) ∧ x < w3.heap.size) := h2; omega)
   replace hOd4 := hOd4.upd hU5 (by intro x h1 h2; have h3 : ((w3.heap.size ≤ x) ∧ x < w4.heap.size) := h1; have h4 : ((((x = B2) ∨ x = w2.heap.size)) ∧ x < w3.heap.size) := h2; omega)
   have HL5 := hU5
   refine W_seq (W_seq (W_region ?_))
   refine Wmv (.int .i64 ((k : Nat) : Int)) ?_
   refine Wmv (.slice a3 m c3) ?_
   refine Wl_v (r_len Tryz.underlying32 rfl) ?_
   refine Wl_v (r_lt rfl rfl) ?_
   refine Wl_nil ?_
   by_cases q4 : ((k : Nat) : Int) < ((m : Nat) : Int)
   ·rw [decide_eq_true q4]
    refine W_cond_t rfl ?_
    refine W_skip (W_seq (W_block (W_region ?_)))
    refine Wmv (.slice a3 m c3) ?_
    refine Wmv (.int .i64 ((k : Nat) : Int)) ?_
    refine Wl_idxi Tryz.underlying32 Tryz.sizeOf5 rfl rfl hO3.sl (by omega) (by omega) ?_
    intro ib6 io6 hc6
    rw [Int.toNat_natCast] at hc6
    refine Wl_loadc Tryz.isAgg5 rfl hc6 ?_
    refine Wl_v (r_add rfl rfl (mu8 _)) ?_
    obtain ⟨g7, rfl, hg7⟩ := hO3.addr (by omega)
    replace hg7 : ((((g7 = B2) ∨ g7 = w2.heap.size)) ∧ g7 < w3.heap.size) := hg7
    refine Wl_idxo (i' := k) Tryz.underlying32 Tryz.sizeOf5 rfl rfl hO3 (by omega) (by omega) ?_
    intro hc8
    refine Wl_storeo (i := k) Tryz.sizeOf5 rfl rfl hO3 (by omega) ?_
    intro w9 hU9 hzz9 hO9
    clear hO3
    have hzw9 := hU9.size
    replace HL5 := HL5.trans1 hU9 (by show (((((g7 = B2) ∨ g7 = w2.heap.size)) ∧ g7 < w3.heap.size)) ∨ w4.heap.size ≤ g7; omega)
    have hl_hO9 := ilen hO9.sl
    have hc_hO9 := hO9.sl.cap.1
    refine Wl_nil (W_region ?_)
    refine Wmv (.int .i64 ((k : Nat) : Int)) ?_
    refine Wl_v (r_add rfl rfl (wi64 (by omega) (by omega))) ?_
    refine Was (.int .i64 (((k : Nat) : Int) + 1)) ?_
    refine Wl_nil ?_
    refine ⟨_, ?_, (k + 1), ys.set k (((ys.getD k 0) + 1) % 256), rfl, rfl, ⟨rfl, rfl, rfl, rfl, (by first | rfl | exact vint (by omega) | exact vint (by simp)), trivial⟩, (by omega), hO9, HL5⟩
    omega
   ·rw [decide_eq_false q4]
    refine W_cond_f rfl ?_
    refine W_exit ?_
    refine W_seq (W_region ?_)
    refine Wmv (.slice a2 m d) ?_
    have q5 : e4 b = 0 := q2
    refine Wl_call (r_call1 rfl Tryz.call26 rfl) (rstr_ok _ hsb hb (by omega) q5) ?_
    rintro v w10 ⟨a10, c10, ja10, ka10, qa10, jb10, kb10, qb10, jc10, kc10, qc10, jd10, kd10, qd10, rfl, hS10, hOa10, hOb10, hOc10, hOd10, hU10⟩
    have hzw10 := hU10.size
    replace HU := HU.trans0 hU10
    replace hS4 := hS4.upd0 hU10
    replace hOa4 := hOa4.upd0 hU10
    replace hOb4 := hOb4.upd0 hU10
    replace hOc4 := hOc4.upd0 hU10
    replace hOd4 := hOd4.upd0 hU10
    replace hS10 := hS10.tight
    have hl_hS10 := hS10.sl.len
    have hc_hS10 := hS10.sl.cap.1
    have hl_hOa10 := ilen hOa10
    have hc_hOa10 := hOa10.cap.1
    have hl_hOb10 := ilen hOb10
    have hc_hOb10 := hOb10.cap.1
    have hl_hOc10 := ilen hOc10
    have hc_hOc10 := hOc10.cap.1
    have hl_hOd10 := ilen hOd10
    have hc_hOd10 := hOd10.cap.1
    refine Wmv (.tuple #[.slice a10 4 c10, .int .i64 0]) ?_
    refine Wl_v (r_ext (v := .slice a10 4 c10) rfl rfl) ?_
    refine Wl_v (r_ext (v := .int .i64 0) rfl rfl) ?_
    refine Was (.slice a10 4 c10) ?_
    refine Was (.int .i64 0) ?_
    refine Wl_nil (W_seq (W_region ?_))
    refine Wmv (.slice a4 4 c4) ?_
    refine Wmv (.slice a10 4 c10) ?_
    refine Wl_call (r_call2 rfl Tryz.call27 rfl rfl) (lists_eq _ hS4.sl hOa4.sl.any hOb4.sl.any hOc4.sl.any hOd4.sl.any hS10.sl hOa10.any hOb10.any hOc10.any hOd10.any (gby_byt hb _ _) (gby_byt hb _ _) (gby_byt hb _ _) (hb.drop _)) ?_
    rintro v w11 ⟨rfl, hU11⟩
    have hzw11 := hU11.size
    replace HU := HU.trans0 hU11
    refine Wmv (.bool true) ?_
    refine Wl_guard_t rfl ?_
    refine Wmv (.int .i64 0) ?_
    refine Wl_guard_t rfl ?_
    refine Wl_call (r_call1 rfl Tryz.call15 rfl) (num18 _ ) ?_
    rintro v w12 ⟨rfl, hU12⟩
    have hzw12 := hU12.size
    replace HU := HU.trans0 hU12
    refine Wl_guard_t rfl ?_
    refine Wmv (.int .i64 0) ?_
    refine Wl_guard_t rfl ?_
    refine Wl_v (v := .bool true) (r_eq (a := 0) (b := 0) rfl rfl) ?_
    refine Wl_v (r_pick_t (v := .bool true) rfl rfl) ?_
    refine Wmv (.bool true) ?_
    refine Wl_guard_t rfl ?_
    refine Wl_call (r_call0 rfl Tryz.call16 ) (works18 _ ) ?_
    rintro v w13 ⟨rfl, hU13⟩
    have hzw13 := hU13.size
    replace HU := HU.trans0 hU13
    refine Wl_v (r_pick_t (v := .bool true) rfl rfl) ?_
    refine Was (.bool true) ?_
    refine Wl_nil ?_
    refine W_ret ?_
    refine ret_end (v := .bool true) rfl (res1 Tryz.results8 rfl) ?_
    exact ⟨_, rfl, rfl, HU⟩
  ·refine Wl_call (r_call1 rfl Tryz.call25 rfl) (split_no _ hO3.sl.any hb (by omega) q2) ?_
   rintro v w14 ⟨rfl, hU14⟩
   have hzw14 := hU14.size
   replace hsb := hsb.upd0 hU14
   replace HU := HU.trans0 hU14
   replace hO3 := hO3.upd0 hU14
   refine Wmv (.tuple #[.slice none 0 0, .int .i64 (e4 b)]) ?_
   refine Wl_v (r_ext (v := .slice none 0 0) rfl rfl) ?_
   refine Wl_v (r_ext (v := .int .i64 (e4 b)) rfl rfl) ?_
   refine Was (.slice none 0 0) ?_
   refine Was (.int .i64 (e4 b)) ?_
   refine Wl_nil (W_seq (W_seq (W_region ?_)))
   refine Wmv (.slice a3 m c3) ?_
   refine Wl_bstr Tryz.underlying32 Tryz.underlying5 Tryz.underlying9 rfl hO3.sl ?_
   refine Wmv (.slice a2 m d) ?_
   refine Wl_bstr Tryz.underlying32 Tryz.underlying5 Tryz.underlying9 rfl hsb ?_
   refine Wl_v (r_nestr (show Byt b from hb) (show Byt b from hb) rfl rfl) ?_
   refine Wl_nil ?_
   have q6 : b = b := rfl
   rw [decide_eq_true q6]
   simp only [Bool.not_true, Bool.not_false]
   refine W_cond_f rfl ?_
   refine W_skip (W_seq (W_seq (W_region ?_)))
   refine Was (.int .i64 0) ?_
   refine Wl_nil (W_block ?_)
   refine W_loop (fun mu ρ ds w' => ∃ (k : Nat) (ys : List Int), m - k = mu ∧ ds = [] ∧ Liv ρ [(0, .slice a2 m d), (3, .slice a3 m c3), (4, .slice none 0 0), (5, .int .i64 (e4 b)), (6, .int .i64 ((k : Nat) : Int))] ∧ k ≤ m ∧ Own w' (fun g => ((((g = B2) ∨ g = w2.heap.size)) ∧ g < w3.heap.size)) 5 1 (.slice a3 m c3) m (ints .u8 ys) ∧ Upd (fun g => ((((g = B2) ∨ g = w2.heap.size)) ∧ g < w3.heap.size)) w14 w') _ ⟨0, b, rfl, rfl, ⟨rfl, rfl, rfl, rfl, (by first | rfl | exact vint (by omega) | exact vint (by simp)), trivial⟩, (by omega), hO3, Upd.refl _ _⟩ ?_
   rintro m15 ρ15 ds15 w15 ⟨k, ys, rfl, rfl, hl15, hk, hO3, hU15⟩
   obtain ⟨ρ15x, rfl⟩ : ∃ ρx, ρ15 = upds ρx [(0, .slice a2 m d), (3, .slice a3 m c3), (4, .slice none 0 0), (5, .int .i64 (e4 b)), (6, .int .i64 ((k : Nat) : Int))] := ⟨_, upds_self hl15⟩
   clear hl15
   have hzw15 := hU15.size
   replace hsb := hsb.upd hU15 (by intro x h1 h2; have h3 : x < w.heap.size := h1; have h4 : ((((x = B2) ∨ x = w2.heap.size)) ∧ x < w3.heap.size) := h2; omega)
   replace HU := HU.trans hU15 (by intro x hx; have hx2 : ((((x = B2) ∨ x = w2.heap.size)) ∧ x < w3.heap.size) := hx; show (False) ∨ w.heap.size ≤ x; omega)
   have HL15 := hU15
   refine W_seq (W_seq (W_region ?_))
   refine Wmv (.int .i64 ((k : Nat) : Int)) ?_
   refine Wmv (.slice a3 m c3) ?_
   refine Wl_v (r_len Tryz.underlying32 rfl) ?_
   refine Wl_v (r_lt rfl rfl) ?_
   refine Wl_nil ?_
   by_cases q7 : ((k : Nat) : Int) < ((m : Nat) : Int)
   ·rw [decide_eq_true q7]
    refine W_cond_t rfl ?_
    refine W_skip (W_seq (W_block (W_region ?_)))
    refine Wmv (.slice a3 m c3) ?_
    refine Wmv (.int .i64 ((k : Nat) : Int)) ?_
    refine Wl_idxi Tryz.underlying32 Tryz.sizeOf5 rfl rfl hO3.sl (by omega) (by omega) ?_
    intro ib16 io16 hc16
    rw [Int.toNat_natCast] at hc16
    refine Wl_loadc Tryz.isAgg5 rfl hc16 ?_
    refine Wl_v (r_add rfl rfl (mu8 _)) ?_
    obtain ⟨g17, rfl, hg17⟩ := hO3.addr (by omega)
    replace hg17 : ((((g17 = B2) ∨ g17 = w2.heap.size)) ∧ g17 < w3.heap.size) := hg17
    refine Wl_idxo (i' := k) Tryz.underlying32 Tryz.sizeOf5 rfl rfl hO3 (by omega) (by omega) ?_
    intro hc18
    refine Wl_storeo (i := k) Tryz.sizeOf5 rfl rfl hO3 (by omega) ?_
    intro w19 hU19 hzz19 hO19
    clear hO3
    have hzw19 := hU19.size
    replace HL15 := HL15.trans1 hU19 (by show (((((g17 = B2) ∨ g17 = w2.heap.size)) ∧ g17 < w3.heap.size)) ∨ w14.heap.size ≤ g17; omega)
    have hl_hO19 := ilen hO19.sl
    have hc_hO19 := hO19.sl.cap.1
    refine Wl_nil (W_region ?_)
    refine Wmv (.int .i64 ((k : Nat) : Int)) ?_
    refine Wl_v (r_add rfl rfl (wi64 (by omega) (by omega))) ?_
    refine Was (.int .i64 (((k : Nat) : Int) + 1)) ?_
    refine Wl_nil ?_
    refine ⟨_, ?_, (k + 1), ys.set k (((ys.getD k 0) + 1) % 256), rfl, rfl, ⟨rfl, rfl, rfl, rfl, (by first | rfl | exact vint (by omega) | exact vint (by simp)), trivial⟩, (by omega), hO19, HL15⟩
    omega
   ·rw [decide_eq_false q7]
    refine W_cond_f rfl ?_
    refine W_exit ?_
    refine W_seq (W_region ?_)
    refine Wmv (.slice a2 m d) ?_
    have q8 : ¬ (e4 b = 0) := q2
    refine Wl_call (r_call1 rfl Tryz.call26 rfl) (rstr_no _ hsb hb (by omega) q8) ?_
    rintro v w20 ⟨rfl, hU20⟩
    have hzw20 := hU20.size
    replace HU := HU.trans0 hU20
    refine Wmv (.tuple #[.slice none 0 0, .int .i64 (e4 b)]) ?_
    refine Wl_v (r_ext (v := .slice none 0 0) rfl rfl) ?_
    refine Wl_v (r_ext (v := .int .i64 (e4 b)) rfl rfl) ?_
    refine Was (.slice none 0 0) ?_
    refine Was (.int .i64 (e4 b)) ?_
    refine Wl_nil (W_seq (W_region ?_))
    refine Wmv (.slice none 0 0) ?_
    refine Wmv (.slice none 0 0) ?_
    refine Wl_call (r_call2 rfl Tryz.call27 rfl rfl) (lists_nn _ ) ?_
    rintro v w21 ⟨rfl, hU21⟩
    have hzw21 := hU21.size
    replace HU := HU.trans0 hU21
    refine Wmv (.bool true) ?_
    refine Wl_guard_t rfl ?_
    refine Wmv (.int .i64 (e4 b)) ?_
    refine Wl_guard_t rfl ?_
    refine Wl_call (r_call1 rfl Tryz.call15 rfl) (num18 _ ) ?_
    rintro v w22 ⟨rfl, hU22⟩
    have hzw22 := hU22.size
    replace HU := HU.trans0 hU22
    refine Wl_guard_t rfl ?_
    refine Wmv (.int .i64 (e4 b)) ?_
    refine Wl_guard_t rfl ?_
    refine Wl_v (r_eq rfl rfl) ?_
    refine Wl_v (r_pick_t (v := .bool (decide ((e4 b) = (e4 b)))) rfl rfl) ?_
    refine Wmv (.bool (decide ((e4 b) = (e4 b)))) ?_
    have q9 : (e4 b) = (e4 b) := rfl
    rw [decide_eq_true q9]
    refine Wl_guard_t rfl ?_
    refine Wl_call (r_call0 rfl Tryz.call16 ) (works18 _ ) ?_
    rintro v w23 ⟨rfl, hU23⟩
    have hzw23 := hU23.size
    replace HU := HU.trans0 hU23
    refine Wl_v (r_pick_t (v := .bool true) rfl rfl) ?_
    refine Was (.bool true) ?_
    refine Wl_nil ?_
    refine W_ret ?_
    refine ret_end (v := .bool true) rfl (res1 Tryz.results8 rfl) ?_
    exact ⟨_, rfl, rfl, HU⟩
end Go.Proofs.YtdppageondgjkaaGreat
