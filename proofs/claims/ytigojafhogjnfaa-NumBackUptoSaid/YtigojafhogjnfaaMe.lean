/-
  Walks, printed by a small program of this project (gen.py).
-/
import Derived.Test.YtigojafhogjnfaaWk
set_option linter.unusedVariables false
namespace Go.Proofs.Ytigojafhogjnfaa
open Go.Fw

set_option maxRecDepth 100000 in
theorem numback {ak ar : Option Addr} {m ck m2 cr : Nat} {kb rb : List Int} {wv nv : Int} (w : World) (rwv : 0 ≤ wv ∧ wv < 4294967296) (rnv : 0 ≤ nv ∧ nv < 18446744073709551616) (hk : Sl w (fun g => g < w.heap.size) 1 (.slice ak m ck) m (ints .u8 kb)) (bk : Byt kb) (nk : m ≤ 1048576) (hr : Sl w (fun g => g < w.heap.size) 1 (.slice ar m2 cr) m2 (ints .u8 rb)) (br : Byt rb) (nr : m2 ≤ 1048576) :
    Calls Try.prog 9 #[.int .u32 wv, .int .u64 nv, .slice ak m ck, .slice ar m2 cr] w (Ret fun v w' => v = .bool true ∧ Upd No w w') := by
  have HU : Upd (fun b => False) w w := Upd.refl _ _
  have hl_hk := ilen hk
  have hc_hk := hk.cap.1
  have hl_hr := ilen hr
  have hc_hr := hr.cap.1
  have hvl := vi_len nv
  refine calls_of_W Try.func9 rfl Try.ntmps9 (by simp) ?_
  refine W_seq ?_
  refine W_region ?_
  refine Wl_v (r_as (v := .bool false) rfl) ?_
  refine Wl_nil ?_
  refine W_seq ?_
  refine W_seq ?_
  refine W_region ?_
  refine Wl_v (r_mv (v := .int .u64 nv) rfl) ?_
  refine Wl_v (r_gt rfl rfl) ?_
  refine Wl_nil ?_
  by_cases q1 : 4611686018427387903 < nv
  · rw [decide_eq_true q1]
    refine W_cond_t rfl ?_
    refine W_seq ?_
    refine W_region ?_
    refine Wl_call (r_call0 rfl Try.call19 ) (known_spec _ ) ?_
    rintro v w1 ⟨rfl, hU1⟩
    have hzw1 := hU1.size
    replace hk := hk.upd0 hU1
    replace hr := hr.upd0 hU1
    replace HU := HU.trans0 hU1
    refine Wl_v (r_as (v := .bool true) rfl) ?_
    refine Wl_nil ?_
    refine W_ret ?_
    refine ret_end (v := .bool true) rfl (res1 Try.results9 rfl) ?_
    exact ⟨_, rfl, rfl, HU⟩
  · rw [decide_eq_false q1]
    refine W_cond_f rfl ?_
    refine W_skip ?_
    refine W_seq ?_
    refine W_region ?_
    refine Wl_v (r_mv (v := .int .u32 wv) rfl) ?_
    refine Wl_call (r_call2 rfl Try.call14 rfl rfl) (putword_spec (bs := []) _ (Sl.nil _ _ _) (by omega) (by omega) (by omega)) ?_
    rintro v w2 ⟨a2, c2, rfl, hO2, hU2⟩
    have hzw2 := hU2.size
    replace hk := hk.upd0 hU2
    replace hr := hr.upd0 hU2
    replace HU := HU.trans0 hU2
    replace hO2 := hO2.tight
    have hl_hO2 := ilen hO2.sl
    have hc_hO2 := hO2.sl.cap.1
    refine Wl_v (r_mv (v := .int .u64 nv) rfl) ?_
    have q2 : ¬ (4611686018427387903 < nv) := q1
    refine Wl_call (r_call2 rfl Try.call17 rfl rfl) (putvarint_spec _ hO2.sl.any (by omega) (by omega) (by omega)) ?_
    rintro v w3 ⟨a3, c3, rfl, hO3, hU3⟩
    have hzw3 := hU3.size
    replace hk := hk.upd0 hU3
    replace hr := hr.upd0 hU3
    replace HU := HU.trans0 hU3
    replace hO2 := hO2.upd0 hU3
    replace hO3 := hO3.tight
    have hl_hO3 := ilen hO3.sl
    have hc_hO3 := hO3.sl.cap.1
    refine Wl_v (r_mv (v := .tuple #[.slice a3 ((0 + 4) + (vi nv).length) c3, .int .i64 0]) rfl) ?_
    refine Wl_v (r_ext (v := .slice a3 ((0 + 4) + (vi nv).length) c3) rfl rfl) ?_
    refine Wl_v (r_ext (v := .int .i64 0) rfl rfl) ?_
    refine Wl_v (r_as (v := .slice a3 ((0 + 4) + (vi nv).length) c3) rfl) ?_
    refine Wl_v (r_as (v := .int .i64 0) rfl) ?_
    refine Wl_nil ?_
    refine W_seq ?_
    refine W_region ?_
    refine Wl_v (r_mv (v := .slice a3 ((0 + 4) + (vi nv).length) c3) rfl) ?_
    refine Wl_v (r_mv (v := .slice ak m ck) rfl) ?_
    refine Wl_appendi (xs := ([] ++ word wv) ++ vi nv) (ys := kb) (zs := ([] ++ word wv) ++ vi nv ++ kb) (k' := .u8) (tot := (0 + 4) + (vi nv).length + m) (by first | rfl | simp) Try.underlying22 (ti := Try.t5) (z := .int .u8 0) (sz := 1) (by' := 1) rfl rfl rfl rfl rfl (by decide) rfl hO3 rfl hk  (by omega) (by simp only [maxLen]; omega) (by omega) ?_
    intro a4 c4 w4 hU4 hzz4 hO4
    clear hO3
    have hzw4 := hU4.size
    replace hk := hk.upd hU4 (by intro x h1 h2; have h3 : x < w.heap.size := h1; have h4 : ((w2.heap.size ≤ x) ∧ x < w3.heap.size) := h2; omega)
    replace hr := hr.upd hU4 (by intro x h1 h2; have h3 : x < w.heap.size := h1; have h4 : ((w2.heap.size ≤ x) ∧ x < w3.heap.size) := h2; omega)
    replace HU := HU.trans hU4 (by intro x hx; have hx2 : ((w2.heap.size ≤ x) ∧ x < w3.heap.size) := hx; show (False) ∨ w.heap.size ≤ x; omega)
    replace hO2 := hO2.upd hU4 (by intro x h1 h2; have h3 : ((w.heap.size ≤ x) ∧ x < w2.heap.size) := h1; have h4 : ((w2.heap.size ≤ x) ∧ x < w3.heap.size) := h2; omega)
    replace hO4 := hO4.tight
    have hl_hO4 := ilen hO4.sl
    have hc_hO4 := hO4.sl.cap.1
    refine Wl_v (r_as (v := .slice a4 ((0 + 4) + (vi nv).length + m) c4) rfl) ?_
    refine Wl_nil ?_
    refine W_seq ?_
    refine W_region ?_
    refine Wl_v (r_mv (v := .slice a4 ((0 + 4) + (vi nv).length + m) c4) rfl) ?_
    refine Wl_call (r_call1 rfl Try.call15 rfl) (own_spec _ hO4.sl.any (by omega)) ?_
    rintro v w5 ⟨a5, c5, rfl, hO5, hU5⟩
    have hzw5 := hU5.size
    replace hk := hk.upd0 hU5
    replace hr := hr.upd0 hU5
    replace HU := HU.trans0 hU5
    replace hO2 := hO2.upd0 hU5
    replace hO4 := hO4.upd0 hU5
    replace hO5 := hO5.tight
    have hl_hO5 := ilen hO5.sl
    have hc_hO5 := hO5.sl.cap.1
    refine Wl_v (r_mv (v := .slice ar m2 cr) rfl) ?_
    refine Wl_appendi (xs := ([] ++ word wv) ++ vi nv ++ kb) (ys := rb) (zs := ([] ++ word wv) ++ vi nv ++ kb ++ rb) (k' := .u8) (tot := (0 + 4) + (vi nv).length + m + m2) (by first | rfl | simp) Try.underlying22 (ti := Try.t5) (z := .int .u8 0) (sz := 1) (by' := 1) rfl rfl rfl rfl rfl (by decide) rfl hO5 rfl hr  (by omega) (by simp only [maxLen]; omega) (by omega) ?_
    intro a6 c6 w6 hU6 hzz6 hO6
    clear hO5
    have hzw6 := hU6.size
    replace hk := hk.upd hU6 (by intro x h1 h2; have h3 : x < w.heap.size := h1; have h4 : ((w4.heap.size ≤ x) ∧ x < w5.heap.size) := h2; omega)
    replace hr := hr.upd hU6 (by intro x h1 h2; have h3 : x < w.heap.size := h1; have h4 : ((w4.heap.size ≤ x) ∧ x < w5.heap.size) := h2; omega)
    replace HU := HU.trans hU6 (by intro x hx; have hx2 : ((w4.heap.size ≤ x) ∧ x < w5.heap.size) := hx; show (False) ∨ w.heap.size ≤ x; omega)
    replace hO2 := hO2.upd hU6 (by intro x h1 h2; have h3 : ((w.heap.size ≤ x) ∧ x < w2.heap.size) := h1; have h4 : ((w4.heap.size ≤ x) ∧ x < w5.heap.size) := h2; omega)
    replace hO4 := hO4.upd hU6 (by intro x h1 h2; have h3 : ((((((w2.heap.size ≤ x) ∧ x < w3.heap.size)) ∨ x = w3.heap.size)) ∧ x < w4.heap.size) := h1; have h4 : ((w4.heap.size ≤ x) ∧ x < w5.heap.size) := h2; omega)
    replace hO6 := hO6.tight
    have hl_hO6 := ilen hO6.sl
    have hc_hO6 := hO6.sl.cap.1
    refine Wl_call (r_call1 rfl Try.call21 rfl) (new_spec _ hO6.sl.any (by omega)) ?_
    rintro v w7 ⟨pb7, a7, c7, rfl, hp7, hO7, hpg_7, hU7⟩
    have hzw7 := hU7.size
    replace hk := hk.upd0 hU7
    replace hr := hr.upd0 hU7
    replace HU := HU.trans0 hU7
    replace hO2 := hO2.upd0 hU7
    replace hO4 := hO4.upd0 hU7
    replace hO6 := hO6.upd0 hU7
    have hbl_hp7 := hp7.lt
    replace hO7 := hO7.tight
    have hl_hO7 := ilen hO7.sl
    have hc_hO7 := hO7.sl.cap.1
    refine Wl_v (r_as (v := .pointer (some ⟨pb7, 0, none⟩)) rfl) ?_
    refine Wl_nil ?_
    refine W_seq ?_
    refine W_region ?_
    refine Wl_v (r_mv (v := .pointer (some ⟨pb7, 0, none⟩)) rfl) ?_
    refine Wl_call (r_call1 rfl Try.call28 rfl) (cword_at (x := wv) (q := 4) (er := 0) (p := 0) _ hp7 (hO7.sl.cur (by intro h1; have h3 : ((w6.heap.size ≤ pb7 ∧ pb7 ≠ pb7) ∧ pb7 < w7.heap.size) := h1; first | omega | simp at h3)) (byt_app (byt_app (byt_app (byt_app byt_nil (word_byt (by omega) (by omega))) (vi_byt (by omega))) bk) br) (by omega) (by omega) (gword_word (rest := vi nv ++ (kb ++ rb)) (by omega) (by omega) (by simp))) ?_
    rintro v w8 ⟨rfl, hp8, hU8⟩
    have hzw8 := hU8.size
    replace hk := hk.upd1 hU8 (by intro h1; have h3 : pb7 < w.heap.size := h1; omega)
    replace hr := hr.upd1 hU8 (by intro h1; have h3 : pb7 < w.heap.size := h1; omega)
    replace HU := HU.trans1 hU8 (by show (False) ∨ w.heap.size ≤ pb7; omega)
    replace hO2 := hO2.upd1 hU8 (by intro h1; have h3 : ((w.heap.size ≤ pb7) ∧ pb7 < w2.heap.size) := h1; omega)
    replace hO4 := hO4.upd1 hU8 (by intro h1; have h3 : ((((((w2.heap.size ≤ pb7) ∧ pb7 < w3.heap.size)) ∨ pb7 = w3.heap.size)) ∧ pb7 < w4.heap.size) := h1; omega)
    replace hO6 := hO6.upd1 hU8 (by intro h1; have h3 : ((((((w4.heap.size ≤ pb7) ∧ pb7 < w5.heap.size)) ∨ pb7 = w5.heap.size)) ∧ pb7 < w6.heap.size) := h1; omega)
    replace hO7 := hO7.upd1 hU8 (by intro h1; have h3 : ((w6.heap.size ≤ pb7 ∧ pb7 ≠ pb7) ∧ pb7 < w7.heap.size) := h1; omega)
    have hbl_hp8 := hp8.lt
    refine Wl_v (r_mv (v := .tuple #[.int .u32 wv, .int .i64 0]) rfl) ?_
    refine Wl_v (r_ext (v := .int .u32 wv) rfl rfl) ?_
    refine Wl_v (r_ext (v := .int .i64 0) rfl rfl) ?_
    refine Wl_v (r_as (v := .int .u32 wv) rfl) ?_
    refine Wl_v (r_as (v := .int .i64 0) rfl) ?_
    refine Wl_nil ?_
    refine W_seq ?_
    refine W_region ?_
    refine Wl_v (r_mv (v := .pointer (some ⟨pb7, 0, none⟩)) rfl) ?_
    refine Wl_call (r_call1 rfl Try.call22 rfl) (cvarint_at (x := nv) (q := 4 + (vi nv).length) (er := 0) _ hp8 (hO7.sl.cur (by intro h1; have h3 : ((w6.heap.size ≤ pb7 ∧ pb7 ≠ pb7) ∧ pb7 < w7.heap.size) := h1; first | omega | simp at h3)) (byt_app (byt_app (byt_app (byt_app byt_nil (word_byt (by omega) (by omega))) (vi_byt (by omega))) bk) br) (by omega) (by omega) (gvar_vi (by omega) (by omega) bk2)) ?_
    rintro v w9 ⟨rfl, hp9, hU9⟩
    have hzw9 := hU9.size
    replace hk := hk.upd1 hU9 (by intro h1; have h3 : pb7 < w.heap.size := h1; omega)
    replace hr := hr.upd1 hU9 (by intro h1; have h3 : pb7 < w.heap.size := h1; omega)
    replace HU := HU.trans1 hU9 (by show (False) ∨ w.heap.size ≤ pb7; omega)
    replace hO2 := hO2.upd1 hU9 (by intro h1; have h3 : ((w.heap.size ≤ pb7) ∧ pb7 < w2.heap.size) := h1; omega)
    replace hO4 := hO4.upd1 hU9 (by intro h1; have h3 : ((((((w2.heap.size ≤ pb7) ∧ pb7 < w3.heap.size)) ∨ pb7 = w3.heap.size)) ∧ pb7 < w4.heap.size) := h1; omega)
    replace hO6 := hO6.upd1 hU9 (by intro h1; have h3 : ((((((w4.heap.size ≤ pb7) ∧ pb7 < w5.heap.size)) ∨ pb7 = w5.heap.size)) ∧ pb7 < w6.heap.size) := h1; omega)
    replace hO7 := hO7.upd1 hU9 (by intro h1; have h3 : ((w6.heap.size ≤ pb7 ∧ pb7 ≠ pb7) ∧ pb7 < w7.heap.size) := h1; omega)
    have hbl_hp9 := hp9.lt
    refine Wl_v (r_mv (v := .tuple #[.int .u64 nv, .int .i64 0]) rfl) ?_
    refine Wl_v (r_ext (v := .int .u64 nv) rfl rfl) ?_
    refine Wl_v (r_ext (v := .int .i64 0) rfl rfl) ?_
    refine Wl_v (r_as (v := .int .u64 nv) rfl) ?_
    refine Wl_v (r_as (v := .int .i64 0) rfl) ?_
    refine Wl_nil ?_
    refine W_seq ?_
    refine W_region ?_
    refine Wl_v (r_mv (v := .pointer (some ⟨pb7, 0, none⟩)) rfl) ?_
    refine Wl_v (r_mv (v := .slice ak m ck) rfl) ?_
    refine Wl_v (r_len Try.underlying22 rfl) ?_
    refine Wl_call (r_call2 rfl Try.call26 rfl rfl) (bytes_at (ks := kb) (q := 4 + (vi nv).length + kb.length) (er := 0) _ hp9 (hO7.sl.cur (by intro h1; have h3 : ((w6.heap.size ≤ pb7 ∧ pb7 ≠ pb7) ∧ pb7 < w7.heap.size) := h1; first | omega | simp at h3)) (byt_app (byt_app (byt_app (byt_app byt_nil (word_byt (by omega) (by omega))) (vi_byt (by omega))) bk) br) (by omega) (by omega) (gbytes_at (by omega) bk3 (by omega))) ?_
    rintro v w10 ⟨a10, c10, rfl, hp10, hO10, hU10⟩
    have hzw10 := hU10.size
    replace hk := hk.upd1 hU10 (by intro h1; have h3 : pb7 < w.heap.size := h1; omega)
    replace hr := hr.upd1 hU10 (by intro h1; have h3 : pb7 < w.heap.size := h1; omega)
    replace HU := HU.trans1 hU10 (by show (False) ∨ w.heap.size ≤ pb7; omega)
    replace hO2 := hO2.upd1 hU10 (by intro h1; have h3 : ((w.heap.size ≤ pb7) ∧ pb7 < w2.heap.size) := h1; omega)
    replace hO4 := hO4.upd1 hU10 (by intro h1; have h3 : ((((((w2.heap.size ≤ pb7) ∧ pb7 < w3.heap.size)) ∨ pb7 = w3.heap.size)) ∧ pb7 < w4.heap.size) := h1; omega)
    replace hO6 := hO6.upd1 hU10 (by intro h1; have h3 : ((((((w4.heap.size ≤ pb7) ∧ pb7 < w5.heap.size)) ∨ pb7 = w5.heap.size)) ∧ pb7 < w6.heap.size) := h1; omega)
    replace hO7 := hO7.upd1 hU10 (by intro h1; have h3 : ((w6.heap.size ≤ pb7 ∧ pb7 ≠ pb7) ∧ pb7 < w7.heap.size) := h1; omega)
    have hbl_hp10 := hp10.lt
    replace hO10 := hO10.tight
    have hl_hO10 := ilen hO10.sl
    have hc_hO10 := hO10.sl.cap.1
    refine Wl_v (r_mv (v := .tuple #[.slice a10 kb.length c10, .int .i64 0]) rfl) ?_
    refine Wl_v (r_ext (v := .slice a10 kb.length c10) rfl rfl) ?_
    refine Wl_v (r_ext (v := .int .i64 0) rfl rfl) ?_
    refine Wl_v (r_as (v := .slice a10 kb.length c10) rfl) ?_
    refine Wl_v (r_as (v := .int .i64 0) rfl) ?_
    refine Wl_nil ?_
    refine W_seq ?_
    refine W_region ?_
    refine Wl_v (r_mv (v := .int .i64 0) rfl) ?_
    refine Wl_v (v := .bool true) (r_eq (a := 0) (b := 0) rfl rfl) ?_
    refine Wl_v (r_mv (v := .bool true) rfl) ?_
    refine Wl_guard_t rfl ?_
    refine Wl_v (r_mv (v := .int .i64 0) rfl) ?_
    refine Wl_guard_t rfl ?_
    refine Wl_v (v := .bool true) (r_eq (a := 0) (b := 0) rfl rfl) ?_
    refine Wl_v (r_pick_t (v := .bool true) rfl rfl) ?_
    refine Wl_v (r_mv (v := .bool true) rfl) ?_
    refine Wl_guard_t rfl ?_
    refine Wl_v (r_mv (v := .int .i64 0) rfl) ?_
    refine Wl_guard_t rfl ?_
    refine Wl_v (v := .bool true) (r_eq (a := 0) (b := 0) rfl rfl) ?_
    refine Wl_v (r_pick_t (v := .bool true) rfl rfl) ?_
    refine Wl_v (r_mv (v := .bool true) rfl) ?_
    refine Wl_guard_t rfl ?_
    refine Wl_v (r_mv (v := .int .i64 0) rfl) ?_
    refine Wl_guard_t rfl ?_
    refine Wl_v (v := .bool true) (r_eq (a := 0) (b := 0) rfl rfl) ?_
    refine Wl_v (r_pick_t (v := .bool true) rfl rfl) ?_
    refine Wl_v (r_mv (v := .bool true) rfl) ?_
    refine Wl_guard_t rfl ?_
    refine Wl_v (r_mv (v := .int .u32 wv) rfl) ?_
    refine Wl_guard_t rfl ?_
    refine Wl_v (r_mv (v := .int .u32 wv) rfl) ?_
    refine Wl_guard_t rfl ?_
    refine Wl_v (r_eq rfl rfl) ?_
    refine Wl_v (r_pick_t (v := .bool (decide (wv = wv))) rfl rfl) ?_
    refine Wl_v (r_mv (v := .bool (decide (wv = wv))) rfl) ?_
    have q3 : wv = wv := rfl
    rw [decide_eq_true q3]
    refine Wl_guard_t rfl ?_
    refine Wl_v (r_mv (v := .int .u64 nv) rfl) ?_
    refine Wl_guard_t rfl ?_
    refine Wl_v (r_mv (v := .int .u64 nv) rfl) ?_
    refine Wl_guard_t rfl ?_
    refine Wl_v (r_eq rfl rfl) ?_
    refine Wl_v (r_pick_t (v := .bool (decide (nv = nv))) rfl rfl) ?_
    refine Wl_v (r_mv (v := .bool (decide (nv = nv))) rfl) ?_
    have q4 : nv = nv := rfl
    rw [decide_eq_true q4]
    refine Wl_guard_t rfl ?_
    refine Wl_v (r_mv (v := .slice a10 kb.length c10) rfl) ?_
    refine Wl_guard_t rfl ?_
    refine Wl_v (r_mv (v := .slice ak m ck) rfl) ?_
    refine Wl_guard_t rfl ?_
    refine Wl_call (r_call2 rfl Try.call13 rfl rfl) (same_spec _ hO10.sl.any hk.any bk bk) ?_
    rintro v w11 ⟨rfl, hU11⟩
    have hzw11 := hU11.size
    replace hk := hk.upd0 hU11
    replace hr := hr.upd0 hU11
    replace HU := HU.trans0 hU11
    replace hO2 := hO2.upd0 hU11
    replace hO4 := hO4.upd0 hU11
    replace hO6 := hO6.upd0 hU11
    replace hO7 := hO7.upd0 hU11
    replace hp10 := hp10.upd0 hU11
    replace hO10 := hO10.upd0 hU11
    refine Wl_v (r_pick_t (v := .bool (decide (kb = kb))) rfl rfl) ?_
    refine Wl_v (r_mv (v := .bool (decide (kb = kb))) rfl) ?_
    have q5 : kb = kb := rfl
    rw [decide_eq_true q5]
    refine Wl_guard_t rfl ?_
    refine Wl_v (r_mv (v := .pointer (some ⟨pb7, 0, none⟩)) rfl) ?_
    refine Wl_guard_t rfl ?_
    refine Wl_call (r_call1 rfl Try.call24 rfl) (at_spec _ hp10 (by omega) (by omega) (by omega)) ?_
    rintro v w12 ⟨rfl, hU12⟩
    have hzw12 := hU12.size
    replace hk := hk.upd0 hU12
    replace hr := hr.upd0 hU12
    replace HU := HU.trans0 hU12
    replace hO2 := hO2.upd0 hU12
    replace hO4 := hO4.upd0 hU12
    replace hO6 := hO6.upd0 hU12
    replace hO7 := hO7.upd0 hU12
    replace hp10 := hp10.upd0 hU12
    replace hO10 := hO10.upd0 hU12
    refine Wl_guard_t rfl ?_
    refine Wl_v (r_mv (v := .slice a4 ((0 + 4) + (vi nv).length + m) c4) rfl) ?_
    refine Wl_guard_t rfl ?_
    refine Wl_v (r_len Try.underlying22 rfl) ?_
    refine Wl_guard_t rfl ?_
    refine Wl_v (r_eq rfl rfl) ?_
    refine Wl_v (r_pick_t (v := .bool (decide ((((4 + (vi nv).length + kb.length) : Nat) : Int) = (((0 + 4) + (vi nv).length + m : Nat) : Int)))) rfl rfl) ?_
    refine Wl_v (r_mv (v := .bool (decide ((((4 + (vi nv).length + kb.length) : Nat) : Int) = (((0 + 4) + (vi nv).length + m : Nat) : Int)))) rfl) ?_
    have q6 : (((4 + (vi nv).length + kb.length) : Nat) : Int) = (((0 + 4) + (vi nv).length + m : Nat) : Int) := (by omega)
    rw [decide_eq_true q6]
    refine Wl_guard_t rfl ?_
    refine Wl_v (r_mv (v := .pointer (some ⟨pb7, 0, none⟩)) rfl) ?_
    refine Wl_guard_t rfl ?_
    refine Wl_call (r_call1 rfl Try.call29 rfl) (left_spec _ hp10 (by omega) (by omega) (by omega)) ?_
    rintro v w13 ⟨rfl, hU13⟩
    have hzw13 := hU13.size
    replace hk := hk.upd0 hU13
    replace hr := hr.upd0 hU13
    replace HU := HU.trans0 hU13
    replace hO2 := hO2.upd0 hU13
    replace hO4 := hO4.upd0 hU13
    replace hO6 := hO6.upd0 hU13
    replace hO7 := hO7.upd0 hU13
    replace hp10 := hp10.upd0 hU13
    replace hO10 := hO10.upd0 hU13
    refine Wl_guard_t rfl ?_
    refine Wl_v (r_mv (v := .slice ar m2 cr) rfl) ?_
    refine Wl_guard_t rfl ?_
    refine Wl_v (r_len Try.underlying22 rfl) ?_
    refine Wl_guard_t rfl ?_
    refine Wl_v (r_eq rfl rfl) ?_
    refine Wl_v (r_pick_t (v := .bool (decide ((((((0 + 4) + (vi nv).length + m + m2) : Nat) : Int) - (((4 + (vi nv).length + kb.length) : Nat) : Int)) = ((m2 : Nat) : Int)))) rfl rfl) ?_
    refine Wl_v (r_mv (v := .bool (decide ((((((0 + 4) + (vi nv).length + m + m2) : Nat) : Int) - (((4 + (vi nv).length + kb.length) : Nat) : Int)) = ((m2 : Nat) : Int)))) rfl) ?_
    have q7 : (((((0 + 4) + (vi nv).length + m + m2) : Nat) : Int) - (((4 + (vi nv).length + kb.length) : Nat) : Int)) = ((m2 : Nat) : Int) := (by omega)
    rw [decide_eq_true q7]
    refine Wl_guard_t rfl ?_
    refine Wl_v (r_mv (v := .pointer (some ⟨pb7, 0, none⟩)) rfl) ?_
    refine Wl_guard_t rfl ?_
    refine Wl_call (r_call1 rfl Try.call25 rfl) (rest_spec _ hp10 (hO7.sl.cur (by intro h1; have h3 : ((w6.heap.size ≤ pb7 ∧ pb7 ≠ pb7) ∧ pb7 < w7.heap.size) := h1; first | omega | simp at h3)) (byt_app (byt_app (byt_app (byt_app byt_nil (word_byt (by omega) (by omega))) (vi_byt (by omega))) bk) br) (by omega) (by omega)) ?_
    rintro v w14 ⟨a14, c14, rfl, hO14, hU14⟩
    have hzw14 := hU14.size
    replace hk := hk.upd0 hU14
    replace hr := hr.upd0 hU14
    replace HU := HU.trans0 hU14
    replace hO2 := hO2.upd0 hU14
    replace hO4 := hO4.upd0 hU14
    replace hO6 := hO6.upd0 hU14
    replace hO7 := hO7.upd0 hU14
    replace hp10 := hp10.upd0 hU14
    replace hO10 := hO10.upd0 hU14
    replace hO14 := hO14.tight
    have hl_hO14 := ilen hO14.sl
    have hc_hO14 := hO14.sl.cap.1
    refine Wl_guard_t rfl ?_
    refine Wl_v (r_mv (v := .slice ar m2 cr) rfl) ?_
    refine Wl_guard_t rfl ?_
    refine Wl_call (r_call2 rfl Try.call13 rfl rfl) (same_spec _ hO14.sl.any hr.any (byt_drop (byt_app (byt_app (byt_app (byt_app byt_nil (word_byt (by omega) (by omega))) (vi_byt (by omega))) bk) br) _) br) ?_
    rintro v w15 ⟨rfl, hU15⟩
    have hzw15 := hU15.size
    replace hk := hk.upd0 hU15
    replace hr := hr.upd0 hU15
    replace HU := HU.trans0 hU15
    replace hO2 := hO2.upd0 hU15
    replace hO4 := hO4.upd0 hU15
    replace hO6 := hO6.upd0 hU15
    replace hO7 := hO7.upd0 hU15
    replace hp10 := hp10.upd0 hU15
    replace hO10 := hO10.upd0 hU15
    replace hO14 := hO14.upd0 hU15
    refine Wl_v (r_pick_t (v := .bool (decide (((([] ++ word wv) ++ vi nv ++ kb ++ rb).drop (4 + (vi nv).length + kb.length)) = rb))) rfl rfl) ?_
    refine Wl_v (r_mv (v := .bool (decide (((([] ++ word wv) ++ vi nv ++ kb ++ rb).drop (4 + (vi nv).length + kb.length)) = rb))) rfl) ?_
    have q8 : ((([] ++ word wv) ++ vi nv ++ kb ++ rb).drop (4 + (vi nv).length + kb.length)) = rb := bk4
    rw [decide_eq_true q8]
    refine Wl_guard_t rfl ?_
    refine Wl_v (r_mv (v := .pointer (some ⟨pb7, 0, none⟩)) rfl) ?_
    refine Wl_guard_t rfl ?_
    by_cases q9 : 4 + (vi nv).length + m < 0 + 4 + (vi nv).length + m + m2
    · refine Wl_call (r_call1 rfl Try.call30 rfl) (cend_in _ hp10 (hO7.sl.cur (by intro h1; have h3 : ((w6.heap.size ≤ pb7 ∧ pb7 ≠ pb7) ∧ pb7 < w7.heap.size) := h1; first | omega | simp at h3)) (byt_app (byt_app (byt_app (byt_app byt_nil (word_byt (by omega) (by omega))) (vi_byt (by omega))) bk) br) (by omega) (by omega) (by omega)) ?_
      rintro v w16 ⟨rfl, hU16⟩
      have hzw16 := hU16.size
      replace hk := hk.upd0 hU16
      replace hr := hr.upd0 hU16
      replace HU := HU.trans0 hU16
      replace hO2 := hO2.upd0 hU16
      replace hO4 := hO4.upd0 hU16
      replace hO6 := hO6.upd0 hU16
      replace hO7 := hO7.upd0 hU16
      replace hp10 := hp10.upd0 hU16
      replace hO10 := hO10.upd0 hU16
      replace hO14 := hO14.upd0 hU16
      refine Wl_guard_t rfl ?_
      refine Wl_v (v := .bool false) (r_eq (a := 4) (b := 0) rfl rfl) ?_
      refine Wl_guard_t rfl ?_
      refine Wl_v (r_mv (v := .slice ar m2 cr) rfl) ?_
      refine Wl_guard_t rfl ?_
      refine Wl_v (r_len Try.underlying22 rfl) ?_
      refine Wl_guard_t rfl ?_
      refine Wl_v (r_eq rfl rfl) ?_
      refine Wl_guard_t rfl ?_
      have q10 : ¬ (((m2 : Nat) : Int) = 0) := (by omega)
      rw [decide_eq_false q10]
      refine Wl_v (v := .bool true) (r_eqb (a := false) (b := false) Try.underlying4 rfl rfl) ?_
      refine Wl_v (r_pick_t (v := .bool true) rfl rfl) ?_
      refine Wl_v (r_mv (v := .bool true) rfl) ?_
      refine Wl_guard_t rfl ?_
      refine Wl_call (r_call0 rfl Try.call19 ) (known_spec _ ) ?_
      rintro v w17 ⟨rfl, hU17⟩
      have hzw17 := hU17.size
      replace hk := hk.upd0 hU17
      replace hr := hr.upd0 hU17
      replace HU := HU.trans0 hU17
      replace hO2 := hO2.upd0 hU17
      replace hO4 := hO4.upd0 hU17
      replace hO6 := hO6.upd0 hU17
      replace hO7 := hO7.upd0 hU17
      replace hp10 := hp10.upd0 hU17
      replace hO10 := hO10.upd0 hU17
      replace hO14 := hO14.upd0 hU17
      refine Wl_v (r_pick_t (v := .bool true) rfl rfl) ?_
      refine Wl_v (r_as (v := .bool true) rfl) ?_
      refine Wl_nil ?_
      refine W_ret ?_
      refine ret_end (v := .bool true) rfl (res1 Try.results9 rfl) ?_
      exact ⟨_, rfl, rfl, HU⟩
    · refine Wl_call (r_call1 rfl Try.call30 rfl) (cend_out _ hp10 (hO7.sl.cur (by intro h1; have h3 : ((w6.heap.size ≤ pb7 ∧ pb7 ≠ pb7) ∧ pb7 < w7.heap.size) := h1; first | omega | simp at h3)) (byt_app (byt_app (byt_app (byt_app byt_nil (word_byt (by omega) (by omega))) (vi_byt (by omega))) bk) br) (by omega) (by omega) (by omega)) ?_
      rintro v w18 ⟨rfl, hU18⟩
      have hzw18 := hU18.size
      replace hk := hk.upd0 hU18
      replace hr := hr.upd0 hU18
      replace HU := HU.trans0 hU18
      replace hO2 := hO2.upd0 hU18
      replace hO4 := hO4.upd0 hU18
      replace hO6 := hO6.upd0 hU18
      replace hO7 := hO7.upd0 hU18
      replace hp10 := hp10.upd0 hU18
      replace hO10 := hO10.upd0 hU18
      replace hO14 := hO14.upd0 hU18
      refine Wl_guard_t rfl ?_
      refine Wl_v (v := .bool true) (r_eq (a := 0) (b := 0) rfl rfl) ?_
      refine Wl_guard_t rfl ?_
      refine Wl_v (r_mv (v := .slice ar m2 cr) rfl) ?_
      refine Wl_guard_t rfl ?_
      refine Wl_v (r_len Try.underlying22 rfl) ?_
      refine Wl_guard_t rfl ?_
      refine Wl_v (r_eq rfl rfl) ?_
      refine Wl_guard_t rfl ?_
      have q11 : ((m2 : Nat) : Int) = 0 := (by omega)
      rw [decide_eq_true q11]
      refine Wl_v (v := .bool true) (r_eqb (a := true) (b := true) Try.underlying4 rfl rfl) ?_
      refine Wl_v (r_pick_t (v := .bool true) rfl rfl) ?_
      refine Wl_v (r_mv (v := .bool true) rfl) ?_
      refine Wl_guard_t rfl ?_
      refine Wl_call (r_call0 rfl Try.call19 ) (known_spec _ ) ?_
      rintro v w19 ⟨rfl, hU19⟩
      have hzw19 := hU19.size
      replace hk := hk.upd0 hU19
      replace hr := hr.upd0 hU19
      replace HU := HU.trans0 hU19
      replace hO2 := hO2.upd0 hU19
      replace hO4 := hO4.upd0 hU19
      replace hO6 := hO6.upd0 hU19
      replace hO7 := hO7.upd0 hU19
      replace hp10 := hp10.upd0 hU19
      replace hO10 := hO10.upd0 hU19
      replace hO14 := hO14.upd0 hU19
      refine Wl_v (r_pick_t (v := .bool true) rfl rfl) ?_
      refine Wl_v (r_as (v := .bool true) rfl) ?_
      refine Wl_nil ?_
      refine W_ret ?_
      refine ret_end (v := .bool true) rfl (res1 Try.results9 rfl) ?_
      exact ⟨_, rfl, rfl, HU⟩

end Go.Proofs.Ytigojafhogjnfaa
