/-
  Walks, printed by a small program of this project (gen.py).
-/
import Derived.Test.YtflmjdnhjbiobaaKe
set_option linter.unusedVariables false
set_option linter.unusedSimpArgs false
namespace Go.Proofs.Ytflmjdnhjbiobaa
open Go.Fw

theorem henc_max {wz sz dn : Int} {sm : Bool} : (henc wz sz dn sm).length ≤ 20 := by
  have := vi_len sz
  rw [henc_len]; split <;> split <;> omega
theorem skb_take {xs rest : List Int} : (skb xs ++ rest).take (skb xs).length = skb xs := by simp
theorem gskip_le {bs : List Int} {p : Nat} (hp : p ≤ bs.length) : (gskip bs p).2.1 ≤ bs.length := by
  unfold gskip
  repeat' split
  all_goals first | exact hp | skip
  rename_i h
  have h8 : p + 8 ≤ bs.length := by
    have : (gword bs (p + 4)).2.2 = 0 := by omega
    have := (gword_in this).1
    omega
  exact gbytes_props h8

set_option maxHeartbeats 2000000 in
set_option maxRecDepth 100000 in
theorem headback {wz sz dn : Int} {sm : Bool} {ar a : Option Addr} {m cr n c : Nat} {rb bs : List Int} (w : World) (rwz : -9223372036854775808 ≤ wz ∧ wz ≤ 9223372036854775807) (rsz : -9223372036854775808 ≤ sz ∧ sz ≤ 9223372036854775807) (rdn : 0 ≤ dn ∧ dn < 4294967296) (hr : Sl w (fun g => g < w.heap.size) 1 (.slice ar m cr) m (ints .u8 rb)) (br : Byt rb) (nr : m ≤ 140737488351232) (hb : Sl w (fun g => g < w.heap.size) 1 (.slice a n c) n (ints .u8 bs)) (bb : Byt bs) (nb : n ≤ 140737488351232) :
    Calls Try.prog 7 #[.agg #[.int .i64 wz, .int .i64 sz, .int .u32 dn, .bool (decide (sm = true))], .slice ar m cr, .slice a n c] w (Ret fun v w' => v = .bool true ∧ Upd No w w') := by
  have HU : Upd (fun b => False) w w := Upd.refl _ _
  have hl_hr := ilen hr
  have hc_hr := hr.cap.1
  have hl_hb := ilen hb
  have hc_hb := hb.cap.1
  refine calls_of_W Try.func7 rfl Try.ntmps7 (by simp) ?_
  refine W_seq ?_
  refine W_region ?_
  refine Wl_box (v := .agg #[.int .i64 wz, .int .i64 sz, .int .u32 dn, .bool (decide (sm = true))]) (cs := [.int .i64 wz, .int .i64 sz, .int .u32 dn, .bool (decide (sm = true))]) rfl rfl ?_
  intro B1 w1 hB1 hU1 hzz1 hb1
  have hzw1 := hU1.size
  replace hr := hr.upd0 hU1
  replace hb := hb.upd0 hU1
  replace HU := HU.trans0 hU1
  refine Wl_v (r_as (v := .bool false) rfl) ?_
  refine Wl_nil ?_
  refine W_seq ?_
  refine W_seq ?_
  refine W_region ?_
  refine Wl_v (r_loada (b := B1) (off := 0) (cs := [.int .i64 wz, .int .i64 sz, .int .u32 dn, .bool (decide (sm = true))]) Try.isAgg34 Try.sizeOf34 rfl rfl (fun j hj => by rw [hb1.cell]; match j, hj with | 0, _ => rfl | 1, _ => rfl | 2, _ => rfl | 3, _ => rfl)) ?_
  refine Wl_call (r_call1 rfl Try.call19 rfl) (may_spec _ (by omega) (by omega) (by omega)) ?_
  rintro v w2 ⟨rfl, hU2⟩
  have hzw2 := hU2.size
  replace hr := hr.upd0 hU2
  replace hb := hb.upd0 hU2
  replace HU := HU.trans0 hU2
  replace hb1 := hb1.upd0 hU2
  refine Wl_nil ?_
  by_cases q1 : Hv wz sz
  · have hv_ : Hv wz sz := q1
    rw [decide_eq_true q1]
    refine W_cond_t rfl ?_
    refine W_seq ?_
    refine W_region ?_
    refine Wl_v (r_loada (b := B1) (off := 0) (cs := [.int .i64 wz, .int .i64 sz, .int .u32 dn, .bool (decide (sm = true))]) Try.isAgg34 Try.sizeOf34 rfl rfl (fun j hj => by rw [hb1.cell]; match j, hj with | 0, _ => rfl | 1, _ => rfl | 2, _ => rfl | 3, _ => rfl)) ?_
    refine Wl_call (r_call1 rfl Try.call18 rfl) (put_ok _ (by omega) (by omega) (by omega) hv_) ?_
    rintro v w3 ⟨a3, m3, c3, rfl, hO3, hm_3, hU3⟩
    have hzw3 := hU3.size
    replace hr := hr.upd0 hU3
    replace hb := hb.upd0 hU3
    replace HU := HU.trans0 hU3
    replace hb1 := hb1.upd0 hU3
    replace hO3 := hO3.tight
    have hl_hO3 := ilen hO3.sl
    have hc_hO3 := hO3.sl.cap.1
    have hel := henc_max (wz := wz) (sz := sz) (dn := dn) (sm := sm)
    have he6 := henc_6 (wz := wz) (sz := sz) (dn := dn) (sm := sm)
    refine Wl_v (r_mv (v := .tuple #[.slice a3 m3 c3, .int .i64 0]) rfl) ?_
    refine Wl_v (r_ext (v := .slice a3 m3 c3) rfl rfl) ?_
    refine Wl_v (r_ext (v := .int .i64 0) rfl rfl) ?_
    refine Wl_v (r_as (v := .slice a3 m3 c3) rfl) ?_
    refine Wl_v (r_as (v := .int .i64 0) rfl) ?_
    refine Wl_nil ?_
    refine W_seq ?_
    refine W_region ?_
    refine Wl_v (r_mv (v := .slice a3 m3 c3) rfl) ?_
    refine Wl_call (r_call1 rfl Try.call24 rfl) (own_spec _ hO3.sl.any (by omega)) ?_
    rintro v w4 ⟨a4, c4, rfl, hO4, hU4⟩
    have hzw4 := hU4.size
    replace hr := hr.upd0 hU4
    replace hb := hb.upd0 hU4
    replace HU := HU.trans0 hU4
    replace hb1 := hb1.upd0 hU4
    replace hO3 := hO3.upd0 hU4
    replace hO4 := hO4.tight
    have hl_hO4 := ilen hO4.sl
    have hc_hO4 := hO4.sl.cap.1
    refine Wl_v (r_mv (v := .slice ar m cr) rfl) ?_
    refine Wl_appendi (xs := henc wz sz dn sm) (ys := rb) (zs := (henc wz sz dn sm) ++ rb) (k' := .u8) (tot := m3 + m) (by first | rfl | simp) Try.underlying35 (ti := Try.t5) (z := .int .u8 0) (sz := 1) (by' := 1) rfl rfl rfl rfl rfl (by decide) rfl hO4 rfl hr  (by omega) (by simp only [maxLen]; omega) (by omega) ?_
    intro a5 c5 w5 hU5 hzz5 hO5
    clear hO4
    have hzw5 := hU5.size
    replace hr := hr.upd hU5 (by intro x h1 h2; have h3 : x < w.heap.size := h1; have h4 : ((w3.heap.size ≤ x) ∧ x < w4.heap.size) := h2; omega)
    replace hb := hb.upd hU5 (by intro x h1 h2; have h3 : x < w.heap.size := h1; have h4 : ((w3.heap.size ≤ x) ∧ x < w4.heap.size) := h2; omega)
    replace HU := HU.trans hU5 (by intro x hx; have hx2 : ((w3.heap.size ≤ x) ∧ x < w4.heap.size) := hx; show (False) ∨ w.heap.size ≤ x; omega)
    replace hb1 := hb1.upd hU5 (by intro hx; have hx2 : ((w3.heap.size ≤ B1) ∧ B1 < w4.heap.size) := hx; omega)
    replace hO3 := hO3.upd hU5 (by intro x h1 h2; have h3 : ((w2.heap.size ≤ x) ∧ x < w3.heap.size) := h1; have h4 : ((w3.heap.size ≤ x) ∧ x < w4.heap.size) := h2; omega)
    replace hO5 := hO5.tight
    have hl_hO5 := ilen hO5.sl
    have hc_hO5 := hO5.sl.cap.1
    refine Wl_call (r_call1 rfl Try.call23 rfl) (new_spec _ hO5.sl.any (by omega)) ?_
    rintro v w6 ⟨pb6, a6, c6, rfl, hp6, hO6, hpg_6, hU6⟩
    have hzw6 := hU6.size
    replace hr := hr.upd0 hU6
    replace hb := hb.upd0 hU6
    replace HU := HU.trans0 hU6
    replace hb1 := hb1.upd0 hU6
    replace hO3 := hO3.upd0 hU6
    replace hO5 := hO5.upd0 hU6
    have hbl_hp6 := hp6.lt
    replace hO6 := hO6.tight
    have hl_hO6 := ilen hO6.sl
    have hc_hO6 := hO6.sl.cap.1
    refine Wl_v (r_as (v := .pointer (some ⟨pb6, 0, none⟩)) rfl) ?_
    refine Wl_nil ?_
    refine W_seq ?_
    refine W_region ?_
    refine Wl_v (r_mv (v := .pointer (some ⟨pb6, 0, none⟩)) rfl) ?_
    by_cases q2 : sz < 0
    · refine Wl_call (r_call1 rfl Try.call26 rfl) (get_at (wz := wz) (dn := dn) (sm := sm) (q := (henc wz sz dn sm).length) (er := 0) (sz := -1) (p := 0) _ hp6 (hO6.sl.cur (by intro h1; have h3 : ((w5.heap.size ≤ pb6 ∧ pb6 ≠ pb6) ∧ pb6 < w6.heap.size) := h1; first | omega | simp at h3)) (byt_app (henc_byt hv_ rdn.1 rdn.2) br) (by omega) (by omega) (ghead_neg hv_ rdn q2 rb)) ?_
      rintro v w7 ⟨rfl, hp7, hU7⟩
      have hzw7 := hU7.size
      replace hr := hr.upd1 hU7 (by intro h1; have h3 : pb6 < w.heap.size := h1; omega)
      replace hb := hb.upd1 hU7 (by intro h1; have h3 : pb6 < w.heap.size := h1; omega)
      replace HU := HU.trans1 hU7 (by show (False) ∨ w.heap.size ≤ pb6; omega)
      replace hb1 := hb1.upd1 hU7 (by omega)
      replace hO3 := hO3.upd1 hU7 (by intro h1; have h3 : ((w2.heap.size ≤ pb6) ∧ pb6 < w3.heap.size) := h1; omega)
      replace hO5 := hO5.upd1 hU7 (by intro h1; have h3 : ((((((w3.heap.size ≤ pb6) ∧ pb6 < w4.heap.size)) ∨ pb6 = w4.heap.size)) ∧ pb6 < w5.heap.size) := h1; omega)
      replace hO6 := hO6.upd1 hU7 (by intro h1; have h3 : ((w5.heap.size ≤ pb6 ∧ pb6 ≠ pb6) ∧ pb6 < w6.heap.size) := h1; omega)
      have hbl_hp7 := hp7.lt
      refine Wl_v (r_mv (v := .tuple #[.agg #[.int .i64 wz, .int .i64 (-1), .int .u32 dn, .bool (decide (sm = true))], .int .i64 0]) rfl) ?_
      refine Wl_v (r_ext (v := .agg #[.int .i64 wz, .int .i64 (-1), .int .u32 dn, .bool (decide (sm = true))]) rfl rfl) ?_
      refine Wl_v (r_ext (v := .int .i64 0) rfl rfl) ?_
      refine Wl_alloc (cs := [.int .i64 0, .int .i64 0, .int .u32 0, .bool false]) Try.zeroValue34 rfl ?_
      intro B8 w8 hB8 hU8 hzz8 hb8
      have hzw8 := hU8.size
      replace hr := hr.upd0 hU8
      replace hb := hb.upd0 hU8
      replace HU := HU.trans0 hU8
      replace hb1 := hb1.upd0 hU8
      replace hO3 := hO3.upd0 hU8
      replace hO5 := hO5.upd0 hU8
      replace hO6 := hO6.upd0 hU8
      replace hp7 := hp7.upd0 hU8
      refine Wl_storea (off := 0) (vs := [.int .i64 wz, .int .i64 (-1), .int .u32 dn, .bool (decide (sm = true))]) (cs' := [.int .i64 wz, .int .i64 (-1), .int .u32 dn, .bool (decide (sm = true))]) Try.sizeOf34 rfl rfl rfl (by simp only [List.mem_cons, List.not_mem_nil, or_false, forall_eq_or_imp, forall_eq]; exact ⟨rfl, rfl, rfl, rfl⟩) hb8 (by simp) rfl ?_
      intro w9 hU9 hzz9 hb8n
      replace hb8 := hb8n; clear hb8n
      have hzw9 := hU9.size
      replace hr := hr.upd1 hU9 (by intro h1; have h3 : B8 < w.heap.size := h1; omega)
      replace hb := hb.upd1 hU9 (by intro h1; have h3 : B8 < w.heap.size := h1; omega)
      replace HU := HU.trans1 hU9 (by show (False) ∨ w.heap.size ≤ B8; omega)
      replace hb1 := hb1.upd1 hU9 (by omega)
      replace hO3 := hO3.upd1 hU9 (by intro h1; have h3 : ((w2.heap.size ≤ B8) ∧ B8 < w3.heap.size) := h1; omega)
      replace hO5 := hO5.upd1 hU9 (by intro h1; have h3 : ((((((w3.heap.size ≤ B8) ∧ B8 < w4.heap.size)) ∨ B8 = w4.heap.size)) ∧ B8 < w5.heap.size) := h1; omega)
      replace hO6 := hO6.upd1 hU9 (by intro h1; have h3 : ((w5.heap.size ≤ B8 ∧ B8 ≠ pb6) ∧ B8 < w6.heap.size) := h1; omega)
      replace hp7 := hp7.upd1 hU9 (by omega)
      refine Wl_v (r_as (v := .int .i64 0) rfl) ?_
      refine Wl_nil ?_
      refine W_seq ?_
      refine W_seq ?_
      refine W_region ?_
      refine Wl_v (r_fld Try.underlying34 rfl Try.sizeOf3 rfl rfl) ?_
      refine Wl_load (v := .int .i64 sz) Try.isAgg3 rfl hb1 rfl ?_
      refine Wl_v (r_lt rfl rfl) ?_
      refine Wl_nil ?_
      have q3 : sz < 0 := q2
      rw [decide_eq_true q3]
      refine W_cond_t rfl ?_
      refine W_region ?_
      refine Wl_v (r_fld Try.underlying34 rfl Try.sizeOf3 rfl rfl) ?_
      refine Wl_store (v := .int .i64 (-1)) (cs' := [.int .i64 wz, .int .i64 (-1), .int .u32 dn, .bool (decide (sm = true))]) Try.sizeOf3 rfl rfl rfl rfl hb1 rfl rfl ?_
      intro w10 hU10 hzz10 hb1n
      replace hb1 := hb1n; clear hb1n
      have hzw10 := hU10.size
      replace hr := hr.upd1 hU10 (by intro h1; have h3 : B1 < w.heap.size := h1; omega)
      replace hb := hb.upd1 hU10 (by intro h1; have h3 : B1 < w.heap.size := h1; omega)
      replace HU := HU.trans1 hU10 (by show (False) ∨ w.heap.size ≤ B1; omega)
      replace hO3 := hO3.upd1 hU10 (by intro h1; have h3 : ((w2.heap.size ≤ B1) ∧ B1 < w3.heap.size) := h1; omega)
      replace hO5 := hO5.upd1 hU10 (by intro h1; have h3 : ((((((w3.heap.size ≤ B1) ∧ B1 < w4.heap.size)) ∨ B1 = w4.heap.size)) ∧ B1 < w5.heap.size) := h1; omega)
      replace hO6 := hO6.upd1 hU10 (by intro h1; have h3 : ((w5.heap.size ≤ B1 ∧ B1 ≠ pb6) ∧ B1 < w6.heap.size) := h1; omega)
      replace hp7 := hp7.upd1 hU10 (by omega)
      replace hb8 := hb8.upd1 hU10 (by omega)
      refine Wl_nil ?_
      refine W_seq ?_
      refine W_region ?_
      refine Wl_v (r_mv (v := .int .i64 0) rfl) ?_
      refine Wl_v (v := .bool false) (r_ne (a := 0) (b := 0) rfl rfl) ?_
      refine Wl_v (r_mv (v := .bool false) rfl) ?_
      refine Wl_guard_t rfl ?_
      refine Wl_v (r_mv (v := .int .i64 0) rfl) ?_
      refine Wl_guard_t rfl ?_
      refine Wl_v (v := .bool false) (r_ne (a := 0) (b := 0) rfl rfl) ?_
      refine Wl_v (r_pick_f (v := .bool false) rfl rfl) ?_
      refine Wl_v (r_mv (v := .bool false) rfl) ?_
      refine Wl_guard_t rfl ?_
      refine Wl_v (r_loada (b := B8) (off := 0) (cs := [.int .i64 wz, .int .i64 (-1), .int .u32 dn, .bool (decide (sm = true))]) Try.isAgg34 Try.sizeOf34 rfl rfl (fun j hj => by rw [hb8.cell]; match j, hj with | 0, _ => rfl | 1, _ => rfl | 2, _ => rfl | 3, _ => rfl)) ?_
      refine Wl_guard_t rfl ?_
      refine Wl_v (r_loada (b := B1) (off := 0) (cs := [.int .i64 wz, .int .i64 (-1), .int .u32 dn, .bool (decide (sm = true))]) Try.isAgg34 Try.sizeOf34 rfl rfl (fun j hj => by rw [hb1.cell]; match j, hj with | 0, _ => rfl | 1, _ => rfl | 2, _ => rfl | 3, _ => rfl)) ?_
      refine Wl_guard_t rfl ?_
      refine Wl_v (r_neag (pp := wz = wz ∧ (-1) = (-1) ∧ dn = dn ∧ (decide (sm = true)) = (decide (sm = true))) Try.underlying34 (by kernel_rfl) (by kernel_rfl) rfl rfl (fun w => eqf_int (by decide) Try.underlying3 Try.isAgg3 rfl rfl (fun w => eqf_int (by decide) Try.underlying3 Try.isAgg3 rfl rfl (fun w => eqf_int (by decide) Try.underlying32 Try.isAgg32 rfl rfl (fun w => eqf_bool (by decide) Try.underlying4 Try.isAgg4 rfl rfl (fun w => eqf_nil))))) (by simp [Bool.decide_and])) ?_
      refine Wl_v (r_pick_f (v := .bool (!decide (wz = wz ∧ (-1) = (-1) ∧ dn = dn ∧ (decide (sm = true)) = (decide (sm = true))))) rfl rfl) ?_
      refine Wl_v (r_mv (v := .bool (!decide (wz = wz ∧ (-1) = (-1) ∧ dn = dn ∧ (decide (sm = true)) = (decide (sm = true))))) rfl) ?_
      have q4 : wz = wz ∧ (-1) = (-1) ∧ dn = dn ∧ (decide (sm = true)) = (decide (sm = true)) := ⟨rfl, rfl, rfl, rfl⟩
      rw [decide_eq_true q4]
      simp only [Bool.not_true, Bool.not_false]
      refine Wl_guard_t rfl ?_
      refine Wl_v (r_mv (v := .pointer (some ⟨pb6, 0, none⟩)) rfl) ?_
      refine Wl_guard_t rfl ?_
      refine Wl_call (r_call1 rfl Try.call28 rfl) (at_spec _ hp7 (by omega) (by omega) (by omega)) ?_
      rintro v w11 ⟨rfl, hU11⟩
      have hzw11 := hU11.size
      replace hr := hr.upd0 hU11
      replace hb := hb.upd0 hU11
      replace HU := HU.trans0 hU11
      replace hb1 := hb1.upd0 hU11
      replace hO3 := hO3.upd0 hU11
      replace hO5 := hO5.upd0 hU11
      replace hO6 := hO6.upd0 hU11
      replace hp7 := hp7.upd0 hU11
      replace hb8 := hb8.upd0 hU11
      refine Wl_guard_t rfl ?_
      refine Wl_v (r_mv (v := .slice a3 m3 c3) rfl) ?_
      refine Wl_guard_t rfl ?_
      refine Wl_v (r_len Try.underlying35 rfl) ?_
      refine Wl_guard_t rfl ?_
      refine Wl_v (r_ne rfl rfl) ?_
      refine Wl_v (r_pick_f (v := .bool (decide (((((henc wz sz dn sm).length) : Nat) : Int) ≠ ((m3 : Nat) : Int)))) rfl rfl) ?_
      refine Wl_nil ?_
      have q5 : ¬ (((((henc wz sz dn sm).length) : Nat) : Int) ≠ ((m3 : Nat) : Int)) := (by omega)
      rw [decide_eq_false q5]
      refine W_cond_f rfl ?_
      refine W_skip ?_
      refine W_seq ?_
      refine W_region ?_
      refine Wl_v (r_mv (v := .slice a n c) rfl) ?_
      refine Wl_call (r_call1 rfl Try.call23 rfl) (new_spec _ hb.any (by omega)) ?_
      rintro v w12 ⟨pb12, a12, c12, rfl, hp12, hO12, hpg_12, hU12⟩
      have hzw12 := hU12.size
      replace hr := hr.upd0 hU12
      replace hb := hb.upd0 hU12
      replace HU := HU.trans0 hU12
      replace hb1 := hb1.upd0 hU12
      replace hO3 := hO3.upd0 hU12
      replace hO5 := hO5.upd0 hU12
      replace hO6 := hO6.upd0 hU12
      replace hp7 := hp7.upd0 hU12
      replace hb8 := hb8.upd0 hU12
      have hbl_hp12 := hp12.lt
      replace hO12 := hO12.tight
      have hl_hO12 := ilen hO12.sl
      have hc_hO12 := hO12.sl.cap.1
      refine Wl_v (r_as (v := .pointer (some ⟨pb12, 0, none⟩)) rfl) ?_
      refine Wl_nil ?_
      refine W_seq ?_
      refine W_region ?_
      refine Wl_v (r_mv (v := .pointer (some ⟨pb12, 0, none⟩)) rfl) ?_
      refine Wl_call (r_call1 rfl Try.call26 rfl) (get_spec (p := 0) _ hp12 (hO12.sl.cur (by intro h1; have h3 : ((w11.heap.size ≤ pb12 ∧ pb12 ≠ pb12) ∧ pb12 < w12.heap.size) := h1; first | omega | simp at h3)) bb (by omega) (by omega)) ?_
      rintro v w13 ⟨rfl, hp13, hU13⟩
      have hzw13 := hU13.size
      replace hr := hr.upd1 hU13 (by intro h1; have h3 : pb12 < w.heap.size := h1; omega)
      replace hb := hb.upd1 hU13 (by intro h1; have h3 : pb12 < w.heap.size := h1; omega)
      replace HU := HU.trans1 hU13 (by show (False) ∨ w.heap.size ≤ pb12; omega)
      replace hb1 := hb1.upd1 hU13 (by omega)
      replace hO3 := hO3.upd1 hU13 (by intro h1; have h3 : ((w2.heap.size ≤ pb12) ∧ pb12 < w3.heap.size) := h1; omega)
      replace hO5 := hO5.upd1 hU13 (by intro h1; have h3 : ((((((w3.heap.size ≤ pb12) ∧ pb12 < w4.heap.size)) ∨ pb12 = w4.heap.size)) ∧ pb12 < w5.heap.size) := h1; omega)
      replace hO6 := hO6.upd1 hU13 (by intro h1; have h3 : ((w5.heap.size ≤ pb12 ∧ pb12 ≠ pb6) ∧ pb12 < w6.heap.size) := h1; omega)
      replace hp7 := hp7.upd1 hU13 (by omega)
      replace hb8 := hb8.upd1 hU13 (by omega)
      replace hO12 := hO12.upd1 hU13 (by intro h1; have h3 : ((w11.heap.size ≤ pb12 ∧ pb12 ≠ pb12) ∧ pb12 < w12.heap.size) := h1; omega)
      have hbl_hp13 := hp13.lt
      have hgle := ghead_le (bs := bs) (p := 0) (by omega)
      refine Wl_v (r_mv (v := .tuple #[.agg #[.int .i64 ((ghead bs 0).1.1), .int .i64 ((ghead bs 0).1.2.1), .int .u32 ((ghead bs 0).1.2.2.1), .bool (decide ((ghead bs 0).1.2.2.2 = true))], .int .i64 ((ghead bs 0).2.2)]) rfl) ?_
      refine Wl_v (r_ext (v := .agg #[.int .i64 ((ghead bs 0).1.1), .int .i64 ((ghead bs 0).1.2.1), .int .u32 ((ghead bs 0).1.2.2.1), .bool (decide ((ghead bs 0).1.2.2.2 = true))]) rfl rfl) ?_
      refine Wl_v (r_ext (v := .int .i64 ((ghead bs 0).2.2)) rfl rfl) ?_
      refine Wl_alloc (cs := [.int .i64 0, .int .i64 0, .int .u32 0, .bool false]) Try.zeroValue34 rfl ?_
      intro B14 w14 hB14 hU14 hzz14 hb14
      have hzw14 := hU14.size
      replace hr := hr.upd0 hU14
      replace hb := hb.upd0 hU14
      replace HU := HU.trans0 hU14
      replace hb1 := hb1.upd0 hU14
      replace hO3 := hO3.upd0 hU14
      replace hO5 := hO5.upd0 hU14
      replace hO6 := hO6.upd0 hU14
      replace hp7 := hp7.upd0 hU14
      replace hb8 := hb8.upd0 hU14
      replace hO12 := hO12.upd0 hU14
      replace hp13 := hp13.upd0 hU14
      refine Wl_storea (off := 0) (vs := [.int .i64 ((ghead bs 0).1.1), .int .i64 ((ghead bs 0).1.2.1), .int .u32 ((ghead bs 0).1.2.2.1), .bool (decide ((ghead bs 0).1.2.2.2 = true))]) (cs' := [.int .i64 ((ghead bs 0).1.1), .int .i64 ((ghead bs 0).1.2.1), .int .u32 ((ghead bs 0).1.2.2.1), .bool (decide ((ghead bs 0).1.2.2.2 = true))]) Try.sizeOf34 rfl rfl rfl (by simp only [List.mem_cons, List.not_mem_nil, or_false, forall_eq_or_imp, forall_eq]; exact ⟨rfl, rfl, rfl, rfl⟩) hb14 (by simp) rfl ?_
      intro w15 hU15 hzz15 hb14n
      replace hb14 := hb14n; clear hb14n
      have hzw15 := hU15.size
      replace hr := hr.upd1 hU15 (by intro h1; have h3 : B14 < w.heap.size := h1; omega)
      replace hb := hb.upd1 hU15 (by intro h1; have h3 : B14 < w.heap.size := h1; omega)
      replace HU := HU.trans1 hU15 (by show (False) ∨ w.heap.size ≤ B14; omega)
      replace hb1 := hb1.upd1 hU15 (by omega)
      replace hO3 := hO3.upd1 hU15 (by intro h1; have h3 : ((w2.heap.size ≤ B14) ∧ B14 < w3.heap.size) := h1; omega)
      replace hO5 := hO5.upd1 hU15 (by intro h1; have h3 : ((((((w3.heap.size ≤ B14) ∧ B14 < w4.heap.size)) ∨ B14 = w4.heap.size)) ∧ B14 < w5.heap.size) := h1; omega)
      replace hO6 := hO6.upd1 hU15 (by intro h1; have h3 : ((w5.heap.size ≤ B14 ∧ B14 ≠ pb6) ∧ B14 < w6.heap.size) := h1; omega)
      replace hp7 := hp7.upd1 hU15 (by omega)
      replace hb8 := hb8.upd1 hU15 (by omega)
      replace hO12 := hO12.upd1 hU15 (by intro h1; have h3 : ((w11.heap.size ≤ B14 ∧ B14 ≠ pb12) ∧ B14 < w12.heap.size) := h1; omega)
      replace hp13 := hp13.upd1 hU15 (by omega)
      refine Wl_v (r_as (v := .int .i64 ((ghead bs 0).2.2)) rfl) ?_
      refine Wl_nil ?_
      refine W_seq ?_
      refine W_seq ?_
      refine W_region ?_
      refine Wl_v (r_mv (v := .int .i64 ((ghead bs 0).2.2)) rfl) ?_
      refine Wl_v (r_ne rfl rfl) ?_
      refine Wl_nil ?_
      by_cases q6 : ((ghead bs 0).2.2) ≠ 0
      · have hge := ghead_err q6
        rw [decide_eq_true q6]
        refine W_cond_t rfl ?_
        refine W_seq ?_
        refine W_region ?_
        refine Wl_v (r_mv (v := .pointer (some ⟨pb12, 0, none⟩)) rfl) ?_
        refine Wl_call (r_call1 rfl Try.call28 rfl) (at_spec _ hp13 (by omega) (by omega) (by omega)) ?_
        rintro v w16 ⟨rfl, hU16⟩
        have hzw16 := hU16.size
        replace hr := hr.upd0 hU16
        replace hb := hb.upd0 hU16
        replace HU := HU.trans0 hU16
        replace hb1 := hb1.upd0 hU16
        replace hO3 := hO3.upd0 hU16
        replace hO5 := hO5.upd0 hU16
        replace hO6 := hO6.upd0 hU16
        replace hp7 := hp7.upd0 hU16
        replace hb8 := hb8.upd0 hU16
        replace hO12 := hO12.upd0 hU16
        replace hp13 := hp13.upd0 hU16
        replace hb14 := hb14.upd0 hU16
        refine Wl_v (r_eq rfl rfl) ?_
        refine Wl_v (r_mv (v := .bool (decide ((((ghead bs 0).2.1 : Nat) : Int) = 0))) rfl) ?_
        have q7 : (((ghead bs 0).2.1 : Nat) : Int) = 0 := (by omega)
        rw [decide_eq_true q7]
        refine Wl_guard_t rfl ?_
        refine Wl_call (r_call0 rfl Try.call16 ) (known_spec _ ) ?_
        rintro v w17 ⟨rfl, hU17⟩
        have hzw17 := hU17.size
        replace hr := hr.upd0 hU17
        replace hb := hb.upd0 hU17
        replace HU := HU.trans0 hU17
        replace hb1 := hb1.upd0 hU17
        replace hO3 := hO3.upd0 hU17
        replace hO5 := hO5.upd0 hU17
        replace hO6 := hO6.upd0 hU17
        replace hp7 := hp7.upd0 hU17
        replace hb8 := hb8.upd0 hU17
        replace hO12 := hO12.upd0 hU17
        replace hp13 := hp13.upd0 hU17
        replace hb14 := hb14.upd0 hU17
        refine Wl_v (r_pick_t (v := .bool true) rfl rfl) ?_
        refine Wl_v (r_as (v := .bool true) rfl) ?_
        refine Wl_nil ?_
        refine W_ret ?_
        refine ret_end (v := .bool true) rfl (res1 Try.results7 rfl) ?_
        exact ⟨_, rfl, rfl, HU⟩
      · have hgb := ghead_back bb (Classical.not_not.1 q6)
        have hgw := hgb.1.low
        have hgw2 := hgb.1.2.1
        have hgs2 := hgb.1.2.2.1
        rw [decide_eq_false q6]
        refine W_cond_f rfl ?_
        refine W_skip ?_
        refine W_seq ?_
        refine W_region ?_
        refine Wl_v (r_loada (b := B14) (off := 0) (cs := [.int .i64 ((ghead bs 0).1.1), .int .i64 ((ghead bs 0).1.2.1), .int .u32 ((ghead bs 0).1.2.2.1), .bool (decide ((ghead bs 0).1.2.2.2 = true))]) Try.isAgg34 Try.sizeOf34 rfl rfl (fun j hj => by rw [hb14.cell]; match j, hj with | 0, _ => rfl | 1, _ => rfl | 2, _ => rfl | 3, _ => rfl)) ?_
        refine Wl_call (r_call1 rfl Try.call18 rfl) (put_ok (sm := (ghead bs 0).1.2.2.2) _ (by omega) (by omega) (by omega) hgb.1) ?_
        rintro v w18 ⟨a18, m18, c18, rfl, hO18, hm_18, hU18⟩
        have hzw18 := hU18.size
        replace hr := hr.upd0 hU18
        replace hb := hb.upd0 hU18
        replace HU := HU.trans0 hU18
        replace hb1 := hb1.upd0 hU18
        replace hO3 := hO3.upd0 hU18
        replace hO5 := hO5.upd0 hU18
        replace hO6 := hO6.upd0 hU18
        replace hp7 := hp7.upd0 hU18
        replace hb8 := hb8.upd0 hU18
        replace hO12 := hO12.upd0 hU18
        replace hp13 := hp13.upd0 hU18
        replace hb14 := hb14.upd0 hU18
        replace hO18 := hO18.tight
        have hl_hO18 := ilen hO18.sl
        have hc_hO18 := hO18.sl.cap.1
        refine Wl_v (r_mv (v := .tuple #[.slice a18 m18 c18, .int .i64 0]) rfl) ?_
        refine Wl_v (r_ext (v := .slice a18 m18 c18) rfl rfl) ?_
        refine Wl_v (r_ext (v := .int .i64 0) rfl rfl) ?_
        refine Wl_v (r_as (v := .slice a18 m18 c18) rfl) ?_
        refine Wl_v (r_as (v := .int .i64 0) rfl) ?_
        refine Wl_nil ?_
        refine W_seq ?_
        refine W_region ?_
        refine Wl_v (r_mv (v := .int .i64 0) rfl) ?_
        refine Wl_v (v := .bool true) (r_eq (a := 0) (b := 0) rfl rfl) ?_
        refine Wl_v (r_mv (v := .bool true) rfl) ?_
        refine Wl_guard_t rfl ?_
        refine Wl_v (r_mv (v := .slice a18 m18 c18) rfl) ?_
        refine Wl_guard_t rfl ?_
        refine Wl_v (r_len Try.underlying35 rfl) ?_
        refine Wl_guard_t rfl ?_
        refine Wl_v (r_mv (v := .pointer (some ⟨pb12, 0, none⟩)) rfl) ?_
        refine Wl_guard_t rfl ?_
        refine Wl_call (r_call1 rfl Try.call28 rfl) (at_spec _ hp13 (by omega) (by omega) (by omega)) ?_
        rintro v w19 ⟨rfl, hU19⟩
        have hzw19 := hU19.size
        replace hr := hr.upd0 hU19
        replace hb := hb.upd0 hU19
        replace HU := HU.trans0 hU19
        replace hb1 := hb1.upd0 hU19
        replace hO3 := hO3.upd0 hU19
        replace hO5 := hO5.upd0 hU19
        replace hO6 := hO6.upd0 hU19
        replace hp7 := hp7.upd0 hU19
        replace hb8 := hb8.upd0 hU19
        replace hO12 := hO12.upd0 hU19
        replace hp13 := hp13.upd0 hU19
        replace hb14 := hb14.upd0 hU19
        replace hO18 := hO18.upd0 hU19
        refine Wl_guard_t rfl ?_
        refine Wl_v (r_eq rfl rfl) ?_
        refine Wl_v (r_pick_t (v := .bool (decide (((m18 : Nat) : Int) = (((ghead bs 0).2.1 : Nat) : Int)))) rfl rfl) ?_
        refine Wl_v (r_mv (v := .bool (decide (((m18 : Nat) : Int) = (((ghead bs 0).2.1 : Nat) : Int)))) rfl) ?_
        have q8 : ((m18 : Nat) : Int) = (((ghead bs 0).2.1 : Nat) : Int) := (by have h9 := congrArg List.length hgb.2.2.2.1; rw [List.length_take] at h9; omega)
        rw [decide_eq_true q8]
        refine Wl_guard_t rfl ?_
        refine Wl_v (r_mv (v := .slice a18 m18 c18) rfl) ?_
        refine Wl_guard_t rfl ?_
        refine Wl_v (r_len Try.underlying35 rfl) ?_
        refine Wl_guard_t rfl ?_
        refine Wl_v (r_mv (v := .slice a n c) rfl) ?_
        refine Wl_guard_t rfl ?_
        refine Wl_v (r_len Try.underlying35 rfl) ?_
        refine Wl_guard_t rfl ?_
        refine Wl_v (r_le rfl rfl) ?_
        refine Wl_v (r_pick_t (v := .bool (decide (((m18 : Nat) : Int) ≤ ((n : Nat) : Int)))) rfl rfl) ?_
        refine Wl_v (r_mv (v := .bool (decide (((m18 : Nat) : Int) ≤ ((n : Nat) : Int)))) rfl) ?_
        have q9 : ((m18 : Nat) : Int) ≤ ((n : Nat) : Int) := (by have h9 := congrArg List.length hgb.2.2.2.1; rw [List.length_take] at h9; omega)
        rw [decide_eq_true q9]
        refine Wl_guard_t rfl ?_
        refine Wl_v (r_mv (v := .slice a18 m18 c18) rfl) ?_
        refine Wl_guard_t rfl ?_
        refine Wl_v (r_mv (v := .slice a n c) rfl) ?_
        refine Wl_guard_t rfl ?_
        refine Wl_v (r_mv (v := .slice a18 m18 c18) rfl) ?_
        refine Wl_guard_t rfl ?_
        refine Wl_v (r_len Try.underlying35 rfl) ?_
        refine Wl_guard_t rfl ?_
        refine Wl_v (r_slicehn (h' := m18) Try.underlying35 Try.sizeOf5 rfl rfl (by omega) (by omega)) ?_
        have hT20 := Sl.cuth (n := m18) hb (by omega)
        have hl_hT20 := ilen hT20
        have hc_hT20 := hT20.cap.1
        refine Wl_guard_t rfl ?_
        refine Wl_call (r_call2 rfl Try.call21 rfl rfl) (same_spec _ hO18.sl.any hT20.any (by rw [hgb.2.2.2.1]; exact byt_take bb _) (byt_take bb _)) ?_
        rintro v w21 ⟨rfl, hU21⟩
        have hzw21 := hU21.size
        replace hr := hr.upd0 hU21
        replace hb := hb.upd0 hU21
        replace HU := HU.trans0 hU21
        replace hb1 := hb1.upd0 hU21
        replace hO3 := hO3.upd0 hU21
        replace hO5 := hO5.upd0 hU21
        replace hO6 := hO6.upd0 hU21
        replace hp7 := hp7.upd0 hU21
        replace hb8 := hb8.upd0 hU21
        replace hO12 := hO12.upd0 hU21
        replace hp13 := hp13.upd0 hU21
        replace hb14 := hb14.upd0 hU21
        replace hO18 := hO18.upd0 hU21
        replace hT20 := hT20.upd0 hU21
        refine Wl_v (r_pick_t (v := .bool (decide ((henc ((ghead bs 0).1.1) ((ghead bs 0).1.2.1) ((ghead bs 0).1.2.2.1) ((ghead bs 0).1.2.2.2)) = (bs.take m18)))) rfl rfl) ?_
        refine Wl_v (r_mv (v := .bool (decide ((henc ((ghead bs 0).1.1) ((ghead bs 0).1.2.1) ((ghead bs 0).1.2.2.1) ((ghead bs 0).1.2.2.2)) = (bs.take m18)))) rfl) ?_
        have q10 : (henc ((ghead bs 0).1.1) ((ghead bs 0).1.2.1) ((ghead bs 0).1.2.2.1) ((ghead bs 0).1.2.2.2)) = (bs.take m18) := (by have h9 := congrArg List.length hgb.2.2.2.1; rw [List.length_take] at h9; rw [hgb.2.2.2.1]; exact t_eq (by omega))
        rw [decide_eq_true q10]
        refine Wl_guard_t rfl ?_
        refine Wl_call (r_call0 rfl Try.call16 ) (known_spec _ ) ?_
        rintro v w22 ⟨rfl, hU22⟩
        have hzw22 := hU22.size
        replace hr := hr.upd0 hU22
        replace hb := hb.upd0 hU22
        replace HU := HU.trans0 hU22
        replace hb1 := hb1.upd0 hU22
        replace hO3 := hO3.upd0 hU22
        replace hO5 := hO5.upd0 hU22
        replace hO6 := hO6.upd0 hU22
        replace hp7 := hp7.upd0 hU22
        replace hb8 := hb8.upd0 hU22
        replace hO12 := hO12.upd0 hU22
        replace hp13 := hp13.upd0 hU22
        replace hb14 := hb14.upd0 hU22
        replace hO18 := hO18.upd0 hU22
        replace hT20 := hT20.upd0 hU22
        refine Wl_v (r_pick_t (v := .bool true) rfl rfl) ?_
        refine Wl_v (r_as (v := .bool true) rfl) ?_
        refine Wl_nil ?_
        refine W_ret ?_
        refine ret_end (v := .bool true) rfl (res1 Try.results7 rfl) ?_
        exact ⟨_, rfl, rfl, HU⟩
    · refine Wl_call (r_call1 rfl Try.call26 rfl) (get_at (wz := wz) (dn := dn) (sm := sm) (q := (henc wz sz dn sm).length) (er := 0) (sz := sz) (p := 0) _ hp6 (hO6.sl.cur (by intro h1; have h3 : ((w5.heap.size ≤ pb6 ∧ pb6 ≠ pb6) ∧ pb6 < w6.heap.size) := h1; first | omega | simp at h3)) (byt_app (henc_byt hv_ rdn.1 rdn.2) br) (by omega) (by omega) (ghead_pos hv_ rdn q2 rb)) ?_
      rintro v w23 ⟨rfl, hp23, hU23⟩
      have hzw23 := hU23.size
      replace hr := hr.upd1 hU23 (by intro h1; have h3 : pb6 < w.heap.size := h1; omega)
      replace hb := hb.upd1 hU23 (by intro h1; have h3 : pb6 < w.heap.size := h1; omega)
      replace HU := HU.trans1 hU23 (by show (False) ∨ w.heap.size ≤ pb6; omega)
      replace hb1 := hb1.upd1 hU23 (by omega)
      replace hO3 := hO3.upd1 hU23 (by intro h1; have h3 : ((w2.heap.size ≤ pb6) ∧ pb6 < w3.heap.size) := h1; omega)
      replace hO5 := hO5.upd1 hU23 (by intro h1; have h3 : ((((((w3.heap.size ≤ pb6) ∧ pb6 < w4.heap.size)) ∨ pb6 = w4.heap.size)) ∧ pb6 < w5.heap.size) := h1; omega)
      replace hO6 := hO6.upd1 hU23 (by intro h1; have h3 : ((w5.heap.size ≤ pb6 ∧ pb6 ≠ pb6) ∧ pb6 < w6.heap.size) := h1; omega)
      have hbl_hp23 := hp23.lt
      refine Wl_v (r_mv (v := .tuple #[.agg #[.int .i64 wz, .int .i64 sz, .int .u32 dn, .bool (decide (sm = true))], .int .i64 0]) rfl) ?_
      refine Wl_v (r_ext (v := .agg #[.int .i64 wz, .int .i64 sz, .int .u32 dn, .bool (decide (sm = true))]) rfl rfl) ?_
      refine Wl_v (r_ext (v := .int .i64 0) rfl rfl) ?_
      refine Wl_alloc (cs := [.int .i64 0, .int .i64 0, .int .u32 0, .bool false]) Try.zeroValue34 rfl ?_
      intro B24 w24 hB24 hU24 hzz24 hb24
      have hzw24 := hU24.size
      replace hr := hr.upd0 hU24
      replace hb := hb.upd0 hU24
      replace HU := HU.trans0 hU24
      replace hb1 := hb1.upd0 hU24
      replace hO3 := hO3.upd0 hU24
      replace hO5 := hO5.upd0 hU24
      replace hO6 := hO6.upd0 hU24
      replace hp23 := hp23.upd0 hU24
      refine Wl_storea (off := 0) (vs := [.int .i64 wz, .int .i64 sz, .int .u32 dn, .bool (decide (sm = true))]) (cs' := [.int .i64 wz, .int .i64 sz, .int .u32 dn, .bool (decide (sm = true))]) Try.sizeOf34 rfl rfl rfl (by simp only [List.mem_cons, List.not_mem_nil, or_false, forall_eq_or_imp, forall_eq]; exact ⟨rfl, rfl, rfl, rfl⟩) hb24 (by simp) rfl ?_
      intro w25 hU25 hzz25 hb24n
      replace hb24 := hb24n; clear hb24n
      have hzw25 := hU25.size
      replace hr := hr.upd1 hU25 (by intro h1; have h3 : B24 < w.heap.size := h1; omega)
      replace hb := hb.upd1 hU25 (by intro h1; have h3 : B24 < w.heap.size := h1; omega)
      replace HU := HU.trans1 hU25 (by show (False) ∨ w.heap.size ≤ B24; omega)
      replace hb1 := hb1.upd1 hU25 (by omega)
      replace hO3 := hO3.upd1 hU25 (by intro h1; have h3 : ((w2.heap.size ≤ B24) ∧ B24 < w3.heap.size) := h1; omega)
      replace hO5 := hO5.upd1 hU25 (by intro h1; have h3 : ((((((w3.heap.size ≤ B24) ∧ B24 < w4.heap.size)) ∨ B24 = w4.heap.size)) ∧ B24 < w5.heap.size) := h1; omega)
      replace hO6 := hO6.upd1 hU25 (by intro h1; have h3 : ((w5.heap.size ≤ B24 ∧ B24 ≠ pb6) ∧ B24 < w6.heap.size) := h1; omega)
      replace hp23 := hp23.upd1 hU25 (by omega)
      refine Wl_v (r_as (v := .int .i64 0) rfl) ?_
      refine Wl_nil ?_
      refine W_seq ?_
      refine W_seq ?_
      refine W_region ?_
      refine Wl_v (r_fld Try.underlying34 rfl Try.sizeOf3 rfl rfl) ?_
      refine Wl_load (v := .int .i64 sz) Try.isAgg3 rfl hb1 rfl ?_
      refine Wl_v (r_lt rfl rfl) ?_
      refine Wl_nil ?_
      have q11 : ¬ (sz < 0) := q2
      rw [decide_eq_false q11]
      refine W_cond_f rfl ?_
      refine W_skip ?_
      refine W_seq ?_
      refine W_region ?_
      refine Wl_v (r_mv (v := .int .i64 0) rfl) ?_
      refine Wl_v (v := .bool false) (r_ne (a := 0) (b := 0) rfl rfl) ?_
      refine Wl_v (r_mv (v := .bool false) rfl) ?_
      refine Wl_guard_t rfl ?_
      refine Wl_v (r_mv (v := .int .i64 0) rfl) ?_
      refine Wl_guard_t rfl ?_
      refine Wl_v (v := .bool false) (r_ne (a := 0) (b := 0) rfl rfl) ?_
      refine Wl_v (r_pick_f (v := .bool false) rfl rfl) ?_
      refine Wl_v (r_mv (v := .bool false) rfl) ?_
      refine Wl_guard_t rfl ?_
      refine Wl_v (r_loada (b := B24) (off := 0) (cs := [.int .i64 wz, .int .i64 sz, .int .u32 dn, .bool (decide (sm = true))]) Try.isAgg34 Try.sizeOf34 rfl rfl (fun j hj => by rw [hb24.cell]; match j, hj with | 0, _ => rfl | 1, _ => rfl | 2, _ => rfl | 3, _ => rfl)) ?_
      refine Wl_guard_t rfl ?_
      refine Wl_v (r_loada (b := B1) (off := 0) (cs := [.int .i64 wz, .int .i64 sz, .int .u32 dn, .bool (decide (sm = true))]) Try.isAgg34 Try.sizeOf34 rfl rfl (fun j hj => by rw [hb1.cell]; match j, hj with | 0, _ => rfl | 1, _ => rfl | 2, _ => rfl | 3, _ => rfl)) ?_
      refine Wl_guard_t rfl ?_
      refine Wl_v (r_neag (pp := wz = wz ∧ sz = sz ∧ dn = dn ∧ (decide (sm = true)) = (decide (sm = true))) Try.underlying34 (by kernel_rfl) (by kernel_rfl) rfl rfl (fun w => eqf_int (by decide) Try.underlying3 Try.isAgg3 rfl rfl (fun w => eqf_int (by decide) Try.underlying3 Try.isAgg3 rfl rfl (fun w => eqf_int (by decide) Try.underlying32 Try.isAgg32 rfl rfl (fun w => eqf_bool (by decide) Try.underlying4 Try.isAgg4 rfl rfl (fun w => eqf_nil))))) (by simp [Bool.decide_and])) ?_
      refine Wl_v (r_pick_f (v := .bool (!decide (wz = wz ∧ sz = sz ∧ dn = dn ∧ (decide (sm = true)) = (decide (sm = true))))) rfl rfl) ?_
      refine Wl_v (r_mv (v := .bool (!decide (wz = wz ∧ sz = sz ∧ dn = dn ∧ (decide (sm = true)) = (decide (sm = true))))) rfl) ?_
      have q12 : wz = wz ∧ sz = sz ∧ dn = dn ∧ (decide (sm = true)) = (decide (sm = true)) := ⟨rfl, rfl, rfl, rfl⟩
      rw [decide_eq_true q12]
      simp only [Bool.not_true, Bool.not_false]
      refine Wl_guard_t rfl ?_
      refine Wl_v (r_mv (v := .pointer (some ⟨pb6, 0, none⟩)) rfl) ?_
      refine Wl_guard_t rfl ?_
      refine Wl_call (r_call1 rfl Try.call28 rfl) (at_spec _ hp23 (by omega) (by omega) (by omega)) ?_
      rintro v w26 ⟨rfl, hU26⟩
      have hzw26 := hU26.size
      replace hr := hr.upd0 hU26
      replace hb := hb.upd0 hU26
      replace HU := HU.trans0 hU26
      replace hb1 := hb1.upd0 hU26
      replace hO3 := hO3.upd0 hU26
      replace hO5 := hO5.upd0 hU26
      replace hO6 := hO6.upd0 hU26
      replace hp23 := hp23.upd0 hU26
      replace hb24 := hb24.upd0 hU26
      refine Wl_guard_t rfl ?_
      refine Wl_v (r_mv (v := .slice a3 m3 c3) rfl) ?_
      refine Wl_guard_t rfl ?_
      refine Wl_v (r_len Try.underlying35 rfl) ?_
      refine Wl_guard_t rfl ?_
      refine Wl_v (r_ne rfl rfl) ?_
      refine Wl_v (r_pick_f (v := .bool (decide (((((henc wz sz dn sm).length) : Nat) : Int) ≠ ((m3 : Nat) : Int)))) rfl rfl) ?_
      refine Wl_nil ?_
      have q13 : ¬ (((((henc wz sz dn sm).length) : Nat) : Int) ≠ ((m3 : Nat) : Int)) := (by omega)
      rw [decide_eq_false q13]
      refine W_cond_f rfl ?_
      refine W_skip ?_
      refine W_seq ?_
      refine W_region ?_
      refine Wl_v (r_mv (v := .slice a n c) rfl) ?_
      refine Wl_call (r_call1 rfl Try.call23 rfl) (new_spec _ hb.any (by omega)) ?_
      rintro v w27 ⟨pb27, a27, c27, rfl, hp27, hO27, hpg_27, hU27⟩
      have hzw27 := hU27.size
      replace hr := hr.upd0 hU27
      replace hb := hb.upd0 hU27
      replace HU := HU.trans0 hU27
      replace hb1 := hb1.upd0 hU27
      replace hO3 := hO3.upd0 hU27
      replace hO5 := hO5.upd0 hU27
      replace hO6 := hO6.upd0 hU27
      replace hp23 := hp23.upd0 hU27
      replace hb24 := hb24.upd0 hU27
      have hbl_hp27 := hp27.lt
      replace hO27 := hO27.tight
      have hl_hO27 := ilen hO27.sl
      have hc_hO27 := hO27.sl.cap.1
      refine Wl_v (r_as (v := .pointer (some ⟨pb27, 0, none⟩)) rfl) ?_
      refine Wl_nil ?_
      refine W_seq ?_
      refine W_region ?_
      refine Wl_v (r_mv (v := .pointer (some ⟨pb27, 0, none⟩)) rfl) ?_
      refine Wl_call (r_call1 rfl Try.call26 rfl) (get_spec (p := 0) _ hp27 (hO27.sl.cur (by intro h1; have h3 : ((w26.heap.size ≤ pb27 ∧ pb27 ≠ pb27) ∧ pb27 < w27.heap.size) := h1; first | omega | simp at h3)) bb (by omega) (by omega)) ?_
      rintro v w28 ⟨rfl, hp28, hU28⟩
      have hzw28 := hU28.size
      replace hr := hr.upd1 hU28 (by intro h1; have h3 : pb27 < w.heap.size := h1; omega)
      replace hb := hb.upd1 hU28 (by intro h1; have h3 : pb27 < w.heap.size := h1; omega)
      replace HU := HU.trans1 hU28 (by show (False) ∨ w.heap.size ≤ pb27; omega)
      replace hb1 := hb1.upd1 hU28 (by omega)
      replace hO3 := hO3.upd1 hU28 (by intro h1; have h3 : ((w2.heap.size ≤ pb27) ∧ pb27 < w3.heap.size) := h1; omega)
      replace hO5 := hO5.upd1 hU28 (by intro h1; have h3 : ((((((w3.heap.size ≤ pb27) ∧ pb27 < w4.heap.size)) ∨ pb27 = w4.heap.size)) ∧ pb27 < w5.heap.size) := h1; omega)
      replace hO6 := hO6.upd1 hU28 (by intro h1; have h3 : ((w5.heap.size ≤ pb27 ∧ pb27 ≠ pb6) ∧ pb27 < w6.heap.size) := h1; omega)
      replace hp23 := hp23.upd1 hU28 (by omega)
      replace hb24 := hb24.upd1 hU28 (by omega)
      replace hO27 := hO27.upd1 hU28 (by intro h1; have h3 : ((w26.heap.size ≤ pb27 ∧ pb27 ≠ pb27) ∧ pb27 < w27.heap.size) := h1; omega)
      have hbl_hp28 := hp28.lt
      have hgle := ghead_le (bs := bs) (p := 0) (by omega)
      refine Wl_v (r_mv (v := .tuple #[.agg #[.int .i64 ((ghead bs 0).1.1), .int .i64 ((ghead bs 0).1.2.1), .int .u32 ((ghead bs 0).1.2.2.1), .bool (decide ((ghead bs 0).1.2.2.2 = true))], .int .i64 ((ghead bs 0).2.2)]) rfl) ?_
      refine Wl_v (r_ext (v := .agg #[.int .i64 ((ghead bs 0).1.1), .int .i64 ((ghead bs 0).1.2.1), .int .u32 ((ghead bs 0).1.2.2.1), .bool (decide ((ghead bs 0).1.2.2.2 = true))]) rfl rfl) ?_
      refine Wl_v (r_ext (v := .int .i64 ((ghead bs 0).2.2)) rfl rfl) ?_
      refine Wl_alloc (cs := [.int .i64 0, .int .i64 0, .int .u32 0, .bool false]) Try.zeroValue34 rfl ?_
      intro B29 w29 hB29 hU29 hzz29 hb29
      have hzw29 := hU29.size
      replace hr := hr.upd0 hU29
      replace hb := hb.upd0 hU29
      replace HU := HU.trans0 hU29
      replace hb1 := hb1.upd0 hU29
      replace hO3 := hO3.upd0 hU29
      replace hO5 := hO5.upd0 hU29
      replace hO6 := hO6.upd0 hU29
      replace hp23 := hp23.upd0 hU29
      replace hb24 := hb24.upd0 hU29
      replace hO27 := hO27.upd0 hU29
      replace hp28 := hp28.upd0 hU29
      refine Wl_storea (off := 0) (vs := [.int .i64 ((ghead bs 0).1.1), .int .i64 ((ghead bs 0).1.2.1), .int .u32 ((ghead bs 0).1.2.2.1), .bool (decide ((ghead bs 0).1.2.2.2 = true))]) (cs' := [.int .i64 ((ghead bs 0).1.1), .int .i64 ((ghead bs 0).1.2.1), .int .u32 ((ghead bs 0).1.2.2.1), .bool (decide ((ghead bs 0).1.2.2.2 = true))]) Try.sizeOf34 rfl rfl rfl (by simp only [List.mem_cons, List.not_mem_nil, or_false, forall_eq_or_imp, forall_eq]; exact ⟨rfl, rfl, rfl, rfl⟩) hb29 (by simp) rfl ?_
      intro w30 hU30 hzz30 hb29n
      replace hb29 := hb29n; clear hb29n
      have hzw30 := hU30.size
      replace hr := hr.upd1 hU30 (by intro h1; have h3 : B29 < w.heap.size := h1; omega)
      replace hb := hb.upd1 hU30 (by intro h1; have h3 : B29 < w.heap.size := h1; omega)
      replace HU := HU.trans1 hU30 (by show (False) ∨ w.heap.size ≤ B29; omega)
      replace hb1 := hb1.upd1 hU30 (by omega)
      replace hO3 := hO3.upd1 hU30 (by intro h1; have h3 : ((w2.heap.size ≤ B29) ∧ B29 < w3.heap.size) := h1; omega)
      replace hO5 := hO5.upd1 hU30 (by intro h1; have h3 : ((((((w3.heap.size ≤ B29) ∧ B29 < w4.heap.size)) ∨ B29 = w4.heap.size)) ∧ B29 < w5.heap.size) := h1; omega)
      replace hO6 := hO6.upd1 hU30 (by intro h1; have h3 : ((w5.heap.size ≤ B29 ∧ B29 ≠ pb6) ∧ B29 < w6.heap.size) := h1; omega)
      replace hp23 := hp23.upd1 hU30 (by omega)
      replace hb24 := hb24.upd1 hU30 (by omega)
      replace hO27 := hO27.upd1 hU30 (by intro h1; have h3 : ((w26.heap.size ≤ B29 ∧ B29 ≠ pb27) ∧ B29 < w27.heap.size) := h1; omega)
      replace hp28 := hp28.upd1 hU30 (by omega)
      refine Wl_v (r_as (v := .int .i64 ((ghead bs 0).2.2)) rfl) ?_
      refine Wl_nil ?_
      refine W_seq ?_
      refine W_seq ?_
      refine W_region ?_
      refine Wl_v (r_mv (v := .int .i64 ((ghead bs 0).2.2)) rfl) ?_
      refine Wl_v (r_ne rfl rfl) ?_
      refine Wl_nil ?_
      by_cases q14 : ((ghead bs 0).2.2) ≠ 0
      · have hge := ghead_err q14
        rw [decide_eq_true q14]
        refine W_cond_t rfl ?_
        refine W_seq ?_
        refine W_region ?_
        refine Wl_v (r_mv (v := .pointer (some ⟨pb27, 0, none⟩)) rfl) ?_
        refine Wl_call (r_call1 rfl Try.call28 rfl) (at_spec _ hp28 (by omega) (by omega) (by omega)) ?_
        rintro v w31 ⟨rfl, hU31⟩
        have hzw31 := hU31.size
        replace hr := hr.upd0 hU31
        replace hb := hb.upd0 hU31
        replace HU := HU.trans0 hU31
        replace hb1 := hb1.upd0 hU31
        replace hO3 := hO3.upd0 hU31
        replace hO5 := hO5.upd0 hU31
        replace hO6 := hO6.upd0 hU31
        replace hp23 := hp23.upd0 hU31
        replace hb24 := hb24.upd0 hU31
        replace hO27 := hO27.upd0 hU31
        replace hp28 := hp28.upd0 hU31
        replace hb29 := hb29.upd0 hU31
        refine Wl_v (r_eq rfl rfl) ?_
        refine Wl_v (r_mv (v := .bool (decide ((((ghead bs 0).2.1 : Nat) : Int) = 0))) rfl) ?_
        have q15 : (((ghead bs 0).2.1 : Nat) : Int) = 0 := (by omega)
        rw [decide_eq_true q15]
        refine Wl_guard_t rfl ?_
        refine Wl_call (r_call0 rfl Try.call16 ) (known_spec _ ) ?_
        rintro v w32 ⟨rfl, hU32⟩
        have hzw32 := hU32.size
        replace hr := hr.upd0 hU32
        replace hb := hb.upd0 hU32
        replace HU := HU.trans0 hU32
        replace hb1 := hb1.upd0 hU32
        replace hO3 := hO3.upd0 hU32
        replace hO5 := hO5.upd0 hU32
        replace hO6 := hO6.upd0 hU32
        replace hp23 := hp23.upd0 hU32
        replace hb24 := hb24.upd0 hU32
        replace hO27 := hO27.upd0 hU32
        replace hp28 := hp28.upd0 hU32
        replace hb29 := hb29.upd0 hU32
        refine Wl_v (r_pick_t (v := .bool true) rfl rfl) ?_
        refine Wl_v (r_as (v := .bool true) rfl) ?_
        refine Wl_nil ?_
        refine W_ret ?_
        refine ret_end (v := .bool true) rfl (res1 Try.results7 rfl) ?_
        exact ⟨_, rfl, rfl, HU⟩
      · have hgb := ghead_back bb (Classical.not_not.1 q14)
        have hgw := hgb.1.low
        have hgw2 := hgb.1.2.1
        have hgs2 := hgb.1.2.2.1
        rw [decide_eq_false q14]
        refine W_cond_f rfl ?_
        refine W_skip ?_
        refine W_seq ?_
        refine W_region ?_
        refine Wl_v (r_loada (b := B29) (off := 0) (cs := [.int .i64 ((ghead bs 0).1.1), .int .i64 ((ghead bs 0).1.2.1), .int .u32 ((ghead bs 0).1.2.2.1), .bool (decide ((ghead bs 0).1.2.2.2 = true))]) Try.isAgg34 Try.sizeOf34 rfl rfl (fun j hj => by rw [hb29.cell]; match j, hj with | 0, _ => rfl | 1, _ => rfl | 2, _ => rfl | 3, _ => rfl)) ?_
        refine Wl_call (r_call1 rfl Try.call18 rfl) (put_ok (sm := (ghead bs 0).1.2.2.2) _ (by omega) (by omega) (by omega) hgb.1) ?_
        rintro v w33 ⟨a33, m33, c33, rfl, hO33, hm_33, hU33⟩
        have hzw33 := hU33.size
        replace hr := hr.upd0 hU33
        replace hb := hb.upd0 hU33
        replace HU := HU.trans0 hU33
        replace hb1 := hb1.upd0 hU33
        replace hO3 := hO3.upd0 hU33
        replace hO5 := hO5.upd0 hU33
        replace hO6 := hO6.upd0 hU33
        replace hp23 := hp23.upd0 hU33
        replace hb24 := hb24.upd0 hU33
        replace hO27 := hO27.upd0 hU33
        replace hp28 := hp28.upd0 hU33
        replace hb29 := hb29.upd0 hU33
        replace hO33 := hO33.tight
        have hl_hO33 := ilen hO33.sl
        have hc_hO33 := hO33.sl.cap.1
        refine Wl_v (r_mv (v := .tuple #[.slice a33 m33 c33, .int .i64 0]) rfl) ?_
        refine Wl_v (r_ext (v := .slice a33 m33 c33) rfl rfl) ?_
        refine Wl_v (r_ext (v := .int .i64 0) rfl rfl) ?_
        refine Wl_v (r_as (v := .slice a33 m33 c33) rfl) ?_
        refine Wl_v (r_as (v := .int .i64 0) rfl) ?_
        refine Wl_nil ?_
        refine W_seq ?_
        refine W_region ?_
        refine Wl_v (r_mv (v := .int .i64 0) rfl) ?_
        refine Wl_v (v := .bool true) (r_eq (a := 0) (b := 0) rfl rfl) ?_
        refine Wl_v (r_mv (v := .bool true) rfl) ?_
        refine Wl_guard_t rfl ?_
        refine Wl_v (r_mv (v := .slice a33 m33 c33) rfl) ?_
        refine Wl_guard_t rfl ?_
        refine Wl_v (r_len Try.underlying35 rfl) ?_
        refine Wl_guard_t rfl ?_
        refine Wl_v (r_mv (v := .pointer (some ⟨pb27, 0, none⟩)) rfl) ?_
        refine Wl_guard_t rfl ?_
        refine Wl_call (r_call1 rfl Try.call28 rfl) (at_spec _ hp28 (by omega) (by omega) (by omega)) ?_
        rintro v w34 ⟨rfl, hU34⟩
        have hzw34 := hU34.size
        replace hr := hr.upd0 hU34
        replace hb := hb.upd0 hU34
        replace HU := HU.trans0 hU34
        replace hb1 := hb1.upd0 hU34
        replace hO3 := hO3.upd0 hU34
        replace hO5 := hO5.upd0 hU34
        replace hO6 := hO6.upd0 hU34
        replace hp23 := hp23.upd0 hU34
        replace hb24 := hb24.upd0 hU34
        replace hO27 := hO27.upd0 hU34
        replace hp28 := hp28.upd0 hU34
        replace hb29 := hb29.upd0 hU34
        replace hO33 := hO33.upd0 hU34
        refine Wl_guard_t rfl ?_
        refine Wl_v (r_eq rfl rfl) ?_
        refine Wl_v (r_pick_t (v := .bool (decide (((m33 : Nat) : Int) = (((ghead bs 0).2.1 : Nat) : Int)))) rfl rfl) ?_
        refine Wl_v (r_mv (v := .bool (decide (((m33 : Nat) : Int) = (((ghead bs 0).2.1 : Nat) : Int)))) rfl) ?_
        have q16 : ((m33 : Nat) : Int) = (((ghead bs 0).2.1 : Nat) : Int) := (by have h9 := congrArg List.length hgb.2.2.2.1; rw [List.length_take] at h9; omega)
        rw [decide_eq_true q16]
        refine Wl_guard_t rfl ?_
        refine Wl_v (r_mv (v := .slice a33 m33 c33) rfl) ?_
        refine Wl_guard_t rfl ?_
        refine Wl_v (r_len Try.underlying35 rfl) ?_
        refine Wl_guard_t rfl ?_
        refine Wl_v (r_mv (v := .slice a n c) rfl) ?_
        refine Wl_guard_t rfl ?_
        refine Wl_v (r_len Try.underlying35 rfl) ?_
        refine Wl_guard_t rfl ?_
        refine Wl_v (r_le rfl rfl) ?_
        refine Wl_v (r_pick_t (v := .bool (decide (((m33 : Nat) : Int) ≤ ((n : Nat) : Int)))) rfl rfl) ?_
        refine Wl_v (r_mv (v := .bool (decide (((m33 : Nat) : Int) ≤ ((n : Nat) : Int)))) rfl) ?_
        have q17 : ((m33 : Nat) : Int) ≤ ((n : Nat) : Int) := (by have h9 := congrArg List.length hgb.2.2.2.1; rw [List.length_take] at h9; omega)
        rw [decide_eq_true q17]
        refine Wl_guard_t rfl ?_
        refine Wl_v (r_mv (v := .slice a33 m33 c33) rfl) ?_
        refine Wl_guard_t rfl ?_
        refine Wl_v (r_mv (v := .slice a n c) rfl) ?_
        refine Wl_guard_t rfl ?_
        refine Wl_v (r_mv (v := .slice a33 m33 c33) rfl) ?_
        refine Wl_guard_t rfl ?_
        refine Wl_v (r_len Try.underlying35 rfl) ?_
        refine Wl_guard_t rfl ?_
        refine Wl_v (r_slicehn (h' := m33) Try.underlying35 Try.sizeOf5 rfl rfl (by omega) (by omega)) ?_
        have hT35 := Sl.cuth (n := m33) hb (by omega)
        have hl_hT35 := ilen hT35
        have hc_hT35 := hT35.cap.1
        refine Wl_guard_t rfl ?_
        refine Wl_call (r_call2 rfl Try.call21 rfl rfl) (same_spec _ hO33.sl.any hT35.any (by rw [hgb.2.2.2.1]; exact byt_take bb _) (byt_take bb _)) ?_
        rintro v w36 ⟨rfl, hU36⟩
        have hzw36 := hU36.size
        replace hr := hr.upd0 hU36
        replace hb := hb.upd0 hU36
        replace HU := HU.trans0 hU36
        replace hb1 := hb1.upd0 hU36
        replace hO3 := hO3.upd0 hU36
        replace hO5 := hO5.upd0 hU36
        replace hO6 := hO6.upd0 hU36
        replace hp23 := hp23.upd0 hU36
        replace hb24 := hb24.upd0 hU36
        replace hO27 := hO27.upd0 hU36
        replace hp28 := hp28.upd0 hU36
        replace hb29 := hb29.upd0 hU36
        replace hO33 := hO33.upd0 hU36
        replace hT35 := hT35.upd0 hU36
        refine Wl_v (r_pick_t (v := .bool (decide ((henc ((ghead bs 0).1.1) ((ghead bs 0).1.2.1) ((ghead bs 0).1.2.2.1) ((ghead bs 0).1.2.2.2)) = (bs.take m33)))) rfl rfl) ?_
        refine Wl_v (r_mv (v := .bool (decide ((henc ((ghead bs 0).1.1) ((ghead bs 0).1.2.1) ((ghead bs 0).1.2.2.1) ((ghead bs 0).1.2.2.2)) = (bs.take m33)))) rfl) ?_
        have q18 : (henc ((ghead bs 0).1.1) ((ghead bs 0).1.2.1) ((ghead bs 0).1.2.2.1) ((ghead bs 0).1.2.2.2)) = (bs.take m33) := (by have h9 := congrArg List.length hgb.2.2.2.1; rw [List.length_take] at h9; rw [hgb.2.2.2.1]; exact t_eq (by omega))
        rw [decide_eq_true q18]
        refine Wl_guard_t rfl ?_
        refine Wl_call (r_call0 rfl Try.call16 ) (known_spec _ ) ?_
        rintro v w37 ⟨rfl, hU37⟩
        have hzw37 := hU37.size
        replace hr := hr.upd0 hU37
        replace hb := hb.upd0 hU37
        replace HU := HU.trans0 hU37
        replace hb1 := hb1.upd0 hU37
        replace hO3 := hO3.upd0 hU37
        replace hO5 := hO5.upd0 hU37
        replace hO6 := hO6.upd0 hU37
        replace hp23 := hp23.upd0 hU37
        replace hb24 := hb24.upd0 hU37
        replace hO27 := hO27.upd0 hU37
        replace hp28 := hp28.upd0 hU37
        replace hb29 := hb29.upd0 hU37
        replace hO33 := hO33.upd0 hU37
        replace hT35 := hT35.upd0 hU37
        refine Wl_v (r_pick_t (v := .bool true) rfl rfl) ?_
        refine Wl_v (r_as (v := .bool true) rfl) ?_
        refine Wl_nil ?_
        refine W_ret ?_
        refine ret_end (v := .bool true) rfl (res1 Try.results7 rfl) ?_
        exact ⟨_, rfl, rfl, HU⟩
  · rw [decide_eq_false q1]
    refine W_cond_f rfl ?_
    refine W_skip ?_
    refine W_seq ?_
    refine W_region ?_
    refine Wl_v (r_mv (v := .slice a n c) rfl) ?_
    refine Wl_call (r_call1 rfl Try.call23 rfl) (new_spec _ hb.any (by omega)) ?_
    rintro v w38 ⟨pb38, a38, c38, rfl, hp38, hO38, hpg_38, hU38⟩
    have hzw38 := hU38.size
    replace hr := hr.upd0 hU38
    replace hb := hb.upd0 hU38
    replace HU := HU.trans0 hU38
    replace hb1 := hb1.upd0 hU38
    have hbl_hp38 := hp38.lt
    replace hO38 := hO38.tight
    have hl_hO38 := ilen hO38.sl
    have hc_hO38 := hO38.sl.cap.1
    refine Wl_v (r_as (v := .pointer (some ⟨pb38, 0, none⟩)) rfl) ?_
    refine Wl_nil ?_
    refine W_seq ?_
    refine W_region ?_
    refine Wl_v (r_mv (v := .pointer (some ⟨pb38, 0, none⟩)) rfl) ?_
    refine Wl_call (r_call1 rfl Try.call26 rfl) (get_spec (p := 0) _ hp38 (hO38.sl.cur (by intro h1; have h3 : ((w2.heap.size ≤ pb38 ∧ pb38 ≠ pb38) ∧ pb38 < w38.heap.size) := h1; first | omega | simp at h3)) bb (by omega) (by omega)) ?_
    rintro v w39 ⟨rfl, hp39, hU39⟩
    have hzw39 := hU39.size
    replace hr := hr.upd1 hU39 (by intro h1; have h3 : pb38 < w.heap.size := h1; omega)
    replace hb := hb.upd1 hU39 (by intro h1; have h3 : pb38 < w.heap.size := h1; omega)
    replace HU := HU.trans1 hU39 (by show (False) ∨ w.heap.size ≤ pb38; omega)
    replace hb1 := hb1.upd1 hU39 (by omega)
    replace hO38 := hO38.upd1 hU39 (by intro h1; have h3 : ((w2.heap.size ≤ pb38 ∧ pb38 ≠ pb38) ∧ pb38 < w38.heap.size) := h1; omega)
    have hbl_hp39 := hp39.lt
    have hgle := ghead_le (bs := bs) (p := 0) (by omega)
    refine Wl_v (r_mv (v := .tuple #[.agg #[.int .i64 ((ghead bs 0).1.1), .int .i64 ((ghead bs 0).1.2.1), .int .u32 ((ghead bs 0).1.2.2.1), .bool (decide ((ghead bs 0).1.2.2.2 = true))], .int .i64 ((ghead bs 0).2.2)]) rfl) ?_
    refine Wl_v (r_ext (v := .agg #[.int .i64 ((ghead bs 0).1.1), .int .i64 ((ghead bs 0).1.2.1), .int .u32 ((ghead bs 0).1.2.2.1), .bool (decide ((ghead bs 0).1.2.2.2 = true))]) rfl rfl) ?_
    refine Wl_v (r_ext (v := .int .i64 ((ghead bs 0).2.2)) rfl rfl) ?_
    refine Wl_alloc (cs := [.int .i64 0, .int .i64 0, .int .u32 0, .bool false]) Try.zeroValue34 rfl ?_
    intro B40 w40 hB40 hU40 hzz40 hb40
    have hzw40 := hU40.size
    replace hr := hr.upd0 hU40
    replace hb := hb.upd0 hU40
    replace HU := HU.trans0 hU40
    replace hb1 := hb1.upd0 hU40
    replace hO38 := hO38.upd0 hU40
    replace hp39 := hp39.upd0 hU40
    refine Wl_storea (off := 0) (vs := [.int .i64 ((ghead bs 0).1.1), .int .i64 ((ghead bs 0).1.2.1), .int .u32 ((ghead bs 0).1.2.2.1), .bool (decide ((ghead bs 0).1.2.2.2 = true))]) (cs' := [.int .i64 ((ghead bs 0).1.1), .int .i64 ((ghead bs 0).1.2.1), .int .u32 ((ghead bs 0).1.2.2.1), .bool (decide ((ghead bs 0).1.2.2.2 = true))]) Try.sizeOf34 rfl rfl rfl (by simp only [List.mem_cons, List.not_mem_nil, or_false, forall_eq_or_imp, forall_eq]; exact ⟨rfl, rfl, rfl, rfl⟩) hb40 (by simp) rfl ?_
    intro w41 hU41 hzz41 hb40n
    replace hb40 := hb40n; clear hb40n
    have hzw41 := hU41.size
    replace hr := hr.upd1 hU41 (by intro h1; have h3 : B40 < w.heap.size := h1; omega)
    replace hb := hb.upd1 hU41 (by intro h1; have h3 : B40 < w.heap.size := h1; omega)
    replace HU := HU.trans1 hU41 (by show (False) ∨ w.heap.size ≤ B40; omega)
    replace hb1 := hb1.upd1 hU41 (by omega)
    replace hO38 := hO38.upd1 hU41 (by intro h1; have h3 : ((w2.heap.size ≤ B40 ∧ B40 ≠ pb38) ∧ B40 < w38.heap.size) := h1; omega)
    replace hp39 := hp39.upd1 hU41 (by omega)
    refine Wl_v (r_as (v := .int .i64 ((ghead bs 0).2.2)) rfl) ?_
    refine Wl_nil ?_
    refine W_seq ?_
    refine W_seq ?_
    refine W_region ?_
    refine Wl_v (r_mv (v := .int .i64 ((ghead bs 0).2.2)) rfl) ?_
    refine Wl_v (r_ne rfl rfl) ?_
    refine Wl_nil ?_
    by_cases q19 : ((ghead bs 0).2.2) ≠ 0
    · have hge := ghead_err q19
      rw [decide_eq_true q19]
      refine W_cond_t rfl ?_
      refine W_seq ?_
      refine W_region ?_
      refine Wl_v (r_mv (v := .pointer (some ⟨pb38, 0, none⟩)) rfl) ?_
      refine Wl_call (r_call1 rfl Try.call28 rfl) (at_spec _ hp39 (by omega) (by omega) (by omega)) ?_
      rintro v w42 ⟨rfl, hU42⟩
      have hzw42 := hU42.size
      replace hr := hr.upd0 hU42
      replace hb := hb.upd0 hU42
      replace HU := HU.trans0 hU42
      replace hb1 := hb1.upd0 hU42
      replace hO38 := hO38.upd0 hU42
      replace hp39 := hp39.upd0 hU42
      replace hb40 := hb40.upd0 hU42
      refine Wl_v (r_eq rfl rfl) ?_
      refine Wl_v (r_mv (v := .bool (decide ((((ghead bs 0).2.1 : Nat) : Int) = 0))) rfl) ?_
      have q20 : (((ghead bs 0).2.1 : Nat) : Int) = 0 := (by omega)
      rw [decide_eq_true q20]
      refine Wl_guard_t rfl ?_
      refine Wl_call (r_call0 rfl Try.call16 ) (known_spec _ ) ?_
      rintro v w43 ⟨rfl, hU43⟩
      have hzw43 := hU43.size
      replace hr := hr.upd0 hU43
      replace hb := hb.upd0 hU43
      replace HU := HU.trans0 hU43
      replace hb1 := hb1.upd0 hU43
      replace hO38 := hO38.upd0 hU43
      replace hp39 := hp39.upd0 hU43
      replace hb40 := hb40.upd0 hU43
      refine Wl_v (r_pick_t (v := .bool true) rfl rfl) ?_
      refine Wl_v (r_as (v := .bool true) rfl) ?_
      refine Wl_nil ?_
      refine W_ret ?_
      refine ret_end (v := .bool true) rfl (res1 Try.results7 rfl) ?_
      exact ⟨_, rfl, rfl, HU⟩
    · have hgb := ghead_back bb (Classical.not_not.1 q19)
      have hgw := hgb.1.low
      have hgw2 := hgb.1.2.1
      have hgs2 := hgb.1.2.2.1
      rw [decide_eq_false q19]
      refine W_cond_f rfl ?_
      refine W_skip ?_
      refine W_seq ?_
      refine W_region ?_
      refine Wl_v (r_loada (b := B40) (off := 0) (cs := [.int .i64 ((ghead bs 0).1.1), .int .i64 ((ghead bs 0).1.2.1), .int .u32 ((ghead bs 0).1.2.2.1), .bool (decide ((ghead bs 0).1.2.2.2 = true))]) Try.isAgg34 Try.sizeOf34 rfl rfl (fun j hj => by rw [hb40.cell]; match j, hj with | 0, _ => rfl | 1, _ => rfl | 2, _ => rfl | 3, _ => rfl)) ?_
      refine Wl_call (r_call1 rfl Try.call18 rfl) (put_ok (sm := (ghead bs 0).1.2.2.2) _ (by omega) (by omega) (by omega) hgb.1) ?_
      rintro v w44 ⟨a44, m44, c44, rfl, hO44, hm_44, hU44⟩
      have hzw44 := hU44.size
      replace hr := hr.upd0 hU44
      replace hb := hb.upd0 hU44
      replace HU := HU.trans0 hU44
      replace hb1 := hb1.upd0 hU44
      replace hO38 := hO38.upd0 hU44
      replace hp39 := hp39.upd0 hU44
      replace hb40 := hb40.upd0 hU44
      replace hO44 := hO44.tight
      have hl_hO44 := ilen hO44.sl
      have hc_hO44 := hO44.sl.cap.1
      refine Wl_v (r_mv (v := .tuple #[.slice a44 m44 c44, .int .i64 0]) rfl) ?_
      refine Wl_v (r_ext (v := .slice a44 m44 c44) rfl rfl) ?_
      refine Wl_v (r_ext (v := .int .i64 0) rfl rfl) ?_
      refine Wl_v (r_as (v := .slice a44 m44 c44) rfl) ?_
      refine Wl_v (r_as (v := .int .i64 0) rfl) ?_
      refine Wl_nil ?_
      refine W_seq ?_
      refine W_region ?_
      refine Wl_v (r_mv (v := .int .i64 0) rfl) ?_
      refine Wl_v (v := .bool true) (r_eq (a := 0) (b := 0) rfl rfl) ?_
      refine Wl_v (r_mv (v := .bool true) rfl) ?_
      refine Wl_guard_t rfl ?_
      refine Wl_v (r_mv (v := .slice a44 m44 c44) rfl) ?_
      refine Wl_guard_t rfl ?_
      refine Wl_v (r_len Try.underlying35 rfl) ?_
      refine Wl_guard_t rfl ?_
      refine Wl_v (r_mv (v := .pointer (some ⟨pb38, 0, none⟩)) rfl) ?_
      refine Wl_guard_t rfl ?_
      refine Wl_call (r_call1 rfl Try.call28 rfl) (at_spec _ hp39 (by omega) (by omega) (by omega)) ?_
      rintro v w45 ⟨rfl, hU45⟩
      have hzw45 := hU45.size
      replace hr := hr.upd0 hU45
      replace hb := hb.upd0 hU45
      replace HU := HU.trans0 hU45
      replace hb1 := hb1.upd0 hU45
      replace hO38 := hO38.upd0 hU45
      replace hp39 := hp39.upd0 hU45
      replace hb40 := hb40.upd0 hU45
      replace hO44 := hO44.upd0 hU45
      refine Wl_guard_t rfl ?_
      refine Wl_v (r_eq rfl rfl) ?_
      refine Wl_v (r_pick_t (v := .bool (decide (((m44 : Nat) : Int) = (((ghead bs 0).2.1 : Nat) : Int)))) rfl rfl) ?_
      refine Wl_v (r_mv (v := .bool (decide (((m44 : Nat) : Int) = (((ghead bs 0).2.1 : Nat) : Int)))) rfl) ?_
      have q21 : ((m44 : Nat) : Int) = (((ghead bs 0).2.1 : Nat) : Int) := (by have h9 := congrArg List.length hgb.2.2.2.1; rw [List.length_take] at h9; omega)
      rw [decide_eq_true q21]
      refine Wl_guard_t rfl ?_
      refine Wl_v (r_mv (v := .slice a44 m44 c44) rfl) ?_
      refine Wl_guard_t rfl ?_
      refine Wl_v (r_len Try.underlying35 rfl) ?_
      refine Wl_guard_t rfl ?_
      refine Wl_v (r_mv (v := .slice a n c) rfl) ?_
      refine Wl_guard_t rfl ?_
      refine Wl_v (r_len Try.underlying35 rfl) ?_
      refine Wl_guard_t rfl ?_
      refine Wl_v (r_le rfl rfl) ?_
      refine Wl_v (r_pick_t (v := .bool (decide (((m44 : Nat) : Int) ≤ ((n : Nat) : Int)))) rfl rfl) ?_
      refine Wl_v (r_mv (v := .bool (decide (((m44 : Nat) : Int) ≤ ((n : Nat) : Int)))) rfl) ?_
      have q22 : ((m44 : Nat) : Int) ≤ ((n : Nat) : Int) := (by have h9 := congrArg List.length hgb.2.2.2.1; rw [List.length_take] at h9; omega)
      rw [decide_eq_true q22]
      refine Wl_guard_t rfl ?_
      refine Wl_v (r_mv (v := .slice a44 m44 c44) rfl) ?_
      refine Wl_guard_t rfl ?_
      refine Wl_v (r_mv (v := .slice a n c) rfl) ?_
      refine Wl_guard_t rfl ?_
      refine Wl_v (r_mv (v := .slice a44 m44 c44) rfl) ?_
      refine Wl_guard_t rfl ?_
      refine Wl_v (r_len Try.underlying35 rfl) ?_
      refine Wl_guard_t rfl ?_
      refine Wl_v (r_slicehn (h' := m44) Try.underlying35 Try.sizeOf5 rfl rfl (by omega) (by omega)) ?_
      have hT46 := Sl.cuth (n := m44) hb (by omega)
      have hl_hT46 := ilen hT46
      have hc_hT46 := hT46.cap.1
      refine Wl_guard_t rfl ?_
      refine Wl_call (r_call2 rfl Try.call21 rfl rfl) (same_spec _ hO44.sl.any hT46.any (by rw [hgb.2.2.2.1]; exact byt_take bb _) (byt_take bb _)) ?_
      rintro v w47 ⟨rfl, hU47⟩
      have hzw47 := hU47.size
      replace hr := hr.upd0 hU47
      replace hb := hb.upd0 hU47
      replace HU := HU.trans0 hU47
      replace hb1 := hb1.upd0 hU47
      replace hO38 := hO38.upd0 hU47
      replace hp39 := hp39.upd0 hU47
      replace hb40 := hb40.upd0 hU47
      replace hO44 := hO44.upd0 hU47
      replace hT46 := hT46.upd0 hU47
      refine Wl_v (r_pick_t (v := .bool (decide ((henc ((ghead bs 0).1.1) ((ghead bs 0).1.2.1) ((ghead bs 0).1.2.2.1) ((ghead bs 0).1.2.2.2)) = (bs.take m44)))) rfl rfl) ?_
      refine Wl_v (r_mv (v := .bool (decide ((henc ((ghead bs 0).1.1) ((ghead bs 0).1.2.1) ((ghead bs 0).1.2.2.1) ((ghead bs 0).1.2.2.2)) = (bs.take m44)))) rfl) ?_
      have q23 : (henc ((ghead bs 0).1.1) ((ghead bs 0).1.2.1) ((ghead bs 0).1.2.2.1) ((ghead bs 0).1.2.2.2)) = (bs.take m44) := (by have h9 := congrArg List.length hgb.2.2.2.1; rw [List.length_take] at h9; rw [hgb.2.2.2.1]; exact t_eq (by omega))
      rw [decide_eq_true q23]
      refine Wl_guard_t rfl ?_
      refine Wl_call (r_call0 rfl Try.call16 ) (known_spec _ ) ?_
      rintro v w48 ⟨rfl, hU48⟩
      have hzw48 := hU48.size
      replace hr := hr.upd0 hU48
      replace hb := hb.upd0 hU48
      replace HU := HU.trans0 hU48
      replace hb1 := hb1.upd0 hU48
      replace hO38 := hO38.upd0 hU48
      replace hp39 := hp39.upd0 hU48
      replace hb40 := hb40.upd0 hU48
      replace hO44 := hO44.upd0 hU48
      replace hT46 := hT46.upd0 hU48
      refine Wl_v (r_pick_t (v := .bool true) rfl rfl) ?_
      refine Wl_v (r_as (v := .bool true) rfl) ?_
      refine Wl_nil ?_
      refine W_ret ?_
      refine ret_end (v := .bool true) rfl (res1 Try.results7 rfl) ?_
      exact ⟨_, rfl, rfl, HU⟩

set_option maxHeartbeats 2000000 in
set_option maxRecDepth 100000 in
theorem headcuts {wz sz dn : Int} {sm : Bool} {at0 by_ : Int} (w : World) (rwz : -9223372036854775808 ≤ wz ∧ wz ≤ 9223372036854775807) (rsz : -9223372036854775808 ≤ sz ∧ sz ≤ 9223372036854775807) (rdn : 0 ≤ dn ∧ dn < 4294967296) (rat0 : -9223372036854775808 ≤ at0 ∧ at0 ≤ 9223372036854775807) (rby_ : 0 ≤ by_ ∧ by_ < 256) :
    Calls Try.prog 8 #[.agg #[.int .i64 wz, .int .i64 sz, .int .u32 dn, .bool (decide (sm = true))], .int .i64 at0, .int .u8 by_] w (Ret fun v w' => v = .bool true ∧ Upd No w w') := by
  have HU : Upd (fun b => False) w w := Upd.refl _ _
  refine calls_of_W Try.func8 rfl Try.ntmps8 (by simp) ?_
  refine W_seq ?_
  refine W_region ?_
  refine Wl_box (v := .agg #[.int .i64 wz, .int .i64 sz, .int .u32 dn, .bool (decide (sm = true))]) (cs := [.int .i64 wz, .int .i64 sz, .int .u32 dn, .bool (decide (sm = true))]) rfl rfl ?_
  intro B1 w1 hB1 hU1 hzz1 hb1
  have hzw1 := hU1.size
  replace HU := HU.trans0 hU1
  refine Wl_v (r_as (v := .bool false) rfl) ?_
  refine Wl_nil ?_
  refine W_seq ?_
  refine W_seq ?_
  refine W_region ?_
  refine Wl_v (r_loada (b := B1) (off := 0) (cs := [.int .i64 wz, .int .i64 sz, .int .u32 dn, .bool (decide (sm = true))]) Try.isAgg34 Try.sizeOf34 rfl rfl (fun j hj => by rw [hb1.cell]; match j, hj with | 0, _ => rfl | 1, _ => rfl | 2, _ => rfl | 3, _ => rfl)) ?_
  refine Wl_call (r_call1 rfl Try.call19 rfl) (may_spec _ (by omega) (by omega) (by omega)) ?_
  rintro v w2 ⟨rfl, hU2⟩
  have hzw2 := hU2.size
  replace HU := HU.trans0 hU2
  replace hb1 := hb1.upd0 hU2
  refine Wl_v (r_not rfl) ?_
  refine Wl_nil ?_
  by_cases q1 : Hv wz sz
  · have hv_ : Hv wz sz := q1
    rw [decide_eq_true q1]
    simp only [Bool.not_true, Bool.not_false]
    refine W_cond_f rfl ?_
    refine W_skip ?_
    refine W_seq ?_
    refine W_region ?_
    refine Wl_v (r_loada (b := B1) (off := 0) (cs := [.int .i64 wz, .int .i64 sz, .int .u32 dn, .bool (decide (sm = true))]) Try.isAgg34 Try.sizeOf34 rfl rfl (fun j hj => by rw [hb1.cell]; match j, hj with | 0, _ => rfl | 1, _ => rfl | 2, _ => rfl | 3, _ => rfl)) ?_
    refine Wl_call (r_call1 rfl Try.call18 rfl) (put_ok _ (by omega) (by omega) (by omega) hv_) ?_
    rintro v w3 ⟨a3, m3, c3, rfl, hO3, hm_3, hU3⟩
    have hzw3 := hU3.size
    replace HU := HU.trans0 hU3
    replace hb1 := hb1.upd0 hU3
    replace hO3 := hO3.tight
    have hl_hO3 := ilen hO3.sl
    have hc_hO3 := hO3.sl.cap.1
    have hel := henc_max (wz := wz) (sz := sz) (dn := dn) (sm := sm)
    have he6 := henc_6 (wz := wz) (sz := sz) (dn := dn) (sm := sm)
    refine Wl_v (r_mv (v := .tuple #[.slice a3 m3 c3, .int .i64 0]) rfl) ?_
    refine Wl_v (r_ext (v := .slice a3 m3 c3) rfl rfl) ?_
    refine Wl_v (r_ext (v := .int .i64 0) rfl rfl) ?_
    refine Wl_v (r_as (v := .slice a3 m3 c3) rfl) ?_
    refine Wl_v (r_as (v := .int .i64 0) rfl) ?_
    refine Wl_nil ?_
    refine W_seq ?_
    refine W_seq ?_
    refine W_region ?_
    refine Wl_v (r_mv (v := .int .i64 0) rfl) ?_
    refine Wl_v (v := .bool false) (r_ne (a := 0) (b := 0) rfl rfl) ?_
    refine Wl_v (r_mv (v := .bool false) rfl) ?_
    refine Wl_guard_t rfl ?_
    refine Wl_v (r_mv (v := .slice a3 m3 c3) rfl) ?_
    refine Wl_guard_t rfl ?_
    refine Wl_v (r_len Try.underlying35 rfl) ?_
    refine Wl_guard_t rfl ?_
    refine Wl_v (r_lt rfl rfl) ?_
    refine Wl_v (r_pick_f (v := .bool (decide (((m3 : Nat) : Int) < 6))) rfl rfl) ?_
    refine Wl_nil ?_
    have q2 : ¬ (((m3 : Nat) : Int) < 6) := (by omega)
    rw [decide_eq_false q2]
    refine W_cond_f rfl ?_
    refine W_skip ?_
    refine W_seq ?_
    refine W_region ?_
    refine Wl_v (r_mv (v := .slice a3 m3 c3) rfl) ?_
    refine Wl_v (r_mv (v := .int .i64 at0) rfl) ?_
    refine Wl_v (r_cvt Try.underlying3 Try.underlying52 rfl (mu64 _)) ?_
    refine Wl_v (r_mv (v := .slice a3 m3 c3) rfl) ?_
    refine Wl_v (r_len Try.underlying35 rfl) ?_
    refine Wl_v (r_cvt Try.underlying3 Try.underlying52 rfl (wu64 (by omega) (by omega))) ?_
    refine Wl_v (r_rem rfl rfl (by omega) (tr (by omega))) ?_
    obtain ⟨k, hk, hkl⟩ := mod_nat (x := at0 % 18446744073709551616) (m := m3) (by omega)
    rw [show ((at0 % 18446744073709551616) % ((m3 : Nat) : Int) : Int) = ((k : Nat) : Int) from hk]
    refine Wl_v (r_cvt Try.underlying52 Try.underlying3 rfl (wi64 (by omega) (by omega))) ?_
    refine Wl_v (r_slicehn (h' := k) Try.underlying35 Try.sizeOf5 rfl rfl (by omega) (by omega)) ?_
    have hT4 := Sl.cuth (n := k) hO3.sl (by omega)
    have hl_hT4 := ilen hT4
    have hc_hT4 := hT4.cap.1
    refine Wl_call (r_call1 rfl Try.call23 rfl) (new_spec _ hT4.any (by omega)) ?_
    rintro v w5 ⟨pb5, a5, c5, rfl, hp5, hO5, hpg_5, hU5⟩
    have hzw5 := hU5.size
    replace HU := HU.trans0 hU5
    replace hb1 := hb1.upd0 hU5
    replace hO3 := hO3.upd0 hU5
    replace hT4 := hT4.upd0 hU5
    have hbl_hp5 := hp5.lt
    replace hO5 := hO5.tight
    have hl_hO5 := ilen hO5.sl
    have hc_hO5 := hO5.sl.cap.1
    refine Wl_call (r_call1 rfl Try.call26 rfl) (get_at (wz := 0) (sz := 0) (dn := 0) (sm := false) (q := 0) (er := 3) (p := 0) _ hp5 (hO5.sl.cur (by intro h1; have h3 : ((w3.heap.size ≤ pb5 ∧ pb5 ≠ pb5) ∧ pb5 < w5.heap.size) := h1; first | omega | simp at h3)) (byt_take (henc_byt hv_ rdn.1 rdn.2) _) (by omega) (by omega) (ghead_cut hv_ rdn.1 rdn.2 (by omega))) ?_
    rintro v w6 ⟨rfl, hp6, hU6⟩
    have hzw6 := hU6.size
    replace HU := HU.trans1 hU6 (by show (False) ∨ w.heap.size ≤ pb5; omega)
    replace hb1 := hb1.upd1 hU6 (by omega)
    replace hO3 := hO3.upd1 hU6 (by intro h1; have h3 : ((w2.heap.size ≤ pb5) ∧ pb5 < w3.heap.size) := h1; omega)
    replace hT4 := hT4.upd1 hU6 (by intro h1; have h3 : ((w2.heap.size ≤ pb5) ∧ pb5 < w3.heap.size) := h1; omega)
    replace hO5 := hO5.upd1 hU6 (by intro h1; have h3 : ((w3.heap.size ≤ pb5 ∧ pb5 ≠ pb5) ∧ pb5 < w5.heap.size) := h1; omega)
    have hbl_hp6 := hp6.lt
    refine Wl_v (r_mv (v := .tuple #[.agg #[.int .i64 0, .int .i64 0, .int .u32 0, .bool (decide (false = true))], .int .i64 3]) rfl) ?_
    refine Wl_v (r_ext (v := .agg #[.int .i64 0, .int .i64 0, .int .u32 0, .bool (decide (false = true))]) rfl rfl) ?_
    refine Wl_v (r_ext (v := .int .i64 3) rfl rfl) ?_
    refine Wl_alloc (cs := [.int .i64 0, .int .i64 0, .int .u32 0, .bool false]) Try.zeroValue34 rfl ?_
    intro B7 w7 hB7 hU7 hzz7 hb7
    have hzw7 := hU7.size
    replace HU := HU.trans0 hU7
    replace hb1 := hb1.upd0 hU7
    replace hO3 := hO3.upd0 hU7
    replace hT4 := hT4.upd0 hU7
    replace hO5 := hO5.upd0 hU7
    replace hp6 := hp6.upd0 hU7
    refine Wl_storea (off := 0) (vs := [.int .i64 0, .int .i64 0, .int .u32 0, .bool (decide (false = true))]) (cs' := [.int .i64 0, .int .i64 0, .int .u32 0, .bool (decide (false = true))]) Try.sizeOf34 rfl rfl rfl (by simp only [List.mem_cons, List.not_mem_nil, or_false, forall_eq_or_imp, forall_eq]; exact ⟨rfl, rfl, rfl, rfl⟩) hb7 (by simp) rfl ?_
    intro w8 hU8 hzz8 hb7n
    replace hb7 := hb7n; clear hb7n
    have hzw8 := hU8.size
    replace HU := HU.trans1 hU8 (by show (False) ∨ w.heap.size ≤ B7; omega)
    replace hb1 := hb1.upd1 hU8 (by omega)
    replace hO3 := hO3.upd1 hU8 (by intro h1; have h3 : ((w2.heap.size ≤ B7) ∧ B7 < w3.heap.size) := h1; omega)
    replace hT4 := hT4.upd1 hU8 (by intro h1; have h3 : ((w2.heap.size ≤ B7) ∧ B7 < w3.heap.size) := h1; omega)
    replace hO5 := hO5.upd1 hU8 (by intro h1; have h3 : ((w3.heap.size ≤ B7 ∧ B7 ≠ pb5) ∧ B7 < w5.heap.size) := h1; omega)
    replace hp6 := hp6.upd1 hU8 (by omega)
    refine Wl_v (r_as (v := .int .i64 3) rfl) ?_
    refine Wl_nil ?_
    refine W_seq ?_
    refine W_seq ?_
    refine W_region ?_
    refine Wl_v (r_mv (v := .int .i64 3) rfl) ?_
    refine Wl_v (v := .bool false) (r_ne (a := 3) (b := 3) rfl rfl) ?_
    refine Wl_nil ?_
    refine W_cond_f rfl ?_
    refine W_skip ?_
    refine W_seq ?_
    refine W_region ?_
    refine Wl_v (r_mv (v := .slice a3 m3 c3) rfl) ?_
    refine Wl_call (r_call1 rfl Try.call24 rfl) (own_spec _ hO3.sl.any (by omega)) ?_
    rintro v w9 ⟨a9, c9, rfl, hO9, hU9⟩
    have hzw9 := hU9.size
    replace HU := HU.trans0 hU9
    replace hb1 := hb1.upd0 hU9
    replace hO3 := hO3.upd0 hU9
    replace hT4 := hT4.upd0 hU9
    replace hO5 := hO5.upd0 hU9
    replace hp6 := hp6.upd0 hU9
    replace hb7 := hb7.upd0 hU9
    replace hO9 := hO9.tight
    have hl_hO9 := ilen hO9.sl
    have hc_hO9 := hO9.sl.cap.1
    refine Wl_v (r_as (v := .slice a9 m3 c9) rfl) ?_
    refine Wl_nil ?_
    refine W_seq ?_
    refine W_region ?_
    refine Wl_v (r_mv (v := .slice a9 m3 c9) rfl) ?_
    refine Wl_v (r_mv (v := .int .i64 at0) rfl) ?_
    refine Wl_v (r_cvt Try.underlying3 Try.underlying52 rfl (mu64 _)) ?_
    refine Wl_v (r_rem rfl rfl (by omega) (tr (by omega))) ?_
    obtain ⟨i, hi, hil⟩ := mod_nat (x := at0 % 18446744073709551616) (m := 4) (by omega)
    rw [show ((at0 % 18446744073709551616) % 4 : Int) = ((i : Nat) : Int) from hi]
    refine Wl_v (r_cvt Try.underlying52 Try.underlying3 rfl (wi64 (by omega) (by omega))) ?_
    refine Wl_idxi Try.underlying35 Try.sizeOf5 rfl rfl hO9.sl (by omega) (by omega) ?_
    intro ib10 io10 hc10
    rw [Int.toNat_natCast] at hc10
    refine Wl_loadc Try.isAgg5 rfl hc10 ?_
    refine Wl_v (r_mv (v := .int .u8 by_) rfl) ?_
    have hgx := byt_gd (henc_byt (sm := sm) hv_ rdn.1 rdn.2) i
    have hxl := xorb_lt hgx.1 hgx.2 rby_.1 rby_.2
    refine Wl_v (r_xor rfl rfl (xorb_u8 hgx.1 hgx.2 rby_.1 rby_.2)) ?_
    obtain ⟨g11, rfl, hg11⟩ := hO9.addr (by omega)
    replace hg11 : ((w8.heap.size ≤ g11) ∧ g11 < w9.heap.size) := hg11
    refine Wl_idxo (i' := i) Try.underlying35 Try.sizeOf5 rfl rfl hO9 (by omega) (by omega) ?_
    intro hc12
    refine Wl_storeo (i := i) Try.sizeOf5 rfl rfl hO9 (by omega) ?_
    intro w13 hU13 hzz13 hO13
    clear hO9
    have hzw13 := hU13.size
    replace HU := HU.trans1 hU13 (by show (False) ∨ w.heap.size ≤ g11; omega)
    replace hb1 := hb1.upd1 hU13 (by omega)
    replace hO3 := hO3.upd1 hU13 (by intro h1; have h3 : ((w2.heap.size ≤ g11) ∧ g11 < w3.heap.size) := h1; omega)
    replace hT4 := hT4.upd1 hU13 (by intro h1; have h3 : ((w2.heap.size ≤ g11) ∧ g11 < w3.heap.size) := h1; omega)
    replace hO5 := hO5.upd1 hU13 (by intro h1; have h3 : ((w3.heap.size ≤ g11 ∧ g11 ≠ pb5) ∧ g11 < w5.heap.size) := h1; omega)
    replace hp6 := hp6.upd1 hU13 (by omega)
    replace hb7 := hb7.upd1 hU13 (by omega)
    have hl_hO13 := ilen hO13.sl
    have hc_hO13 := hO13.sl.cap.1
    refine Wl_nil ?_
    refine W_seq ?_
    refine W_region ?_
    refine Wl_v (r_mv (v := .slice (some ⟨g11, 0, none⟩) m3 c9) rfl) ?_
    refine Wl_call (r_call1 rfl Try.call23 rfl) (new_spec _ hO13.sl.any (by omega)) ?_
    rintro v w14 ⟨pb14, a14, c14, rfl, hp14, hO14, hpg_14, hU14⟩
    have hzw14 := hU14.size
    replace HU := HU.trans0 hU14
    replace hb1 := hb1.upd0 hU14
    replace hO3 := hO3.upd0 hU14
    replace hT4 := hT4.upd0 hU14
    replace hO5 := hO5.upd0 hU14
    replace hp6 := hp6.upd0 hU14
    replace hb7 := hb7.upd0 hU14
    replace hO13 := hO13.upd0 hU14
    have hbl_hp14 := hp14.lt
    replace hO14 := hO14.tight
    have hl_hO14 := ilen hO14.sl
    have hc_hO14 := hO14.sl.cap.1
    by_cases q3 : by_ = 0
    · refine Wl_call (r_call1 rfl Try.call26 rfl) (get_at (wz := wz) (sz := (if 0 ≤ sz then sz else -1)) (dn := dn) (sm := sm) (q := (henc wz sz dn sm).length) (er := 0) (p := 0) _ hp14 (hO14.sl.cur (by intro h1; have h3 : ((w13.heap.size ≤ pb14 ∧ pb14 ≠ pb14) ∧ pb14 < w14.heap.size) := h1; first | omega | simp at h3)) (byt_set (henc_byt hv_ rdn.1 rdn.2) (by omega)) (by omega) (by omega) (ghead_xor0 hv_ rdn hil q3)) ?_
      rintro v w15 ⟨rfl, hp15, hU15⟩
      have hzw15 := hU15.size
      replace HU := HU.trans1 hU15 (by show (False) ∨ w.heap.size ≤ pb14; omega)
      replace hb1 := hb1.upd1 hU15 (by omega)
      replace hO3 := hO3.upd1 hU15 (by intro h1; have h3 : ((w2.heap.size ≤ pb14) ∧ pb14 < w3.heap.size) := h1; omega)
      replace hT4 := hT4.upd1 hU15 (by intro h1; have h3 : ((w2.heap.size ≤ pb14) ∧ pb14 < w3.heap.size) := h1; omega)
      replace hO5 := hO5.upd1 hU15 (by intro h1; have h3 : ((w3.heap.size ≤ pb14 ∧ pb14 ≠ pb5) ∧ pb14 < w5.heap.size) := h1; omega)
      replace hp6 := hp6.upd1 hU15 (by omega)
      replace hb7 := hb7.upd1 hU15 (by omega)
      replace hO13 := hO13.upd1 hU15 (by intro h1; have h3 : ((w8.heap.size ≤ pb14) ∧ pb14 < w9.heap.size) := h1; omega)
      replace hO14 := hO14.upd1 hU15 (by intro h1; have h3 : ((w13.heap.size ≤ pb14 ∧ pb14 ≠ pb14) ∧ pb14 < w14.heap.size) := h1; omega)
      have hbl_hp15 := hp15.lt
      refine Wl_v (r_mv (v := .tuple #[.agg #[.int .i64 wz, .int .i64 (if 0 ≤ sz then sz else -1), .int .u32 dn, .bool (decide (sm = true))], .int .i64 0]) rfl) ?_
      refine Wl_v (r_ext (v := .agg #[.int .i64 wz, .int .i64 (if 0 ≤ sz then sz else -1), .int .u32 dn, .bool (decide (sm = true))]) rfl rfl) ?_
      refine Wl_v (r_ext (v := .int .i64 0) rfl rfl) ?_
      refine Wl_alloc (cs := [.int .i64 0, .int .i64 0, .int .u32 0, .bool false]) Try.zeroValue34 rfl ?_
      intro B16 w16 hB16 hU16 hzz16 hb16
      have hzw16 := hU16.size
      replace HU := HU.trans0 hU16
      replace hb1 := hb1.upd0 hU16
      replace hO3 := hO3.upd0 hU16
      replace hT4 := hT4.upd0 hU16
      replace hO5 := hO5.upd0 hU16
      replace hp6 := hp6.upd0 hU16
      replace hb7 := hb7.upd0 hU16
      replace hO13 := hO13.upd0 hU16
      replace hO14 := hO14.upd0 hU16
      replace hp15 := hp15.upd0 hU16
      refine Wl_storea (off := 0) (vs := [.int .i64 wz, .int .i64 (if 0 ≤ sz then sz else -1), .int .u32 dn, .bool (decide (sm = true))]) (cs' := [.int .i64 wz, .int .i64 (if 0 ≤ sz then sz else -1), .int .u32 dn, .bool (decide (sm = true))]) Try.sizeOf34 rfl rfl rfl (by simp only [List.mem_cons, List.not_mem_nil, or_false, forall_eq_or_imp, forall_eq]; exact ⟨rfl, rfl, rfl, rfl⟩) hb16 (by simp) rfl ?_
      intro w17 hU17 hzz17 hb16n
      replace hb16 := hb16n; clear hb16n
      have hzw17 := hU17.size
      replace HU := HU.trans1 hU17 (by show (False) ∨ w.heap.size ≤ B16; omega)
      replace hb1 := hb1.upd1 hU17 (by omega)
      replace hO3 := hO3.upd1 hU17 (by intro h1; have h3 : ((w2.heap.size ≤ B16) ∧ B16 < w3.heap.size) := h1; omega)
      replace hT4 := hT4.upd1 hU17 (by intro h1; have h3 : ((w2.heap.size ≤ B16) ∧ B16 < w3.heap.size) := h1; omega)
      replace hO5 := hO5.upd1 hU17 (by intro h1; have h3 : ((w3.heap.size ≤ B16 ∧ B16 ≠ pb5) ∧ B16 < w5.heap.size) := h1; omega)
      replace hp6 := hp6.upd1 hU17 (by omega)
      replace hb7 := hb7.upd1 hU17 (by omega)
      replace hO13 := hO13.upd1 hU17 (by intro h1; have h3 : ((w8.heap.size ≤ B16) ∧ B16 < w9.heap.size) := h1; omega)
      replace hO14 := hO14.upd1 hU17 (by intro h1; have h3 : ((w13.heap.size ≤ B16 ∧ B16 ≠ pb14) ∧ B16 < w14.heap.size) := h1; omega)
      replace hp15 := hp15.upd1 hU17 (by omega)
      refine Wl_v (r_as (v := .int .i64 0) rfl) ?_
      refine Wl_nil ?_
      refine W_seq ?_
      refine W_region ?_
      refine Wl_v (r_mv (v := .int .u8 by_) rfl) ?_
      refine Wl_v (r_eq rfl rfl) ?_
      refine Wl_v (r_mv (v := .bool (decide (by_ = 0))) rfl) ?_
      have q4 : by_ = 0 := q3
      rw [decide_eq_true q4]
      refine Wl_guard_t rfl ?_
      refine Wl_v (r_mv (v := .int .i64 0) rfl) ?_
      refine Wl_guard_t rfl ?_
      refine Wl_v (v := .bool true) (r_eq (a := 0) (b := 0) rfl rfl) ?_
      refine Wl_v (r_pick_t (v := .bool true) rfl rfl) ?_
      refine Wl_v (r_mv (v := .bool true) rfl) ?_
      refine Wl_guard_f rfl ?_
      refine Wl_guard_f rfl ?_
      refine Wl_guard_f rfl ?_
      refine Wl_skip rfl ?_
      refine Wl_skip rfl ?_
      refine Wl_guard_f rfl ?_
      refine Wl_v (r_pick_t (v := .bool true) rfl rfl) ?_
      refine Wl_v (r_mv (v := .bool true) rfl) ?_
      refine Wl_guard_t rfl ?_
      refine Wl_call (r_call0 rfl Try.call16 ) (known_spec _ ) ?_
      rintro v w18 ⟨rfl, hU18⟩
      have hzw18 := hU18.size
      replace HU := HU.trans0 hU18
      replace hb1 := hb1.upd0 hU18
      replace hO3 := hO3.upd0 hU18
      replace hT4 := hT4.upd0 hU18
      replace hO5 := hO5.upd0 hU18
      replace hp6 := hp6.upd0 hU18
      replace hb7 := hb7.upd0 hU18
      replace hO13 := hO13.upd0 hU18
      replace hO14 := hO14.upd0 hU18
      replace hp15 := hp15.upd0 hU18
      replace hb16 := hb16.upd0 hU18
      refine Wl_v (r_pick_t (v := .bool true) rfl rfl) ?_
      refine Wl_v (r_as (v := .bool true) rfl) ?_
      refine Wl_nil ?_
      refine W_ret ?_
      refine ret_end (v := .bool true) rfl (res1 Try.results8 rfl) ?_
      exact ⟨_, rfl, rfl, HU⟩
    · refine Wl_call (r_call1 rfl Try.call26 rfl) (get_at (wz := 0) (sz := 0) (dn := 0) (sm := false) (q := 0) (er := 6) (p := 0) _ hp14 (hO14.sl.cur (by intro h1; have h3 : ((w13.heap.size ≤ pb14 ∧ pb14 ≠ pb14) ∧ pb14 < w14.heap.size) := h1; first | omega | simp at h3)) (byt_set (henc_byt hv_ rdn.1 rdn.2) (by omega)) (by omega) (by omega) (ghead_xor hv_ rdn hil rby_.1 q3)) ?_
      rintro v w19 ⟨rfl, hp19, hU19⟩
      have hzw19 := hU19.size
      replace HU := HU.trans1 hU19 (by show (False) ∨ w.heap.size ≤ pb14; omega)
      replace hb1 := hb1.upd1 hU19 (by omega)
      replace hO3 := hO3.upd1 hU19 (by intro h1; have h3 : ((w2.heap.size ≤ pb14) ∧ pb14 < w3.heap.size) := h1; omega)
      replace hT4 := hT4.upd1 hU19 (by intro h1; have h3 : ((w2.heap.size ≤ pb14) ∧ pb14 < w3.heap.size) := h1; omega)
      replace hO5 := hO5.upd1 hU19 (by intro h1; have h3 : ((w3.heap.size ≤ pb14 ∧ pb14 ≠ pb5) ∧ pb14 < w5.heap.size) := h1; omega)
      replace hp6 := hp6.upd1 hU19 (by omega)
      replace hb7 := hb7.upd1 hU19 (by omega)
      replace hO13 := hO13.upd1 hU19 (by intro h1; have h3 : ((w8.heap.size ≤ pb14) ∧ pb14 < w9.heap.size) := h1; omega)
      replace hO14 := hO14.upd1 hU19 (by intro h1; have h3 : ((w13.heap.size ≤ pb14 ∧ pb14 ≠ pb14) ∧ pb14 < w14.heap.size) := h1; omega)
      have hbl_hp19 := hp19.lt
      refine Wl_v (r_mv (v := .tuple #[.agg #[.int .i64 0, .int .i64 0, .int .u32 0, .bool (decide (false = true))], .int .i64 6]) rfl) ?_
      refine Wl_v (r_ext (v := .agg #[.int .i64 0, .int .i64 0, .int .u32 0, .bool (decide (false = true))]) rfl rfl) ?_
      refine Wl_v (r_ext (v := .int .i64 6) rfl rfl) ?_
      refine Wl_alloc (cs := [.int .i64 0, .int .i64 0, .int .u32 0, .bool false]) Try.zeroValue34 rfl ?_
      intro B20 w20 hB20 hU20 hzz20 hb20
      have hzw20 := hU20.size
      replace HU := HU.trans0 hU20
      replace hb1 := hb1.upd0 hU20
      replace hO3 := hO3.upd0 hU20
      replace hT4 := hT4.upd0 hU20
      replace hO5 := hO5.upd0 hU20
      replace hp6 := hp6.upd0 hU20
      replace hb7 := hb7.upd0 hU20
      replace hO13 := hO13.upd0 hU20
      replace hO14 := hO14.upd0 hU20
      replace hp19 := hp19.upd0 hU20
      refine Wl_storea (off := 0) (vs := [.int .i64 0, .int .i64 0, .int .u32 0, .bool (decide (false = true))]) (cs' := [.int .i64 0, .int .i64 0, .int .u32 0, .bool (decide (false = true))]) Try.sizeOf34 rfl rfl rfl (by simp only [List.mem_cons, List.not_mem_nil, or_false, forall_eq_or_imp, forall_eq]; exact ⟨rfl, rfl, rfl, rfl⟩) hb20 (by simp) rfl ?_
      intro w21 hU21 hzz21 hb20n
      replace hb20 := hb20n; clear hb20n
      have hzw21 := hU21.size
      replace HU := HU.trans1 hU21 (by show (False) ∨ w.heap.size ≤ B20; omega)
      replace hb1 := hb1.upd1 hU21 (by omega)
      replace hO3 := hO3.upd1 hU21 (by intro h1; have h3 : ((w2.heap.size ≤ B20) ∧ B20 < w3.heap.size) := h1; omega)
      replace hT4 := hT4.upd1 hU21 (by intro h1; have h3 : ((w2.heap.size ≤ B20) ∧ B20 < w3.heap.size) := h1; omega)
      replace hO5 := hO5.upd1 hU21 (by intro h1; have h3 : ((w3.heap.size ≤ B20 ∧ B20 ≠ pb5) ∧ B20 < w5.heap.size) := h1; omega)
      replace hp6 := hp6.upd1 hU21 (by omega)
      replace hb7 := hb7.upd1 hU21 (by omega)
      replace hO13 := hO13.upd1 hU21 (by intro h1; have h3 : ((w8.heap.size ≤ B20) ∧ B20 < w9.heap.size) := h1; omega)
      replace hO14 := hO14.upd1 hU21 (by intro h1; have h3 : ((w13.heap.size ≤ B20 ∧ B20 ≠ pb14) ∧ B20 < w14.heap.size) := h1; omega)
      replace hp19 := hp19.upd1 hU21 (by omega)
      refine Wl_v (r_as (v := .int .i64 6) rfl) ?_
      refine Wl_nil ?_
      refine W_seq ?_
      refine W_region ?_
      refine Wl_v (r_mv (v := .int .u8 by_) rfl) ?_
      refine Wl_v (r_eq rfl rfl) ?_
      refine Wl_v (r_mv (v := .bool (decide (by_ = 0))) rfl) ?_
      have q5 : ¬ (by_ = 0) := q3
      rw [decide_eq_false q5]
      refine Wl_guard_f rfl ?_
      refine Wl_guard_f rfl ?_
      refine Wl_v (r_pick_f (v := .bool false) rfl rfl) ?_
      refine Wl_v (r_mv (v := .bool false) rfl) ?_
      refine Wl_guard_t rfl ?_
      refine Wl_v (r_mv (v := .int .u8 by_) rfl) ?_
      refine Wl_guard_t rfl ?_
      refine Wl_v (r_ne rfl rfl) ?_
      refine Wl_guard_t rfl ?_
      refine Wl_v (r_mv (v := .bool (decide (by_ ≠ 0))) rfl) ?_
      have q6 : by_ ≠ 0 := q5
      rw [decide_eq_true q6]
      refine Wl_guard_t rfl ?_
      refine Wl_v (r_mv (v := .int .i64 6) rfl) ?_
      refine Wl_guard_t rfl ?_
      refine Wl_v (v := .bool true) (r_eq (a := 6) (b := 6) rfl rfl) ?_
      refine Wl_guard_t rfl ?_
      refine Wl_v (r_pick_t (v := .bool true) rfl rfl) ?_
      refine Wl_v (r_pick_f (v := .bool true) rfl rfl) ?_
      refine Wl_v (r_mv (v := .bool true) rfl) ?_
      refine Wl_guard_t rfl ?_
      refine Wl_call (r_call0 rfl Try.call16 ) (known_spec _ ) ?_
      rintro v w22 ⟨rfl, hU22⟩
      have hzw22 := hU22.size
      replace HU := HU.trans0 hU22
      replace hb1 := hb1.upd0 hU22
      replace hO3 := hO3.upd0 hU22
      replace hT4 := hT4.upd0 hU22
      replace hO5 := hO5.upd0 hU22
      replace hp6 := hp6.upd0 hU22
      replace hb7 := hb7.upd0 hU22
      replace hO13 := hO13.upd0 hU22
      replace hO14 := hO14.upd0 hU22
      replace hp19 := hp19.upd0 hU22
      replace hb20 := hb20.upd0 hU22
      refine Wl_v (r_pick_t (v := .bool true) rfl rfl) ?_
      refine Wl_v (r_as (v := .bool true) rfl) ?_
      refine Wl_nil ?_
      refine W_ret ?_
      refine ret_end (v := .bool true) rfl (res1 Try.results8 rfl) ?_
      exact ⟨_, rfl, rfl, HU⟩
  · rw [decide_eq_false q1]
    simp only [Bool.not_true, Bool.not_false]
    refine W_cond_t rfl ?_
    refine W_seq ?_
    refine W_region ?_
    refine Wl_call (r_call0 rfl Try.call16 ) (known_spec _ ) ?_
    rintro v w23 ⟨rfl, hU23⟩
    have hzw23 := hU23.size
    replace HU := HU.trans0 hU23
    replace hb1 := hb1.upd0 hU23
    refine Wl_v (r_as (v := .bool true) rfl) ?_
    refine Wl_nil ?_
    refine W_ret ?_
    refine ret_end (v := .bool true) rfl (res1 Try.results8 rfl) ?_
    exact ⟨_, rfl, rfl, HU⟩

set_option maxHeartbeats 2000000 in
set_option maxRecDepth 100000 in
theorem headskips {ax a : Option Addr} {m cx n c : Nat} {xs bs : List Int} (w : World) (hx : Sl w (fun g => g < w.heap.size) 1 (.slice ax m cx) m (ints .u8 xs)) (bx : Byt xs) (nx : m ≤ 140737488351232) (hb : Sl w (fun g => g < w.heap.size) 1 (.slice a n c) n (ints .u8 bs)) (bb : Byt bs) (nb : n ≤ 140737488351232) :
    Calls Try.prog 11 #[.slice ax m cx, .slice a n c] w (Ret fun v w' => v = .bool true ∧ Upd No w w') := by
  have HU : Upd (fun b => False) w w := Upd.refl _ _
  have hl_hx := ilen hx
  have hc_hx := hx.cap.1
  have hl_hb := ilen hb
  have hc_hb := hb.cap.1
  refine calls_of_W Try.func11 rfl Try.ntmps11 (by simp) ?_
  refine W_seq ?_
  refine W_region ?_
  refine Wl_v (r_as (v := .bool false) rfl) ?_
  refine Wl_nil ?_
  refine W_seq ?_
  refine W_seq ?_
  refine W_region ?_
  refine Wl_v (r_mv (v := .slice ax m cx) rfl) ?_
  refine Wl_v (r_len Try.underlying35 rfl) ?_
  refine Wl_v (r_gt rfl rfl) ?_
  refine Wl_v (r_mv (v := .bool (decide (4000 < ((m : Nat) : Int)))) rfl) ?_
  by_cases q1 : 4000 < ((m : Nat) : Int)
  · rw [decide_eq_true q1]
    refine Wl_guard_f rfl ?_
    refine Wl_guard_f rfl ?_
    refine Wl_guard_f rfl ?_
    refine Wl_v (r_pick_t (v := .bool true) rfl rfl) ?_
    refine Wl_nil ?_
    refine W_cond_t rfl ?_
    refine W_seq ?_
    refine W_region ?_
    refine Wl_call (r_call0 rfl Try.call16 ) (known_spec _ ) ?_
    rintro v w1 ⟨rfl, hU1⟩
    have hzw1 := hU1.size
    replace hx := hx.upd0 hU1
    replace hb := hb.upd0 hU1
    replace HU := HU.trans0 hU1
    refine Wl_v (r_as (v := .bool true) rfl) ?_
    refine Wl_nil ?_
    refine W_ret ?_
    refine ret_end (v := .bool true) rfl (res1 Try.results11 rfl) ?_
    exact ⟨_, rfl, rfl, HU⟩
  · rw [decide_eq_false q1]
    refine Wl_guard_t rfl ?_
    refine Wl_v (r_mv (v := .slice a n c) rfl) ?_
    refine Wl_guard_t rfl ?_
    refine Wl_v (r_len Try.underlying35 rfl) ?_
    refine Wl_guard_t rfl ?_
    refine Wl_v (r_gt rfl rfl) ?_
    refine Wl_v (r_pick_f (v := .bool (decide (4000 < ((n : Nat) : Int)))) rfl rfl) ?_
    refine Wl_nil ?_
    by_cases q2 : 4000 < ((n : Nat) : Int)
    · rw [decide_eq_true q2]
      refine W_cond_t rfl ?_
      refine W_seq ?_
      refine W_region ?_
      refine Wl_call (r_call0 rfl Try.call16 ) (known_spec _ ) ?_
      rintro v w2 ⟨rfl, hU2⟩
      have hzw2 := hU2.size
      replace hx := hx.upd0 hU2
      replace hb := hb.upd0 hU2
      replace HU := HU.trans0 hU2
      refine Wl_v (r_as (v := .bool true) rfl) ?_
      refine Wl_nil ?_
      refine W_ret ?_
      refine ret_end (v := .bool true) rfl (res1 Try.results11 rfl) ?_
      exact ⟨_, rfl, rfl, HU⟩
    · rw [decide_eq_false q2]
      refine W_cond_f rfl ?_
      refine W_skip ?_
      refine W_seq ?_
      refine W_region ?_
      refine Wl_v (r_mv (v := .slice ax m cx) rfl) ?_
      refine Wl_call (r_call1 rfl Try.call24 rfl) (own_spec _ hx.any (by omega)) ?_
      rintro v w3 ⟨a3, c3, rfl, hO3, hU3⟩
      have hzw3 := hU3.size
      replace hx := hx.upd0 hU3
      replace hb := hb.upd0 hU3
      replace HU := HU.trans0 hU3
      replace hO3 := hO3.tight
      have hl_hO3 := ilen hO3.sl
      have hc_hO3 := hO3.sl.cap.1
      refine Wl_call (r_call1 rfl Try.call32 rfl) (skippable_spec _ hO3.sl.any (by omega)) ?_
      rintro v w4 ⟨a4, m4, c4, rfl, hO4, hm_4, hU4⟩
      have hzw4 := hU4.size
      replace hx := hx.upd0 hU4
      replace hb := hb.upd0 hU4
      replace HU := HU.trans0 hU4
      replace hO3 := hO3.upd0 hU4
      replace hO4 := hO4.tight
      have hl_hO4 := ilen hO4.sl
      have hc_hO4 := hO4.sl.cap.1
      refine Wl_v (r_mv (v := .tuple #[.slice a4 m4 c4, .int .i64 0]) rfl) ?_
      refine Wl_v (r_ext (v := .slice a4 m4 c4) rfl rfl) ?_
      refine Wl_v (r_ext (v := .int .i64 0) rfl rfl) ?_
      refine Wl_v (r_as (v := .slice a4 m4 c4) rfl) ?_
      refine Wl_v (r_as (v := .int .i64 0) rfl) ?_
      refine Wl_nil ?_
      refine W_seq ?_
      refine W_region ?_
      refine Wl_v (r_mv (v := .slice a n c) rfl) ?_
      refine Wl_call (r_call1 rfl Try.call24 rfl) (own_spec _ hb.any (by omega)) ?_
      rintro v w5 ⟨a5, c5, rfl, hO5, hU5⟩
      have hzw5 := hU5.size
      replace hx := hx.upd0 hU5
      replace hb := hb.upd0 hU5
      replace HU := HU.trans0 hU5
      replace hO3 := hO3.upd0 hU5
      replace hO4 := hO4.upd0 hU5
      replace hO5 := hO5.tight
      have hl_hO5 := ilen hO5.sl
      have hc_hO5 := hO5.sl.cap.1
      refine Wl_call (r_call1 rfl Try.call23 rfl) (new_spec _ hO5.sl.any (by omega)) ?_
      rintro v w6 ⟨pb6, a6, c6, rfl, hp6, hO6, hpg_6, hU6⟩
      have hzw6 := hU6.size
      replace hx := hx.upd0 hU6
      replace hb := hb.upd0 hU6
      replace HU := HU.trans0 hU6
      replace hO3 := hO3.upd0 hU6
      replace hO4 := hO4.upd0 hU6
      replace hO5 := hO5.upd0 hU6
      have hbl_hp6 := hp6.lt
      replace hO6 := hO6.tight
      have hl_hO6 := ilen hO6.sl
      have hc_hO6 := hO6.sl.cap.1
      refine Wl_v (r_as (v := .pointer (some ⟨pb6, 0, none⟩)) rfl) ?_
      refine Wl_nil ?_
      refine W_seq ?_
      refine W_region ?_
      refine Wl_v (r_mv (v := .pointer (some ⟨pb6, 0, none⟩)) rfl) ?_
      refine Wl_call (r_call1 rfl Try.call31 rfl) (payload_spec (p := 0) _ hp6 (hO6.sl.cur (by intro h1; have h3 : ((w5.heap.size ≤ pb6 ∧ pb6 ≠ pb6) ∧ pb6 < w6.heap.size) := h1; first | omega | simp at h3)) bb (by omega) (by omega)) ?_
      rintro v w7 ⟨a7, m7, c7, rfl, hp7, hO7, hm_7, hU7⟩
      have hzw7 := hU7.size
      replace hx := hx.upd1 hU7 (by intro h1; have h3 : pb6 < w.heap.size := h1; omega)
      replace hb := hb.upd1 hU7 (by intro h1; have h3 : pb6 < w.heap.size := h1; omega)
      replace HU := HU.trans1 hU7 (by show (False) ∨ w.heap.size ≤ pb6; omega)
      replace hO3 := hO3.upd1 hU7 (by intro h1; have h3 : ((w.heap.size ≤ pb6) ∧ pb6 < w3.heap.size) := h1; omega)
      replace hO4 := hO4.upd1 hU7 (by intro h1; have h3 : ((w3.heap.size ≤ pb6) ∧ pb6 < w4.heap.size) := h1; omega)
      replace hO5 := hO5.upd1 hU7 (by intro h1; have h3 : ((w4.heap.size ≤ pb6) ∧ pb6 < w5.heap.size) := h1; omega)
      replace hO6 := hO6.upd1 hU7 (by intro h1; have h3 : ((w5.heap.size ≤ pb6 ∧ pb6 ≠ pb6) ∧ pb6 < w6.heap.size) := h1; omega)
      have hbl_hp7 := hp7.lt
      replace hO7 := hO7.tight
      have hl_hO7 := ilen hO7.sl
      have hc_hO7 := hO7.sl.cap.1
      have hgle := gskip_le (bs := bs) (p := 0) (by omega)
      refine Wl_v (r_mv (v := .tuple #[.slice a7 m7 c7, .int .i64 ((gskip bs 0).2.2)]) rfl) ?_
      refine Wl_v (r_ext (v := .slice a7 m7 c7) rfl rfl) ?_
      refine Wl_v (r_ext (v := .int .i64 ((gskip bs 0).2.2)) rfl rfl) ?_
      refine Wl_v (r_as (v := .slice a7 m7 c7) rfl) ?_
      refine Wl_v (r_as (v := .int .i64 ((gskip bs 0).2.2)) rfl) ?_
      refine Wl_nil ?_
      refine W_seq ?_
      refine W_region ?_
      refine Wl_v (r_mv (v := .slice a n c) rfl) ?_
      refine Wl_call (r_call2 rfl Try.call33 rfl rfl) (rcontent (p := 0) _ hb bb (by omega) (by omega)) ?_
      rintro v w8 ⟨a8, m8, c8, rfl, hB8, hm_8, hU8⟩
      have hzw8 := hU8.size
      replace hx := hx.upd0 hU8
      replace hb := hb.upd0 hU8
      replace HU := HU.trans0 hU8
      replace hO3 := hO3.upd0 hU8
      replace hO4 := hO4.upd0 hU8
      replace hO5 := hO5.upd0 hU8
      replace hO6 := hO6.upd0 hU8
      replace hp7 := hp7.upd0 hU8
      replace hO7 := hO7.upd0 hU8
      have hl_hB8 := ilen hB8
      have hc_hB8 := hB8.cap.1
      refine Wl_v (r_mv (v := .tuple #[.slice a8 m8 c8, .int .i64 (((gskip bs 0).2.1 : Nat) : Int), .int .i64 ((gskip bs 0).2.2)]) rfl) ?_
      refine Wl_v (r_ext (v := .slice a8 m8 c8) rfl rfl) ?_
      refine Wl_v (r_ext (v := .int .i64 (((gskip bs 0).2.1 : Nat) : Int)) rfl rfl) ?_
      refine Wl_v (r_ext (v := .int .i64 ((gskip bs 0).2.2)) rfl rfl) ?_
      refine Wl_v (r_as (v := .slice a8 m8 c8) rfl) ?_
      refine Wl_v (r_as (v := .int .i64 (((gskip bs 0).2.1 : Nat) : Int)) rfl) ?_
      refine Wl_v (r_as (v := .int .i64 ((gskip bs 0).2.2)) rfl) ?_
      refine Wl_nil ?_
      refine W_seq ?_
      refine W_region ?_
      refine Wl_v (r_mv (v := .int .i64 0) rfl) ?_
      refine Wl_v (v := .bool true) (r_eq (a := 0) (b := 0) rfl rfl) ?_
      refine Wl_v (r_mv (v := .bool true) rfl) ?_
      refine Wl_guard_t rfl ?_
      refine Wl_v (r_mv (v := .slice a4 m4 c4) rfl) ?_
      refine Wl_guard_t rfl ?_
      refine Wl_v (r_mv (v := .slice ax m cx) rfl) ?_
      refine Wl_guard_t rfl ?_
      refine Wl_call (r_call1 rfl Try.call34 rfl) (rskipped _ hx.any (by omega)) ?_
      rintro v w9 ⟨a9, m9, c9, rfl, hO9, hm_9, hU9⟩
      have hzw9 := hU9.size
      replace hx := hx.upd0 hU9
      replace hb := hb.upd0 hU9
      replace HU := HU.trans0 hU9
      replace hO3 := hO3.upd0 hU9
      replace hO4 := hO4.upd0 hU9
      replace hO5 := hO5.upd0 hU9
      replace hO6 := hO6.upd0 hU9
      replace hp7 := hp7.upd0 hU9
      replace hO7 := hO7.upd0 hU9
      replace hB8 := hB8.upd0 hU9
      replace hO9 := hO9.tight
      have hl_hO9 := ilen hO9.sl
      have hc_hO9 := hO9.sl.cap.1
      refine Wl_guard_t rfl ?_
      refine Wl_call (r_call2 rfl Try.call21 rfl rfl) (same_spec _ hO4.sl.any hO9.sl.any (skb_byt bx (by omega)) (skb_byt bx (by omega))) ?_
      rintro v w10 ⟨rfl, hU10⟩
      have hzw10 := hU10.size
      replace hx := hx.upd0 hU10
      replace hb := hb.upd0 hU10
      replace HU := HU.trans0 hU10
      replace hO3 := hO3.upd0 hU10
      replace hO4 := hO4.upd0 hU10
      replace hO5 := hO5.upd0 hU10
      replace hO6 := hO6.upd0 hU10
      replace hp7 := hp7.upd0 hU10
      replace hO7 := hO7.upd0 hU10
      replace hB8 := hB8.upd0 hU10
      replace hO9 := hO9.upd0 hU10
      refine Wl_v (r_pick_t (v := .bool (decide ((skb xs) = (skb xs)))) rfl rfl) ?_
      refine Wl_v (r_mv (v := .bool (decide ((skb xs) = (skb xs)))) rfl) ?_
      have q3 : (skb xs) = (skb xs) := rfl
      rw [decide_eq_true q3]
      refine Wl_guard_t rfl ?_
      refine Wl_v (r_mv (v := .int .i64 ((gskip bs 0).2.2)) rfl) ?_
      refine Wl_guard_t rfl ?_
      refine Wl_v (r_mv (v := .int .i64 ((gskip bs 0).2.2)) rfl) ?_
      refine Wl_guard_t rfl ?_
      refine Wl_v (r_eq rfl rfl) ?_
      refine Wl_v (r_pick_t (v := .bool (decide (((gskip bs 0).2.2) = ((gskip bs 0).2.2)))) rfl rfl) ?_
      refine Wl_v (r_mv (v := .bool (decide (((gskip bs 0).2.2) = ((gskip bs 0).2.2)))) rfl) ?_
      have q4 : ((gskip bs 0).2.2) = ((gskip bs 0).2.2) := rfl
      rw [decide_eq_true q4]
      refine Wl_guard_t rfl ?_
      refine Wl_v (r_mv (v := .slice a7 m7 c7) rfl) ?_
      refine Wl_guard_t rfl ?_
      refine Wl_v (r_mv (v := .slice a8 m8 c8) rfl) ?_
      refine Wl_guard_t rfl ?_
      refine Wl_call (r_call2 rfl Try.call21 rfl rfl) (same_spec _ hO7.sl.any hB8.any (gskip_byt bb) (gskip_byt bb)) ?_
      rintro v w11 ⟨rfl, hU11⟩
      have hzw11 := hU11.size
      replace hx := hx.upd0 hU11
      replace hb := hb.upd0 hU11
      replace HU := HU.trans0 hU11
      replace hO3 := hO3.upd0 hU11
      replace hO4 := hO4.upd0 hU11
      replace hO5 := hO5.upd0 hU11
      replace hO6 := hO6.upd0 hU11
      replace hp7 := hp7.upd0 hU11
      replace hO7 := hO7.upd0 hU11
      replace hB8 := hB8.upd0 hU11
      replace hO9 := hO9.upd0 hU11
      refine Wl_v (r_pick_t (v := .bool (decide (((gskip bs 0).1) = ((gskip bs 0).1)))) rfl rfl) ?_
      refine Wl_v (r_mv (v := .bool (decide (((gskip bs 0).1) = ((gskip bs 0).1)))) rfl) ?_
      have q5 : ((gskip bs 0).1) = ((gskip bs 0).1) := rfl
      rw [decide_eq_true q5]
      refine Wl_guard_t rfl ?_
      refine Wl_v (r_mv (v := .pointer (some ⟨pb6, 0, none⟩)) rfl) ?_
      refine Wl_guard_t rfl ?_
      refine Wl_call (r_call1 rfl Try.call28 rfl) (at_spec _ hp7 (by omega) (by omega) (by omega)) ?_
      rintro v w12 ⟨rfl, hU12⟩
      have hzw12 := hU12.size
      replace hx := hx.upd0 hU12
      replace hb := hb.upd0 hU12
      replace HU := HU.trans0 hU12
      replace hO3 := hO3.upd0 hU12
      replace hO4 := hO4.upd0 hU12
      replace hO5 := hO5.upd0 hU12
      replace hO6 := hO6.upd0 hU12
      replace hp7 := hp7.upd0 hU12
      replace hO7 := hO7.upd0 hU12
      replace hB8 := hB8.upd0 hU12
      replace hO9 := hO9.upd0 hU12
      refine Wl_guard_t rfl ?_
      refine Wl_v (r_mv (v := .int .i64 (((gskip bs 0).2.1 : Nat) : Int)) rfl) ?_
      refine Wl_guard_t rfl ?_
      refine Wl_v (r_eq rfl rfl) ?_
      refine Wl_v (r_pick_t (v := .bool (decide ((((gskip bs 0).2.1 : Nat) : Int) = (((gskip bs 0).2.1 : Nat) : Int)))) rfl rfl) ?_
      refine Wl_v (r_mv (v := .bool (decide ((((gskip bs 0).2.1 : Nat) : Int) = (((gskip bs 0).2.1 : Nat) : Int)))) rfl) ?_
      have q6 : (((gskip bs 0).2.1 : Nat) : Int) = (((gskip bs 0).2.1 : Nat) : Int) := rfl
      rw [decide_eq_true q6]
      refine Wl_guard_t rfl ?_
      refine Wl_call (r_call0 rfl Try.call16 ) (known_spec _ ) ?_
      rintro v w13 ⟨rfl, hU13⟩
      have hzw13 := hU13.size
      replace hx := hx.upd0 hU13
      replace hb := hb.upd0 hU13
      replace HU := HU.trans0 hU13
      replace hO3 := hO3.upd0 hU13
      replace hO4 := hO4.upd0 hU13
      replace hO5 := hO5.upd0 hU13
      replace hO6 := hO6.upd0 hU13
      replace hp7 := hp7.upd0 hU13
      replace hO7 := hO7.upd0 hU13
      replace hB8 := hB8.upd0 hU13
      replace hO9 := hO9.upd0 hU13
      refine Wl_v (r_pick_t (v := .bool true) rfl rfl) ?_
      refine Wl_v (r_as (v := .bool true) rfl) ?_
      refine Wl_nil ?_
      refine W_ret ?_
      refine ret_end (v := .bool true) rfl (res1 Try.results11 rfl) ?_
      exact ⟨_, rfl, rfl, HU⟩

set_option maxHeartbeats 2000000 in
set_option maxRecDepth 100000 in
theorem headskipsback {ax ar : Option Addr} {m cx n cr : Nat} {xs rb : List Int} {at0 : Int} (w : World) (hx : Sl w (fun g => g < w.heap.size) 1 (.slice ax m cx) m (ints .u8 xs)) (bx : Byt xs) (nx : m ≤ 140737488351232) (hr : Sl w (fun g => g < w.heap.size) 1 (.slice ar n cr) n (ints .u8 rb)) (br : Byt rb) (nr : n ≤ 140737488351232) (rat0 : -9223372036854775808 ≤ at0 ∧ at0 ≤ 9223372036854775807) :
    Calls Try.prog 12 #[.slice ax m cx, .slice ar n cr, .int .i64 at0] w (Ret fun v w' => v = .bool true ∧ Upd No w w') := by
  have HU : Upd (fun b => False) w w := Upd.refl _ _
  have hl_hx := ilen hx
  have hc_hx := hx.cap.1
  have hl_hr := ilen hr
  have hc_hr := hr.cap.1
  refine calls_of_W Try.func12 rfl Try.ntmps12 (by simp) ?_
  refine W_seq ?_
  refine W_region ?_
  refine Wl_v (r_as (v := .bool false) rfl) ?_
  refine Wl_nil ?_
  refine W_seq ?_
  refine W_seq ?_
  refine W_region ?_
  refine Wl_v (r_mv (v := .slice ax m cx) rfl) ?_
  refine Wl_v (r_len Try.underlying35 rfl) ?_
  refine Wl_v (r_gt rfl rfl) ?_
  refine Wl_v (r_mv (v := .bool (decide (4000 < ((m : Nat) : Int)))) rfl) ?_
  by_cases q1 : 4000 < ((m : Nat) : Int)
  · rw [decide_eq_true q1]
    refine Wl_guard_f rfl ?_
    refine Wl_guard_f rfl ?_
    refine Wl_guard_f rfl ?_
    refine Wl_v (r_pick_t (v := .bool true) rfl rfl) ?_
    refine Wl_nil ?_
    refine W_cond_t rfl ?_
    refine W_seq ?_
    refine W_region ?_
    refine Wl_call (r_call0 rfl Try.call16 ) (known_spec _ ) ?_
    rintro v w1 ⟨rfl, hU1⟩
    have hzw1 := hU1.size
    replace hx := hx.upd0 hU1
    replace hr := hr.upd0 hU1
    replace HU := HU.trans0 hU1
    refine Wl_v (r_as (v := .bool true) rfl) ?_
    refine Wl_nil ?_
    refine W_ret ?_
    refine ret_end (v := .bool true) rfl (res1 Try.results12 rfl) ?_
    exact ⟨_, rfl, rfl, HU⟩
  · rw [decide_eq_false q1]
    refine Wl_guard_t rfl ?_
    refine Wl_v (r_mv (v := .slice ar n cr) rfl) ?_
    refine Wl_guard_t rfl ?_
    refine Wl_v (r_len Try.underlying35 rfl) ?_
    refine Wl_guard_t rfl ?_
    refine Wl_v (r_gt rfl rfl) ?_
    refine Wl_v (r_pick_f (v := .bool (decide (4000 < ((n : Nat) : Int)))) rfl rfl) ?_
    refine Wl_nil ?_
    by_cases q2 : 4000 < ((n : Nat) : Int)
    · rw [decide_eq_true q2]
      refine W_cond_t rfl ?_
      refine W_seq ?_
      refine W_region ?_
      refine Wl_call (r_call0 rfl Try.call16 ) (known_spec _ ) ?_
      rintro v w2 ⟨rfl, hU2⟩
      have hzw2 := hU2.size
      replace hx := hx.upd0 hU2
      replace hr := hr.upd0 hU2
      replace HU := HU.trans0 hU2
      refine Wl_v (r_as (v := .bool true) rfl) ?_
      refine Wl_nil ?_
      refine W_ret ?_
      refine ret_end (v := .bool true) rfl (res1 Try.results12 rfl) ?_
      exact ⟨_, rfl, rfl, HU⟩
    · rw [decide_eq_false q2]
      refine W_cond_f rfl ?_
      refine W_skip ?_
      refine W_seq ?_
      refine W_region ?_
      refine Wl_v (r_mv (v := .slice ax m cx) rfl) ?_
      refine Wl_call (r_call1 rfl Try.call32 rfl) (skippable_spec _ hx.any (by omega)) ?_
      rintro v w3 ⟨a3, m3, c3, rfl, hO3, hm_3, hU3⟩
      have hzw3 := hU3.size
      replace hx := hx.upd0 hU3
      replace hr := hr.upd0 hU3
      replace HU := HU.trans0 hU3
      replace hO3 := hO3.tight
      have hl_hO3 := ilen hO3.sl
      have hc_hO3 := hO3.sl.cap.1
      have hskl := skb_len xs
      refine Wl_v (r_mv (v := .tuple #[.slice a3 m3 c3, .int .i64 0]) rfl) ?_
      refine Wl_v (r_ext (v := .slice a3 m3 c3) rfl rfl) ?_
      refine Wl_v (r_ext (v := .int .i64 0) rfl rfl) ?_
      refine Wl_v (r_as (v := .slice a3 m3 c3) rfl) ?_
      refine Wl_v (r_as (v := .int .i64 0) rfl) ?_
      refine Wl_nil ?_
      refine W_seq ?_
      refine W_seq ?_
      refine W_region ?_
      refine Wl_v (r_mv (v := .int .i64 0) rfl) ?_
      refine Wl_v (v := .bool false) (r_ne (a := 0) (b := 0) rfl rfl) ?_
      refine Wl_v (r_mv (v := .bool false) rfl) ?_
      refine Wl_guard_t rfl ?_
      refine Wl_v (r_mv (v := .slice a3 m3 c3) rfl) ?_
      refine Wl_guard_t rfl ?_
      refine Wl_v (r_len Try.underlying35 rfl) ?_
      refine Wl_guard_t rfl ?_
      refine Wl_v (r_mv (v := .slice ax m cx) rfl) ?_
      refine Wl_guard_t rfl ?_
      refine Wl_v (r_len Try.underlying35 rfl) ?_
      refine Wl_guard_t rfl ?_
      refine Wl_v (r_add rfl rfl (wi64 (by omega) (by omega))) ?_
      refine Wl_guard_t rfl ?_
      refine Wl_v (r_ne rfl rfl) ?_
      refine Wl_v (r_pick_f (v := .bool (decide (((m3 : Nat) : Int) ≠ (((m : Nat) : Int) + 8)))) rfl rfl) ?_
      refine Wl_nil ?_
      have q3 : ¬ (((m3 : Nat) : Int) ≠ (((m : Nat) : Int) + 8)) := (by omega)
      rw [decide_eq_false q3]
      refine W_cond_f rfl ?_
      refine W_skip ?_
      refine W_seq ?_
      refine W_region ?_
      refine Wl_v (r_mv (v := .slice a3 m3 c3) rfl) ?_
      refine Wl_call (r_call1 rfl Try.call24 rfl) (own_spec _ hO3.sl.any (by omega)) ?_
      rintro v w4 ⟨a4, c4, rfl, hO4, hU4⟩
      have hzw4 := hU4.size
      replace hx := hx.upd0 hU4
      replace hr := hr.upd0 hU4
      replace HU := HU.trans0 hU4
      replace hO3 := hO3.upd0 hU4
      replace hO4 := hO4.tight
      have hl_hO4 := ilen hO4.sl
      have hc_hO4 := hO4.sl.cap.1
      refine Wl_v (r_mv (v := .slice ar n cr) rfl) ?_
      refine Wl_appendi (xs := skb xs) (ys := rb) (zs := (skb xs) ++ rb) (k' := .u8) (tot := m3 + n) (by first | rfl | simp) Try.underlying35 (ti := Try.t5) (z := .int .u8 0) (sz := 1) (by' := 1) rfl rfl rfl rfl rfl (by decide) rfl hO4 rfl hr  (by omega) (by simp only [maxLen]; omega) (by omega) ?_
      intro a5 c5 w5 hU5 hzz5 hO5
      clear hO4
      have hzw5 := hU5.size
      replace hx := hx.upd hU5 (by intro x h1 h2; have h3 : x < w.heap.size := h1; have h4 : ((w3.heap.size ≤ x) ∧ x < w4.heap.size) := h2; omega)
      replace hr := hr.upd hU5 (by intro x h1 h2; have h3 : x < w.heap.size := h1; have h4 : ((w3.heap.size ≤ x) ∧ x < w4.heap.size) := h2; omega)
      replace HU := HU.trans hU5 (by intro x hx; have hx2 : ((w3.heap.size ≤ x) ∧ x < w4.heap.size) := hx; show (False) ∨ w.heap.size ≤ x; omega)
      replace hO3 := hO3.upd hU5 (by intro x h1 h2; have h3 : ((w.heap.size ≤ x) ∧ x < w3.heap.size) := h1; have h4 : ((w3.heap.size ≤ x) ∧ x < w4.heap.size) := h2; omega)
      replace hO5 := hO5.tight
      have hl_hO5 := ilen hO5.sl
      have hc_hO5 := hO5.sl.cap.1
      refine Wl_call (r_call1 rfl Try.call23 rfl) (new_spec _ hO5.sl.any (by omega)) ?_
      rintro v w6 ⟨pb6, a6, c6, rfl, hp6, hO6, hpg_6, hU6⟩
      have hzw6 := hU6.size
      replace hx := hx.upd0 hU6
      replace hr := hr.upd0 hU6
      replace HU := HU.trans0 hU6
      replace hO3 := hO3.upd0 hU6
      replace hO5 := hO5.upd0 hU6
      have hbl_hp6 := hp6.lt
      replace hO6 := hO6.tight
      have hl_hO6 := ilen hO6.sl
      have hc_hO6 := hO6.sl.cap.1
      refine Wl_v (r_as (v := .pointer (some ⟨pb6, 0, none⟩)) rfl) ?_
      refine Wl_nil ?_
      refine W_seq ?_
      refine W_region ?_
      refine Wl_v (r_mv (v := .pointer (some ⟨pb6, 0, none⟩)) rfl) ?_
      refine Wl_call (r_call1 rfl Try.call31 rfl) (payload_at (ks := xs) (q := xs.length + 8) (er := 0) (p := 0) _ hp6 (hO6.sl.cur (by intro h1; have h3 : ((w5.heap.size ≤ pb6 ∧ pb6 ≠ pb6) ∧ pb6 < w6.heap.size) := h1; first | omega | simp at h3)) (byt_app (skb_byt bx (by omega)) br) (by omega) (by omega) (gskip_skb (by omega) rb)) ?_
      rintro v w7 ⟨a7, m7, c7, rfl, hp7, hO7, hm_7, hU7⟩
      have hzw7 := hU7.size
      replace hx := hx.upd1 hU7 (by intro h1; have h3 : pb6 < w.heap.size := h1; omega)
      replace hr := hr.upd1 hU7 (by intro h1; have h3 : pb6 < w.heap.size := h1; omega)
      replace HU := HU.trans1 hU7 (by show (False) ∨ w.heap.size ≤ pb6; omega)
      replace hO3 := hO3.upd1 hU7 (by intro h1; have h3 : ((w.heap.size ≤ pb6) ∧ pb6 < w3.heap.size) := h1; omega)
      replace hO5 := hO5.upd1 hU7 (by intro h1; have h3 : ((((((w3.heap.size ≤ pb6) ∧ pb6 < w4.heap.size)) ∨ pb6 = w4.heap.size)) ∧ pb6 < w5.heap.size) := h1; omega)
      replace hO6 := hO6.upd1 hU7 (by intro h1; have h3 : ((w5.heap.size ≤ pb6 ∧ pb6 ≠ pb6) ∧ pb6 < w6.heap.size) := h1; omega)
      have hbl_hp7 := hp7.lt
      replace hO7 := hO7.tight
      have hl_hO7 := ilen hO7.sl
      have hc_hO7 := hO7.sl.cap.1
      refine Wl_v (r_mv (v := .tuple #[.slice a7 m7 c7, .int .i64 0]) rfl) ?_
      refine Wl_v (r_ext (v := .slice a7 m7 c7) rfl rfl) ?_
      refine Wl_v (r_ext (v := .int .i64 0) rfl rfl) ?_
      refine Wl_v (r_as (v := .slice a7 m7 c7) rfl) ?_
      refine Wl_v (r_as (v := .int .i64 0) rfl) ?_
      refine Wl_nil ?_
      refine W_seq ?_
      refine W_region ?_
      refine Wl_v (r_mv (v := .slice a3 m3 c3) rfl) ?_
      refine Wl_v (r_mv (v := .int .i64 at0) rfl) ?_
      refine Wl_v (r_cvt Try.underlying3 Try.underlying52 rfl (mu64 _)) ?_
      refine Wl_v (r_mv (v := .slice a3 m3 c3) rfl) ?_
      refine Wl_v (r_len Try.underlying35 rfl) ?_
      refine Wl_v (r_cvt Try.underlying3 Try.underlying52 rfl (wu64 (by omega) (by omega))) ?_
      refine Wl_v (r_rem rfl rfl (by omega) (tr (by omega))) ?_
      obtain ⟨k, hk, hkl⟩ := mod_nat (x := at0 % 18446744073709551616) (m := m3) (by omega)
      rw [show ((at0 % 18446744073709551616) % ((m3 : Nat) : Int) : Int) = ((k : Nat) : Int) from hk]
      refine Wl_v (r_cvt Try.underlying52 Try.underlying3 rfl (wi64 (by omega) (by omega))) ?_
      refine Wl_v (r_slicehn (h' := k) Try.underlying35 Try.sizeOf5 rfl rfl (by omega) (by omega)) ?_
      have hT8 := Sl.cuth (n := k) hO3.sl (by omega)
      have hl_hT8 := ilen hT8
      have hc_hT8 := hT8.cap.1
      refine Wl_call (r_call1 rfl Try.call23 rfl) (new_spec _ hT8.any (by omega)) ?_
      rintro v w9 ⟨pb9, a9, c9, rfl, hp9, hO9, hpg_9, hU9⟩
      have hzw9 := hU9.size
      replace hx := hx.upd0 hU9
      replace hr := hr.upd0 hU9
      replace HU := HU.trans0 hU9
      replace hO3 := hO3.upd0 hU9
      replace hO5 := hO5.upd0 hU9
      replace hO6 := hO6.upd0 hU9
      replace hp7 := hp7.upd0 hU9
      replace hO7 := hO7.upd0 hU9
      replace hT8 := hT8.upd0 hU9
      have hbl_hp9 := hp9.lt
      replace hO9 := hO9.tight
      have hl_hO9 := ilen hO9.sl
      have hc_hO9 := hO9.sl.cap.1
      refine Wl_v (r_as (v := .pointer (some ⟨pb9, 0, none⟩)) rfl) ?_
      refine Wl_nil ?_
      refine W_seq ?_
      refine W_region ?_
      refine Wl_v (r_mv (v := .pointer (some ⟨pb9, 0, none⟩)) rfl) ?_
      refine Wl_call (r_call1 rfl Try.call31 rfl) (payload_at (ks := []) (q := 0) (er := 3) (p := 0) _ hp9 (hO9.sl.cur (by intro h1; have h3 : ((w7.heap.size ≤ pb9 ∧ pb9 ≠ pb9) ∧ pb9 < w9.heap.size) := h1; first | omega | simp at h3)) (byt_take (skb_byt bx (by omega)) _) (by omega) (by omega) (gskip_cut (by omega) (by omega))) ?_
      rintro v w10 ⟨a10, m10, c10, rfl, hp10, hO10, hm_10, hU10⟩
      have hzw10 := hU10.size
      replace hx := hx.upd1 hU10 (by intro h1; have h3 : pb9 < w.heap.size := h1; omega)
      replace hr := hr.upd1 hU10 (by intro h1; have h3 : pb9 < w.heap.size := h1; omega)
      replace HU := HU.trans1 hU10 (by show (False) ∨ w.heap.size ≤ pb9; omega)
      replace hO3 := hO3.upd1 hU10 (by intro h1; have h3 : ((w.heap.size ≤ pb9) ∧ pb9 < w3.heap.size) := h1; omega)
      replace hO5 := hO5.upd1 hU10 (by intro h1; have h3 : ((((((w3.heap.size ≤ pb9) ∧ pb9 < w4.heap.size)) ∨ pb9 = w4.heap.size)) ∧ pb9 < w5.heap.size) := h1; omega)
      replace hO6 := hO6.upd1 hU10 (by intro h1; have h3 : ((w5.heap.size ≤ pb9 ∧ pb9 ≠ pb6) ∧ pb9 < w6.heap.size) := h1; omega)
      replace hp7 := hp7.upd1 hU10 (by omega)
      replace hO7 := hO7.upd1 hU10 (by intro h1; have h3 : ((w6.heap.size ≤ pb9) ∧ pb9 < w7.heap.size) := h1; omega)
      replace hT8 := hT8.upd1 hU10 (by intro h1; have h3 : ((w.heap.size ≤ pb9) ∧ pb9 < w3.heap.size) := h1; omega)
      replace hO9 := hO9.upd1 hU10 (by intro h1; have h3 : ((w7.heap.size ≤ pb9 ∧ pb9 ≠ pb9) ∧ pb9 < w9.heap.size) := h1; omega)
      have hbl_hp10 := hp10.lt
      replace hO10 := hO10.tight
      have hl_hO10 := ilen hO10.sl
      have hc_hO10 := hO10.sl.cap.1
      have hzl := hm_10
      simp only [List.length_nil] at hzl
      refine Wl_v (r_mv (v := .tuple #[.slice a10 m10 c10, .int .i64 3]) rfl) ?_
      refine Wl_v (r_ext (v := .slice a10 m10 c10) rfl rfl) ?_
      refine Wl_v (r_ext (v := .int .i64 3) rfl rfl) ?_
      refine Wl_v (r_as (v := .slice a10 m10 c10) rfl) ?_
      refine Wl_v (r_as (v := .int .i64 3) rfl) ?_
      refine Wl_nil ?_
      refine W_seq ?_
      refine W_region ?_
      refine Wl_v (r_mv (v := .int .i64 0) rfl) ?_
      refine Wl_v (v := .bool true) (r_eq (a := 0) (b := 0) rfl rfl) ?_
      refine Wl_v (r_mv (v := .bool true) rfl) ?_
      refine Wl_guard_t rfl ?_
      refine Wl_v (r_mv (v := .slice a7 m7 c7) rfl) ?_
      refine Wl_guard_t rfl ?_
      refine Wl_v (r_mv (v := .slice ax m cx) rfl) ?_
      refine Wl_guard_t rfl ?_
      refine Wl_call (r_call2 rfl Try.call21 rfl rfl) (same_spec _ hO7.sl.any hx.any bx bx) ?_
      rintro v w11 ⟨rfl, hU11⟩
      have hzw11 := hU11.size
      replace hx := hx.upd0 hU11
      replace hr := hr.upd0 hU11
      replace HU := HU.trans0 hU11
      replace hO3 := hO3.upd0 hU11
      replace hO5 := hO5.upd0 hU11
      replace hO6 := hO6.upd0 hU11
      replace hp7 := hp7.upd0 hU11
      replace hO7 := hO7.upd0 hU11
      replace hT8 := hT8.upd0 hU11
      replace hO9 := hO9.upd0 hU11
      replace hp10 := hp10.upd0 hU11
      replace hO10 := hO10.upd0 hU11
      refine Wl_v (r_pick_t (v := .bool (decide (xs = xs))) rfl rfl) ?_
      refine Wl_v (r_mv (v := .bool (decide (xs = xs))) rfl) ?_
      have q4 : xs = xs := rfl
      rw [decide_eq_true q4]
      refine Wl_guard_t rfl ?_
      refine Wl_v (r_mv (v := .pointer (some ⟨pb6, 0, none⟩)) rfl) ?_
      refine Wl_guard_t rfl ?_
      refine Wl_call (r_call1 rfl Try.call28 rfl) (at_spec _ hp7 (by omega) (by omega) (by omega)) ?_
      rintro v w12 ⟨rfl, hU12⟩
      have hzw12 := hU12.size
      replace hx := hx.upd0 hU12
      replace hr := hr.upd0 hU12
      replace HU := HU.trans0 hU12
      replace hO3 := hO3.upd0 hU12
      replace hO5 := hO5.upd0 hU12
      replace hO6 := hO6.upd0 hU12
      replace hp7 := hp7.upd0 hU12
      replace hO7 := hO7.upd0 hU12
      replace hT8 := hT8.upd0 hU12
      replace hO9 := hO9.upd0 hU12
      replace hp10 := hp10.upd0 hU12
      replace hO10 := hO10.upd0 hU12
      refine Wl_guard_t rfl ?_
      refine Wl_v (r_mv (v := .slice a3 m3 c3) rfl) ?_
      refine Wl_guard_t rfl ?_
      refine Wl_v (r_len Try.underlying35 rfl) ?_
      refine Wl_guard_t rfl ?_
      refine Wl_v (r_eq rfl rfl) ?_
      refine Wl_v (r_pick_t (v := .bool (decide ((((xs.length + 8) : Nat) : Int) = ((m3 : Nat) : Int)))) rfl rfl) ?_
      refine Wl_v (r_mv (v := .bool (decide ((((xs.length + 8) : Nat) : Int) = ((m3 : Nat) : Int)))) rfl) ?_
      have q5 : (((xs.length + 8) : Nat) : Int) = ((m3 : Nat) : Int) := (by omega)
      rw [decide_eq_true q5]
      refine Wl_guard_t rfl ?_
      refine Wl_v (r_mv (v := .int .i64 3) rfl) ?_
      refine Wl_guard_t rfl ?_
      refine Wl_v (v := .bool true) (r_eq (a := 3) (b := 3) rfl rfl) ?_
      refine Wl_v (r_pick_t (v := .bool true) rfl rfl) ?_
      refine Wl_v (r_mv (v := .bool true) rfl) ?_
      refine Wl_guard_t rfl ?_
      refine Wl_v (r_mv (v := .slice a10 m10 c10) rfl) ?_
      refine Wl_guard_t rfl ?_
      refine Wl_v (r_len Try.underlying35 rfl) ?_
      refine Wl_guard_t rfl ?_
      refine Wl_v (r_eq rfl rfl) ?_
      refine Wl_v (r_pick_t (v := .bool (decide (((m10 : Nat) : Int) = 0))) rfl rfl) ?_
      refine Wl_v (r_mv (v := .bool (decide (((m10 : Nat) : Int) = 0))) rfl) ?_
      have q6 : ((m10 : Nat) : Int) = 0 := (by omega)
      rw [decide_eq_true q6]
      refine Wl_guard_t rfl ?_
      refine Wl_v (r_mv (v := .pointer (some ⟨pb9, 0, none⟩)) rfl) ?_
      refine Wl_guard_t rfl ?_
      refine Wl_call (r_call1 rfl Try.call28 rfl) (at_spec _ hp10 (by omega) (by omega) (by omega)) ?_
      rintro v w13 ⟨rfl, hU13⟩
      have hzw13 := hU13.size
      replace hx := hx.upd0 hU13
      replace hr := hr.upd0 hU13
      replace HU := HU.trans0 hU13
      replace hO3 := hO3.upd0 hU13
      replace hO5 := hO5.upd0 hU13
      replace hO6 := hO6.upd0 hU13
      replace hp7 := hp7.upd0 hU13
      replace hO7 := hO7.upd0 hU13
      replace hT8 := hT8.upd0 hU13
      replace hO9 := hO9.upd0 hU13
      replace hp10 := hp10.upd0 hU13
      replace hO10 := hO10.upd0 hU13
      refine Wl_guard_t rfl ?_
      refine Wl_v (r_eq rfl rfl) ?_
      refine Wl_v (r_pick_t (v := .bool (decide (((0 : Nat) : Int) = 0))) rfl rfl) ?_
      refine Wl_v (r_mv (v := .bool (decide (((0 : Nat) : Int) = 0))) rfl) ?_
      have q7 : ((0 : Nat) : Int) = 0 := (by omega)
      rw [decide_eq_true q7]
      refine Wl_guard_t rfl ?_
      refine Wl_call (r_call0 rfl Try.call16 ) (known_spec _ ) ?_
      rintro v w14 ⟨rfl, hU14⟩
      have hzw14 := hU14.size
      replace hx := hx.upd0 hU14
      replace hr := hr.upd0 hU14
      replace HU := HU.trans0 hU14
      replace hO3 := hO3.upd0 hU14
      replace hO5 := hO5.upd0 hU14
      replace hO6 := hO6.upd0 hU14
      replace hp7 := hp7.upd0 hU14
      replace hO7 := hO7.upd0 hU14
      replace hT8 := hT8.upd0 hU14
      replace hO9 := hO9.upd0 hU14
      replace hp10 := hp10.upd0 hU14
      replace hO10 := hO10.upd0 hU14
      refine Wl_v (r_pick_t (v := .bool true) rfl rfl) ?_
      refine Wl_v (r_as (v := .bool true) rfl) ?_
      refine Wl_nil ?_
      refine W_ret ?_
      refine ret_end (v := .bool true) rfl (res1 Try.results12 rfl) ?_
      exact ⟨_, rfl, rfl, HU⟩

set_option maxRecDepth 100000 in
theorem headnil  (w : World)  :
    Calls Try.prog 10 #[] w (Ret fun v w' => v = .bool true ∧ Upd No w w') := by
  have HU : Upd (fun b => False) w w := Upd.refl _ _
  refine calls_of_W Try.func10 rfl Try.ntmps10 (by simp) ?_
  refine W_seq ?_
  refine W_region ?_
  refine Wl_v (r_as (v := .bool false) rfl) ?_
  refine Wl_nil ?_
  refine W_seq ?_
  refine W_region ?_
  refine Wl_call (r_call1 rfl Try.call26 rfl) (get_nil _ ) ?_
  rintro v w1 ⟨rfl, hU1⟩
  have hzw1 := hU1.size
  replace HU := HU.trans0 hU1
  refine Wl_v (r_mv (v := .tuple #[.agg #[.int .i64 0, .int .i64 0, .int .u32 0, .bool false], .int .i64 1]) rfl) ?_
  refine Wl_v (r_ext (v := .agg #[.int .i64 0, .int .i64 0, .int .u32 0, .bool false]) rfl rfl) ?_
  refine Wl_v (r_ext (v := .int .i64 1) rfl rfl) ?_
  refine Wl_alloc (cs := [.int .i64 0, .int .i64 0, .int .u32 0, .bool false]) Try.zeroValue34 rfl ?_
  intro B2 w2 hB2 hU2 hzz2 hb2
  have hzw2 := hU2.size
  replace HU := HU.trans0 hU2
  refine Wl_storea (off := 0) (vs := [.int .i64 0, .int .i64 0, .int .u32 0, .bool false]) (cs' := [.int .i64 0, .int .i64 0, .int .u32 0, .bool false]) Try.sizeOf34 rfl rfl rfl (by simp only [List.mem_cons, List.not_mem_nil, or_false, forall_eq_or_imp, forall_eq]; exact ⟨rfl, rfl, rfl, rfl⟩) hb2 (by simp) rfl ?_
  intro w3 hU3 hzz3 hb2n
  replace hb2 := hb2n; clear hb2n
  have hzw3 := hU3.size
  replace HU := HU.trans1 hU3 (by show (False) ∨ w.heap.size ≤ B2; omega)
  refine Wl_v (r_as (v := .int .i64 1) rfl) ?_
  refine Wl_nil ?_
  refine W_seq ?_
  refine W_region ?_
  refine Wl_call (r_call1 rfl Try.call29 rfl) (isf_nil _ ) ?_
  rintro v w4 ⟨rfl, hU4⟩
  have hzw4 := hU4.size
  replace HU := HU.trans0 hU4
  replace hb2 := hb2.upd0 hU4
  refine Wl_v (r_mv (v := .tuple #[.bool false, .int .i64 1]) rfl) ?_
  refine Wl_v (r_ext (v := .bool false) rfl rfl) ?_
  refine Wl_v (r_ext (v := .int .i64 1) rfl rfl) ?_
  refine Wl_v (r_as (v := .bool false) rfl) ?_
  refine Wl_v (r_as (v := .int .i64 1) rfl) ?_
  refine Wl_nil ?_
  refine W_seq ?_
  refine W_region ?_
  refine Wl_call (r_call1 rfl Try.call31 rfl) (payload_nil _ ) ?_
  rintro v w5 ⟨rfl, hU5⟩
  have hzw5 := hU5.size
  replace HU := HU.trans0 hU5
  replace hb2 := hb2.upd0 hU5
  refine Wl_v (r_mv (v := .tuple #[.slice none 0 0, .int .i64 1]) rfl) ?_
  refine Wl_v (r_ext (v := .slice none 0 0) rfl rfl) ?_
  refine Wl_v (r_ext (v := .int .i64 1) rfl rfl) ?_
  refine Wl_v (r_as (v := .slice none 0 0) rfl) ?_
  refine Wl_v (r_as (v := .int .i64 1) rfl) ?_
  refine Wl_nil ?_
  refine W_seq ?_
  refine W_region ?_
  refine Wl_alloc (cs := [.slice none 0 0, .int .i64 0]) Try.zeroValue61 rfl ?_
  intro B6 w6 hB6 hU6 hzz6 hb6
  have hzw6 := hU6.size
  replace HU := HU.trans0 hU6
  replace hb2 := hb2.upd0 hU6
  refine Wl_nil ?_
  refine W_seq ?_
  refine W_region ?_
  refine Wl_call (r_call1 rfl Try.call26 rfl) (get_at (bs := []) (wz := 0) (sz := 0) (dn := 0) (sm := false) (q := 0) (er := 3) (p := 0) _ hb6 (Sl.nil _ _ _) byt_nil (by omega) (by omega) (by decide +kernel)) ?_
  rintro v w7 ⟨rfl, hp7, hU7⟩
  have hzw7 := hU7.size
  replace HU := HU.trans1 hU7 (by show (False) ∨ w.heap.size ≤ B6; omega)
  replace hb2 := hb2.upd1 hU7 (by omega)
  have hbl_hp7 := hp7.lt
  refine Wl_v (r_mv (v := .tuple #[.agg #[.int .i64 0, .int .i64 0, .int .u32 0, .bool (decide (false = true))], .int .i64 3]) rfl) ?_
  refine Wl_v (r_ext (v := .agg #[.int .i64 0, .int .i64 0, .int .u32 0, .bool (decide (false = true))]) rfl rfl) ?_
  refine Wl_v (r_ext (v := .int .i64 3) rfl rfl) ?_
  refine Wl_alloc (cs := [.int .i64 0, .int .i64 0, .int .u32 0, .bool false]) Try.zeroValue34 rfl ?_
  intro B8 w8 hB8 hU8 hzz8 hb8
  have hzw8 := hU8.size
  replace HU := HU.trans0 hU8
  replace hb2 := hb2.upd0 hU8
  replace hp7 := hp7.upd0 hU8
  refine Wl_storea (off := 0) (vs := [.int .i64 0, .int .i64 0, .int .u32 0, .bool (decide (false = true))]) (cs' := [.int .i64 0, .int .i64 0, .int .u32 0, .bool (decide (false = true))]) Try.sizeOf34 rfl rfl rfl (by simp only [List.mem_cons, List.not_mem_nil, or_false, forall_eq_or_imp, forall_eq]; exact ⟨rfl, rfl, rfl, rfl⟩) hb8 (by simp) rfl ?_
  intro w9 hU9 hzz9 hb8n
  replace hb8 := hb8n; clear hb8n
  have hzw9 := hU9.size
  replace HU := HU.trans1 hU9 (by show (False) ∨ w.heap.size ≤ B8; omega)
  replace hb2 := hb2.upd1 hU9 (by omega)
  replace hp7 := hp7.upd1 hU9 (by omega)
  refine Wl_v (r_as (v := .int .i64 3) rfl) ?_
  refine Wl_nil ?_
  refine W_seq ?_
  refine W_region ?_
  refine Wl_v (r_loada (b := B2) (off := 0) (cs := [.int .i64 0, .int .i64 0, .int .u32 0, .bool false]) Try.isAgg34 Try.sizeOf34 rfl rfl (fun j hj => by rw [hb2.cell]; match j, hj with | 0, _ => rfl | 1, _ => rfl | 2, _ => rfl | 3, _ => rfl)) ?_
  refine Wl_v (r_build (pl := #[(0, 1), (1, 1), (2, 1), (3, 1)]) (pv := []) (cs := #[.int .i64 0, .int .i64 0, .int .u32 0, .bool false]) Try.zeroValue34 Try.underlying34 (fun w => by kernel_rfl) (by simp only [List.map_toArray, List.map_cons, List.map_nil] <;> rfl) (by kernel_rfl)) ?_
  refine Wl_v (r_eqag (pp := 0 = 0 ∧ 0 = 0 ∧ 0 = 0 ∧ false = false) Try.underlying34 (by kernel_rfl) (by kernel_rfl) rfl rfl (fun w => eqf_int (by decide) Try.underlying3 Try.isAgg3 rfl rfl (fun w => eqf_int (by decide) Try.underlying3 Try.isAgg3 rfl rfl (fun w => eqf_int (by decide) Try.underlying32 Try.isAgg32 rfl rfl (fun w => eqf_bool (by decide) Try.underlying4 Try.isAgg4 rfl rfl (fun w => eqf_nil))))) (by simp [Bool.decide_and])) ?_
  refine Wl_v (r_mv (v := .bool (decide (0 = 0 ∧ 0 = 0 ∧ 0 = 0 ∧ false = false))) rfl) ?_
  have q1 : 0 = 0 ∧ 0 = 0 ∧ 0 = 0 ∧ false = false := ⟨rfl, rfl, rfl, rfl⟩
  rw [decide_eq_true q1]
  refine Wl_guard_t rfl ?_
  refine Wl_v (r_mv (v := .int .i64 1) rfl) ?_
  refine Wl_guard_t rfl ?_
  refine Wl_v (v := .bool true) (r_eq (a := 1) (b := 1) rfl rfl) ?_
  refine Wl_v (r_pick_t (v := .bool true) rfl rfl) ?_
  refine Wl_v (r_mv (v := .bool true) rfl) ?_
  refine Wl_guard_t rfl ?_
  refine Wl_v (r_mv (v := .bool false) rfl) ?_
  refine Wl_guard_t rfl ?_
  refine Wl_v (r_not (b := false) rfl) ?_
  refine Wl_v (r_pick_t (v := .bool true) rfl rfl) ?_
  refine Wl_v (r_mv (v := .bool true) rfl) ?_
  refine Wl_guard_t rfl ?_
  refine Wl_v (r_mv (v := .int .i64 1) rfl) ?_
  refine Wl_guard_t rfl ?_
  refine Wl_v (v := .bool true) (r_eq (a := 1) (b := 1) rfl rfl) ?_
  refine Wl_v (r_pick_t (v := .bool true) rfl rfl) ?_
  refine Wl_v (r_mv (v := .bool true) rfl) ?_
  refine Wl_guard_t rfl ?_
  refine Wl_v (r_mv (v := .slice none 0 0) rfl) ?_
  refine Wl_guard_t rfl ?_
  refine Wl_v (r_len Try.underlying35 rfl) ?_
  refine Wl_guard_t rfl ?_
  refine Wl_v (v := .bool true) (r_eq (a := 0) (b := 0) rfl rfl) ?_
  refine Wl_v (r_pick_t (v := .bool true) rfl rfl) ?_
  refine Wl_v (r_mv (v := .bool true) rfl) ?_
  refine Wl_guard_t rfl ?_
  refine Wl_v (r_mv (v := .int .i64 1) rfl) ?_
  refine Wl_guard_t rfl ?_
  refine Wl_v (v := .bool true) (r_eq (a := 1) (b := 1) rfl rfl) ?_
  refine Wl_v (r_pick_t (v := .bool true) rfl rfl) ?_
  refine Wl_v (r_mv (v := .bool true) rfl) ?_
  refine Wl_guard_t rfl ?_
  refine Wl_v (r_mv (v := .int .i64 3) rfl) ?_
  refine Wl_guard_t rfl ?_
  refine Wl_v (v := .bool true) (r_eq (a := 3) (b := 3) rfl rfl) ?_
  refine Wl_v (r_pick_t (v := .bool true) rfl rfl) ?_
  refine Wl_v (r_mv (v := .bool true) rfl) ?_
  refine Wl_guard_t rfl ?_
  refine Wl_call (r_call0 rfl Try.call16 ) (known_spec _ ) ?_
  rintro v w10 ⟨rfl, hU10⟩
  have hzw10 := hU10.size
  replace HU := HU.trans0 hU10
  replace hb2 := hb2.upd0 hU10
  replace hp7 := hp7.upd0 hU10
  replace hb8 := hb8.upd0 hU10
  refine Wl_v (r_pick_t (v := .bool true) rfl rfl) ?_
  refine Wl_v (r_as (v := .bool true) rfl) ?_
  refine Wl_nil ?_
  refine W_ret ?_
  refine ret_end (v := .bool true) rfl (res1 Try.results10 rfl) ?_
  exact ⟨_, rfl, rfl, HU⟩

end Go.Proofs.Ytflmjdnhjbiobaa
