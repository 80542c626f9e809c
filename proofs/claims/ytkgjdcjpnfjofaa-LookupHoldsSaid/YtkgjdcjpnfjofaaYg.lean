/-
  Walks, printed by a small program of this project (gen.py).
-/
import Derived.Test.YtkgjdcjpnfjofaaYf
set_option linter.unusedVariables false
set_option linter.unusedSimpArgs false
namespace Go.Proofs.Ytkgjdcjpnfjofaa
open Go.Fw

theorem ord_inj {l : List Int} (hr : Rt l) {a b : Nat} (hab : a < b) (hb : b < (ord l).length) : (ord l).getD a 0 ≠ (ord l).getD b 0 := by
  intro e
  obtain ⟨j, hj, hjl, h0, _⟩ := ord_at (l := l) (i := b) hb
  have hja : (ord l).getD a 0 = (j : Int) := by rw [e, hj]
  have hp : pos l b < pos l (b + 1) := by have := pos_succ hb hj; have := kw_pos h0; omega
  have h1 := (beg_iff hb hj h0 (b := pos l b)).2 ⟨Int.le_refl _, hp⟩
  have h2 := (beg_iff (Nat.lt_trans hab hb) hja h0 (b := pos l b)).1 h1
  have h3 := pos_mono (l := l) (a := a + 1) (b := b) (by omega)
  omega
theorem os_fst {l : List Int} {k : Nat} (hk : k < (ord l).length) : ((os l).getD k (0, 0)).1 = (ord l).getD k 0 := by
  rw [List.getD_eq_getElem?_getD, List.getElem?_eq_getElem (by rw [os_len]; exact hk)]
  simp only [os, List.getElem_map, Option.getD_some]
  rw [List.getD_eq_getElem?_getD, List.getElem?_eq_getElem hk]; rfl
def Rn (l : List Int) (i k : Nat) : Prop := k ≤ (ord l).length ∧ ((i = 0 ∧ k = 0) ∨ (0 < k ∧ rp l (k - 1) < i ∧ i ≤ rp l k))
theorem rp_step {l : List Int} (hr : Rt l) {k : Nat} (hk : k < (ord l).length) : rp l k < rp l (k + 1) := by
  have h1 := rp_succ hr hk
  have h3 : 0 < 2 ^ ((bt l : Int) - ((os l).getD k (0, 0)).2).toNat := Nat.pow_pos (by decide)
  omega
theorem Rn.new {l : List Int} (hr : Rt l) {i k : Nat} (h : Rn l i k) (hi : i < 2 ^ bt l) (hc : i = 0 ∨ ¬ ent l i = ent l (i - 1)) : k < (ord l).length ∧ i = rp l k ∧ Rn l (i + 1) (k + 1) ∧ ent l i = (os l).getD k (0, 0) := by
  have hra := rp_all hr
  have key : k < (ord l).length ∧ i = rp l k := by
    obtain ⟨h1, h2⟩ := h
    rcases h2 with ⟨rfl, rfl⟩ | ⟨h2, h3, h4⟩
    · exact ⟨ord_pos hr, (rp_zero l).symm⟩
    · have hk : k < (ord l).length := by
        rcases Nat.lt_or_ge k (ord l).length with h | h
        · exact h
        · exfalso
          have ek : k = (ord l).length := by omega
          have e1 := rp_ent hr (k := k - 1) (i := i) (by omega) (by omega) (by rw [show k - 1 + 1 = k from by omega, ek, hra]; exact hi)
          have e2 := rp_ent hr (k := k - 1) (i := i - 1) (by omega) (by omega) (by rw [show k - 1 + 1 = k from by omega, ek, hra]; omega)
          rcases hc with hc | hc
          · omega
          · exact hc (by rw [e1, e2])
      refine ⟨hk, ?_⟩
      rcases Nat.lt_or_ge i (rp l k) with h | h
      · exfalso
        have e1 := rp_ent hr (k := k - 1) (i := i) (by omega) (by omega) (by rw [show k - 1 + 1 = k from by omega]; exact h)
        have e2 := rp_ent hr (k := k - 1) (i := i - 1) (by omega) (by omega) (by rw [show k - 1 + 1 = k from by omega]; omega)
        rcases hc with hc | hc
        · omega
        · exact hc (by rw [e1, e2])
      · omega
  obtain ⟨hk, rfl⟩ := key
  have := rp_step hr hk
  exact ⟨hk, rfl, ⟨by omega, .inr ⟨by omega, by rw [Nat.add_sub_cancel]; omega, by omega⟩⟩, os_at2 hr hk⟩
theorem Rn.old {l : List Int} (hr : Rt l) {i k : Nat} (h : Rn l i k) (hi : i < 2 ^ bt l) (h0 : i ≠ 0) (hc : ent l i = ent l (i - 1)) : Rn l (i + 1) k := by
  have hra := rp_all hr
  obtain ⟨h1, h2⟩ := h
  rcases h2 with ⟨h2, _⟩ | ⟨h2, h3, h4⟩
  · omega
  · refine ⟨h1, .inr ⟨h2, by omega, ?_⟩⟩
    rcases Nat.lt_or_ge i (rp l k) with h | h
    · omega
    · exfalso
      have hk : k < (ord l).length := by
        rcases Nat.lt_or_ge k (ord l).length with h' | h'
        · exact h'
        · have : k = (ord l).length := by omega
          rw [this, hra] at h; omega
      have ei : i = rp l k := by omega
      subst ei
      have e1 := os_at2 hr hk
      have e2 := rp_ent hr (k := k - 1) (i := rp l k - 1) (by omega) (by omega) (by rw [show k - 1 + 1 = k from by omega]; omega)
      rw [e1, e2] at hc
      have e3 := congrArg Prod.fst hc
      rw [os_fst hk, os_fst (by omega)] at e3
      exact ord_inj hr (a := k - 1) (b := k) (by omega) hk e3.symm
theorem Rn.fin {l : List Int} (hr : Rt l) {k : Nat} (h : Rn l (2 ^ bt l) k) : k = (ord l).length := by
  obtain ⟨h1, h2⟩ := h
  have h0 : 0 < 2 ^ bt l := Nat.pow_pos (by decide)
  rcases h2 with ⟨h2, _⟩ | ⟨h2, h3, h4⟩
  · omega
  · rcases Nat.lt_or_ge k (ord l).length with h' | h'
    · have := rp_lt hr h'; omega
    · omega
def rps (l : List Int) (k : Nat) : List Int := tabn k fun j => ((rp l j : Nat) : Int)
theorem rps_s (l : List Int) (k : Nat) : rps l (k + 1) = rps l k ++ [((rp l k : Nat) : Int)] := by simp [rps, tabn, List.range_succ]
theorem rps_len (l : List Int) (k : Nat) : (rps l k).length = k := tabn_len _ _
theorem rps_get {l : List Int} {k i : Nat} (h : i < k) : (rps l k).getD i 0 = ((rp l i : Nat) : Int) := tabn_get _ _ h
theorem os_step {l : List Int} {k : Nat} (hk : k < (ord l).length) : (os l).take (k + 1) = (os l).take k ++ [(os l).getD k (0, 0)] := by
  rw [List.take_add_one, List.getElem?_eq_getElem (by rw [os_len]; exact hk), List.getD_eq_getElem?_getD, List.getElem?_eq_getElem (by rw [os_len]; exact hk)]; rfl

set_option maxHeartbeats 2000000 in
set_option maxRecDepth 100000 in
theorem rruns_t {a : Option Addr} {n c : Nat} {l : List Int} {R : Nat → Prop} (w : World) (hs : Sl w R 1 (.slice a n c) n (ints .i64 l)) (hn : n ≤ 17592186044415) (hr : Rt l) :
    Calls Try.prog 26 #[.slice a n c] w (Ret fun v w' => ∃ (a' : Option Addr) (c' : Nat) (b' : Option Addr) (d' : Nat), v = .tuple #[.slice a' ((ord l).length) c', .slice b' ((ord l).length) d'] ∧ Own w' (fun g => w.heap.size ≤ g) 3 1 (.slice a' ((ord l).length) c') ((ord l).length) (ints .i64 (rps l (ord l).length)) ∧ Own w' (fun g => w.heap.size ≤ g) 38 2 (.slice b' ((ord l).length) d') ((ord l).length) (rows encE (os l)) ∧ Upd No w w') := by
  have HU : Upd (fun b => False) w w := Upd.refl _ _
  have hl_hs := ilen hs
  have hc_hs := hs.cap.1
  replace hs := hs.tight
  have hbt := bt_bd hr
  have hmx := mx_bt l
  have h11 := (p2_le11 hbt.2).2
  have hpn := p2_nat (bt l)
  have h256 := hr.2.1
  have hol_ := ord_len l
  refine calls_of_W Try.func26 rfl Try.ntmps26 (by simp) ?_
  refine W_seq ?_
  refine W_region ?_
  refine Wl_v (r_as (v := .slice none 0 0) rfl) ?_
  refine Wl_v (r_as (v := .slice none 0 0) rfl) ?_
  refine Wl_nil ?_
  refine W_seq ?_
  refine W_region ?_
  refine Wl_v (r_mv (v := .slice a n c) rfl) ?_
  refine Wl_call (r_call1 rfl Try.call13 rfl) (of_t _ hs (by omega) (by omega)) ?_
  rintro v w1 ⟨a1, c1, rfl, hO1, hU1⟩
  have hzw1 := hU1.size
  replace hs := hs.upd0 hU1
  replace HU := HU.trans0 hU1
  replace hO1 := hO1.tight
  have hl_hO1 := rlen encE_len (by decide) hO1.sl
  have hc_hO1 := hO1.sl.cap.1
  refine Wl_v (r_mv (v := .tuple #[.slice a1 (2 ^ bt l) c1, .int .i64 0]) rfl) ?_
  refine Wl_v (r_ext (v := .slice a1 (2 ^ bt l) c1) rfl rfl) ?_
  refine Wl_v (r_ext (v := .int .i64 0) rfl rfl) ?_
  refine Wl_v (r_as (v := .slice a1 (2 ^ bt l) c1) rfl) ?_
  refine Wl_v (r_as (v := .int .i64 0) rfl) ?_
  refine Wl_nil ?_
  refine W_seq ?_
  refine W_region ?_
  refine Wl_v (r_as (v := .slice none 0 0) rfl) ?_
  refine Wl_nil ?_
  refine W_seq ?_
  refine W_region ?_
  refine Wl_v (r_as (v := .slice none 0 0) rfl) ?_
  refine Wl_nil ?_
  refine W_seq ?_
  refine W_seq ?_
  refine W_region ?_
  refine Wl_v (r_as (v := .int .i64 0) rfl) ?_
  refine Wl_nil ?_
  refine W_block ?_
  refine W_loop (fun mu ρ ds w' => ∃ (i k : Nat) (a2 : Option Addr) (c2 : Nat) (a3 : Option Addr) (c3 : Nat) (ga gb : Nat), 2 ^ bt l - i = mu ∧ ds = [] ∧ Liv ρ [(4, .slice a1 (2 ^ bt l) c1), (6, .slice a2 k c2), (7, .slice a3 k c3), (8, .int .i64 ((i : Nat) : Int))] ∧ i ≤ 2 ^ bt l ∧ Rn l i k ∧ (ga ≠ gb ∧ w1.heap.size ≤ ga ∧ w1.heap.size ≤ gb) ∧ Own w' (fun g => g = ga) 3 1 (.slice a2 k c2) k (ints .i64 (rps l k)) ∧ Own w' (fun g => g = gb) 38 2 (.slice a3 k c3) k (rows encE ((os l).take k)) ∧ Upd (fun g => w1.heap.size ≤ g) w1 w') _ ⟨0, 0, none, 0, none, 0, w1.heap.size, (w1.heap.size + 1), rfl, rfl, ⟨rfl, (by first | rfl | exact vint (by omega) | exact vint (by simp)), (by first | rfl | exact vint (by omega) | exact vint (by simp)), (by first | rfl | exact vint (by omega) | exact vint (by simp)), trivial⟩, (Nat.zero_le _), ⟨Nat.zero_le _, .inl ⟨rfl, rfl⟩⟩, (by omega), (by simpa [rps, tabn] using Own.nil _ _ _ _), (by simpa [rows] using Own.nil _ _ _ _), Upd.refl _ _⟩ ?_
  rintro m2 ρ2 ds2 w2 ⟨i, k, a2, c2, a3, c3, ga, gb, rfl, rfl, hl2, hi, hRn, hgab, hA, hO, hU2⟩
  obtain ⟨ρ2x, rfl⟩ : ∃ ρx, ρ2 = upds ρx [(4, .slice a1 (2 ^ bt l) c1), (6, .slice a2 k c2), (7, .slice a3 k c3), (8, .int .i64 ((i : Nat) : Int))] := ⟨_, upds_self hl2⟩
  clear hl2
  have hzw2 := hU2.size
  replace hs := hs.upd hU2 (by intro x h1 h2; have h3 : ((R x) ∧ x < w.heap.size) := h1; have h4 : w1.heap.size ≤ x := h2; omega)
  replace HU := HU.trans hU2 (by intro x hx; have hx2 : w1.heap.size ≤ x := hx; show (False) ∨ w.heap.size ≤ x; omega)
  replace hO1 := hO1.upd hU2 (by intro x h1 h2; have h3 : ((w.heap.size ≤ x) ∧ x < w1.heap.size) := h1; have h4 : w1.heap.size ≤ x := h2; omega)
  have HL2 := hU2
  refine W_seq ?_
  refine W_seq ?_
  refine W_region ?_
  refine Wl_v (r_mv (v := .int .i64 ((i : Nat) : Int)) rfl) ?_
  refine Wl_v (r_mv (v := .slice a1 (2 ^ bt l) c1) rfl) ?_
  refine Wl_v (r_len Try.underlying24 rfl) ?_
  refine Wl_v (r_lt rfl rfl) ?_
  refine Wl_nil ?_
  by_cases q1 : ((i : Nat) : Int) < ((2 ^ bt l : Nat) : Int)
  · replace hA := hA.tight
    replace hO := hO.tight
    have hkl := hRn.1
    have htg : (tbl l).getD i (0, 0) = ent l i := tbl_get (by omega)
    have htg2 : (tbl l).getD (i - 1) (0, 0) = ent l (i - 1) := tbl_get (by omega)
    have hl_hA := ilen hA.sl
    have hc_hA := hA.sl.cap.1
    have hl_hO := rlen encE_len (by decide) hO.sl
    have hc_hO := hO.sl.cap.1
    rw [decide_eq_true q1]
    refine W_cond_t rfl ?_
    refine W_skip ?_
    refine W_seq ?_
    refine W_block ?_
    refine W_seq ?_
    refine W_drawt rfl (l0 := #[false, false, false, false, false, false, false, false, false, false, false, false, false, false]) (by kernel_rfl) ?_
    refine Wt_take (i := 0) (listed' := #[true, false, false, false, false, false, false, false, false, false, false, false, false, false]) (by kernel_rfl) rfl (by kernel_rfl) (by kernel_rfl) (by kernel_rfl) (by kernel_rfl) (YI_v (v := .int .i64 ((i : Nat) : Int)) rfl (fun w' hw' => r_mv (v := .int .i64 ((i : Nat) : Int)) rfl)) ?_
    refine Wt_take (i := 1) (listed' := #[true, true, false, false, false, false, false, false, false, false, false, false, false, false]) (by kernel_rfl) rfl (by kernel_rfl) (by kernel_rfl) (by kernel_rfl) (by kernel_rfl) (YI_v (v := .bool (decide (((i : Nat) : Int) = 0))) rfl (fun w' hw' => r_eq rfl rfl)) ?_
    refine Wt_take (i := 2) (listed' := #[true, true, true, false, false, false, false, false, false, false, false, false, false, false]) (by kernel_rfl) rfl (by kernel_rfl) (by kernel_rfl) (by kernel_rfl) (by kernel_rfl) (YI_v (v := .bool (decide (((i : Nat) : Int) = 0))) rfl (fun w' hw' => r_mv (v := .bool (decide (((i : Nat) : Int) = 0))) rfl)) ?_
    by_cases q2 : ((i : Nat) : Int) = 0
    · have hnw := hRn.new hr (by omega) (.inl (by omega))
      rw [decide_eq_true q2]
      refine Wt_take (i := 3) (listed' := #[true, true, true, true, false, false, false, false, false, false, false, false, false, false]) (by kernel_rfl) rfl (by kernel_rfl) (by kernel_rfl) (by kernel_rfl) (by kernel_rfl) (YI_no rfl) ?_
      refine Wt_take (i := 4) (listed' := #[true, true, true, true, true, false, false, false, false, false, false, false, false, false]) (by kernel_rfl) rfl (by kernel_rfl) (by kernel_rfl) (by kernel_rfl) (by kernel_rfl) (YI_no rfl) ?_
      refine Wt_take (i := 5) (listed' := #[true, true, true, true, true, true, false, false, false, false, false, false, false, false]) (by kernel_rfl) rfl (by kernel_rfl) (by kernel_rfl) (by kernel_rfl) (by kernel_rfl) (YI_no rfl) ?_
      refine Wt_take (i := 6) (listed' := #[true, true, true, true, true, true, true, false, false, false, false, false, false, false]) (by kernel_rfl) rfl (by kernel_rfl) (by kernel_rfl) (by kernel_rfl) (by kernel_rfl) (YI_no rfl) ?_
      refine Wt_take (i := 7) (listed' := #[true, true, true, true, true, true, true, true, false, false, false, false, false, false]) (by kernel_rfl) rfl (by kernel_rfl) (by kernel_rfl) (by kernel_rfl) (by kernel_rfl) (YI_no rfl) ?_
      refine Wt_take (i := 8) (listed' := #[true, true, true, true, true, true, true, true, true, false, false, false, false, false]) (by kernel_rfl) rfl (by kernel_rfl) (by kernel_rfl) (by kernel_rfl) (by kernel_rfl) (YI_no rfl) ?_
      refine Wt_take (i := 9) (listed' := #[true, true, true, true, true, true, true, true, true, true, false, false, false, false]) (by kernel_rfl) rfl (by kernel_rfl) (by kernel_rfl) (by kernel_rfl) (by kernel_rfl) (YI_no rfl) ?_
      refine Wt_take (i := 10) (listed' := #[true, true, true, true, true, true, true, true, true, true, true, false, false, false]) (by kernel_rfl) rfl (by kernel_rfl) (by kernel_rfl) (by kernel_rfl) (by kernel_rfl) (YI_no rfl) ?_
      refine Wt_take (i := 11) (listed' := #[true, true, true, true, true, true, true, true, true, true, true, true, false, false]) (by kernel_rfl) rfl (by kernel_rfl) (by kernel_rfl) (by kernel_rfl) (by kernel_rfl) (YI_no rfl) ?_
      refine Wt_take (i := 12) (listed' := #[true, true, true, true, true, true, true, true, true, true, true, true, true, false]) (by kernel_rfl) rfl (by kernel_rfl) (by kernel_rfl) (by kernel_rfl) (by kernel_rfl) (YI_no rfl) ?_
      refine Wt_take (i := 13) (listed' := #[true, true, true, true, true, true, true, true, true, true, true, true, true, true]) (by kernel_rfl) rfl (by kernel_rfl) (by kernel_rfl) (by kernel_rfl) (by kernel_rfl) (YI_v rfl (fun w' hw' => r_pick_t (v := .bool true) rfl rfl)) ?_
      intro w3 hU3
      have hzw3 := hU3.size
      replace hs := hs.upd0 hU3
      replace HU := HU.trans0 hU3
      replace hO1 := hO1.upd0 hU3
      replace hA := hA.upd0 hU3
      replace hO := hO.upd0 hU3
      replace HL2 := HL2.trans0 hU3
      refine Wa_done (by kernel_rfl) ?_
      refine W_cond_t rfl ?_
      refine W_drawS (T := fun g => w1.heap.size ≤ g) rfl (l0 := #[false, false, false, false, false, false, false, false, false, false, false, false, false]) (by kernel_rfl) ?_
      refine WtS_take (i := 0) (listed' := #[true, false, false, false, false, false, false, false, false, false, false, false, false]) (Upd.refl _ _) (by kernel_rfl) rfl (by kernel_rfl) (by kernel_rfl) (by kernel_rfl) (by kernel_rfl) (YS_v (v := .slice a2 k c2) rfl (fun w' hw' => r_mv (v := .slice a2 k c2) rfl)) ?_
      refine WtS_take (i := 1) (listed' := #[true, true, false, false, false, false, false, false, false, false, false, false, false]) (Upd.refl _ _) (by kernel_rfl) rfl (by kernel_rfl) (by kernel_rfl) (by kernel_rfl) (by kernel_rfl) (YS_v (v := .int .i64 ((i : Nat) : Int)) rfl (fun w' hw' => r_mv (v := .int .i64 ((i : Nat) : Int)) rfl)) ?_
      refine WtS_take (i := 4) (listed' := #[true, true, false, false, true, false, false, false, false, false, false, false, false]) (Upd.refl _ _) (by kernel_rfl) rfl (by kernel_rfl) (by kernel_rfl) (by kernel_rfl) (by kernel_rfl) (YS_v (v := .slice a3 k c3) rfl (fun w' hw' => r_mv (v := .slice a3 k c3) rfl)) ?_
      refine WtS_take (i := 5) (listed' := #[true, true, false, false, true, true, false, false, false, false, false, false, false]) (Upd.refl _ _) (by kernel_rfl) rfl (by kernel_rfl) (by kernel_rfl) (by kernel_rfl) (by kernel_rfl) (YS_v (v := .slice a1 (2 ^ bt l) c1) rfl (fun w' hw' => r_mv (v := .slice a1 (2 ^ bt l) c1) rfl)) ?_
      refine WtS_take (i := 6) (listed' := #[true, true, false, false, true, true, true, false, false, false, false, false, false]) (Upd.refl _ _) (by kernel_rfl) rfl (by kernel_rfl) (by kernel_rfl) (by kernel_rfl) (by kernel_rfl) (YS_v (v := .int .i64 ((i : Nat) : Int)) rfl (fun w' hw' => r_mv (v := .int .i64 ((i : Nat) : Int)) rfl)) ?_
      obtain ⟨ib4, io4, ha4, hib4, hc4⟩ := Sl.rat (0, 0) encE_len (by decide) (hO1.sl) (i := i) (by omega)
      replace hib4 : ((w.heap.size ≤ ib4) ∧ ib4 < w1.heap.size) := hib4
      refine WtS_take (i := 7) (listed' := #[true, true, false, false, true, true, true, true, false, false, false, false, false]) (Upd.refl _ _) (by kernel_rfl) rfl (by kernel_rfl) (by kernel_rfl) (by kernel_rfl) (by kernel_rfl) (YS_v (v := .pointer (some ⟨ib4, io4 + i * 2, none⟩)) rfl (fun w' hw' => r_idx (b := ib4) (off := io4) (m := 2 ^ bt l) (c := c1) (o' := io4 + i * 2) Try.underlying24 Try.sizeOf38 (by rw [← ha4]; rfl) rfl (by omega) (by omega) (by omega))) ?_
      refine WtS_take (i := 8) (listed' := #[true, true, false, false, true, true, true, true, true, false, false, false, false]) (Upd.refl _ _) (by kernel_rfl) rfl (by kernel_rfl) (by kernel_rfl) (by kernel_rfl) (by kernel_rfl) (YS_v (v := .agg #[.int .i64 (((tbl l).getD i (0, 0)).1), .int .i64 (((tbl l).getD i (0, 0)).2)]) rfl (fun w' hw' => r_loada (cs := [.int .i64 (((tbl l).getD i (0, 0)).1), .int .i64 (((tbl l).getD i (0, 0)).2)]) Try.isAgg38 Try.sizeOf38 rfl rfl (hw'.cellsT rfl hc4 (by show ¬ (w1.heap.size ≤ ib4); omega)))) ?_
      intro w5 hU5
      have hzw5 := hU5.size
      replace hs := hs.upd0 hU5
      replace HU := HU.trans0 hU5
      replace hO1 := hO1.upd0 hU5
      replace hA := hA.upd0 hU5
      replace hO := hO.upd0 hU5
      replace HL2 := HL2.trans0 hU5
      refine Wa_two (i := 2) (j := 9) (li := #[true, true, true, false, true, true, true, true, true, false, false, false, false]) (lj := #[true, true, false, false, true, true, true, true, true, true, false, false, false]) (by kernel_rfl) rfl rfl (by kernel_rfl) (by kernel_rfl) ?_ ?_
      · refine Ws_of_Wl ?_
        have hW : Upd (fun g => w1.heap.size ≤ g) w3 w3 := (Upd.refl _ _)
        replace hW := hW.trans0 hU5
        refine Wl_lit (pv := [(0, .int .i64 ((i : Nat) : Int))]) (cs := [.int .i64 ((i : Nat) : Int)]) Try.underlying22 Try.sizeOf3 Try.zeroValue3 (by decide) (by decide) (by simp only [List.map_toArray, List.map_cons, List.map_nil] <;> rfl) (by kernel_rfl) rfl (by decide) ?_
        intro B6 w6 hB6 hU6 hzz6 hs6
        have hzw6 := hU6.size
        replace hs := hs.upd0 hU6
        replace HU := HU.trans0 hU6
        replace hO1 := hO1.upd0 hU6
        replace hA := hA.upd0 hU6
        replace hO := hO.upd0 hU6
        replace HL2 := HL2.trans0 hU6
        replace hW := hW.trans0 hU6
        replace hs6 : Own w6 (Is B6) 3 1 (.slice (some ⟨B6, 0, none⟩) 1 1) 1 (ints .i64 [((i : Nat) : Int)]) := hs6
        refine Wl_nil ?_
        intro w7 hS7
        have hX7 : Upd _ w3 w7 := hW.trans0 hS7.upd
        refine ⟨fun _ => ⟨hX7, ?_⟩, fun h => absurd h (by rw [show barOp _ 2 = false from by kernel_rfl]; simp)⟩
        have hU7 := hS7.upd
        have hzw7 := hU7.size
        replace hs := hs.upd0 hU7
        replace HU := HU.trans0 hU7
        replace hO1 := hO1.upd0 hU7
        replace hA := hA.upd0 hU7
        replace hO := hO.upd0 hU7
        replace HL2 := HL2.trans0 hU7
        replace hs6 := hs6.upd0 hU7
        refine WtS_base ?_
        intro w8 hU8
        have hzw8 := hU8.size
        replace hs := hs.upd0 hU8
        replace HU := HU.trans0 hU8
        replace hO1 := hO1.upd0 hU8
        replace hA := hA.upd0 hU8
        replace hO := hO.upd0 hU8
        replace HL2 := HL2.trans0 hU8
        replace hs6 := hs6.upd0 hU8
        refine Wa_two (i := 3) (j := 9) (li := #[true, true, true, true, true, true, true, true, true, false, false, false, false]) (lj := #[true, true, true, false, true, true, true, true, true, true, false, false, false]) (by kernel_rfl) rfl rfl (by kernel_rfl) (by kernel_rfl) ?_ ?_
        · refine Ws_of_Wl ?_
          have hW : Upd (fun g => w1.heap.size ≤ g) w3 w7 := hX7
          replace hW := hW.trans0 hU8
          refine Wl_appendi (xs := rps l k) (ys := [((i : Nat) : Int)]) (zs := (rps l k) ++ [((i : Nat) : Int)]) (k' := .i64) (tot := k + 1) (by first | rfl | exact (rows_app _ _).symm | simp) Try.underlying22 (ti := Try.t3) (z := .int .i64 0) (sz := 1) (by' := 8) rfl rfl rfl rfl rfl (by decide) rfl hA rfl hs6.sl  (by omega) (by simp only [maxLen]; omega) (by omega) ?_
          intro a9 c9 w9 hU9 hzz9 hO9
          clear hA
          have hzw9 := hU9.size
          replace hs := hs.upd hU9 (by intro x h1 h2; have h3 : ((R x) ∧ x < w.heap.size) := h1; have h4 : ((x = ga) ∧ x < w2.heap.size) := h2; omega)
          replace HU := HU.trans hU9 (by intro x hx; have hx2 : ((x = ga) ∧ x < w2.heap.size) := hx; show (False) ∨ w.heap.size ≤ x; omega)
          replace hO1 := hO1.upd hU9 (by intro x h1 h2; have h3 : ((w.heap.size ≤ x) ∧ x < w1.heap.size) := h1; have h4 : ((x = ga) ∧ x < w2.heap.size) := h2; omega)
          replace hO := hO.upd hU9 (by intro x h1 h2; have h3 : ((x = gb) ∧ x < w2.heap.size) := h1; have h4 : ((x = ga) ∧ x < w2.heap.size) := h2; omega)
          replace HL2 := HL2.trans hU9 (by intro x hx; have hx2 : ((x = ga) ∧ x < w2.heap.size) := hx; show (w1.heap.size ≤ x) ∨ w1.heap.size ≤ x; omega)
          replace hs6 := hs6.upd hU9 (by intro x h1 h2; have h3 : x = B6 := h1; have h4 : ((x = ga) ∧ x < w2.heap.size) := h2; omega)
          replace hW := hW.trans hU9 (by intro x hx; have hx2 : ((x = ga) ∧ x < w2.heap.size) := hx; show (w1.heap.size ≤ x) ∨ w3.heap.size ≤ x; omega)
          replace hO9 := hO9.tight
          have hl_hO9 := ilen hO9.sl
          have hc_hO9 := hO9.sl.cap.1
          refine Wl_nil ?_
          intro w10 hS10
          have hX10 : Upd _ w3 w10 := hW.trans0 hS10.upd
          refine ⟨fun _ => ⟨hX10, ?_⟩, fun h => absurd h (by rw [show barOp _ 3 = false from by kernel_rfl]; simp)⟩
          have hU10 := hS10.upd
          have hzw10 := hU10.size
          replace hs := hs.upd0 hU10
          replace HU := HU.trans0 hU10
          replace hO1 := hO1.upd0 hU10
          replace hO := hO.upd0 hU10
          replace HL2 := HL2.trans0 hU10
          replace hs6 := hs6.upd0 hU10
          replace hO9 := hO9.upd0 hU10
          refine WtS_base ?_
          intro w11 hU11
          have hzw11 := hU11.size
          replace hs := hs.upd0 hU11
          replace HU := HU.trans0 hU11
          replace hO1 := hO1.upd0 hU11
          replace hO := hO.upd0 hU11
          replace HL2 := HL2.trans0 hU11
          replace hs6 := hs6.upd0 hU11
          replace hO9 := hO9.upd0 hU11
          refine Wa_one (i := 9) (listed' := #[true, true, true, true, true, true, true, true, true, true, false, false, false]) (by kernel_rfl) rfl (by kernel_rfl) ?_
          refine Ws_of_Wl ?_
          have hW : Upd (fun g => w1.heap.size ≤ g) w3 w10 := hX10
          replace hW := hW.trans0 hU11
          refine Wl_lit (pv := [(0, .agg #[.int .i64 (((tbl l).getD i (0, 0)).1), .int .i64 (((tbl l).getD i (0, 0)).2)])]) (cs := [.int .i64 (((tbl l).getD i (0, 0)).1), .int .i64 (((tbl l).getD i (0, 0)).2)]) Try.underlying24 Try.sizeOf38 Try.zeroValue38 (by decide) (by decide) (by simp only [List.map_toArray, List.map_cons, List.map_nil] <;> rfl) (by kernel_rfl) rfl (by decide) ?_
          intro B12 w12 hB12 hU12 hzz12 hs12
          have hzw12 := hU12.size
          replace hs := hs.upd0 hU12
          replace HU := HU.trans0 hU12
          replace hO1 := hO1.upd0 hU12
          replace hO := hO.upd0 hU12
          replace HL2 := HL2.trans0 hU12
          replace hs6 := hs6.upd0 hU12
          replace hO9 := hO9.upd0 hU12
          replace hW := hW.trans0 hU12
          replace hs12 : Own w12 (Is B12) 38 2 (.slice (some ⟨B12, 0, none⟩) 1 1) 1 (rows encE [(((tbl l).getD i (0, 0)).1, ((tbl l).getD i (0, 0)).2)]) := hs12
          refine Wl_nil ?_
          intro w13 hS13
          have hX13 : Upd _ w3 w13 := hW.trans0 hS13.upd
          refine ⟨fun _ => ⟨hX13, ?_⟩, fun h => absurd h (by rw [show barOp _ 9 = false from by kernel_rfl]; simp)⟩
          have hU13 := hS13.upd
          have hzw13 := hU13.size
          replace hs := hs.upd0 hU13
          replace HU := HU.trans0 hU13
          replace hO1 := hO1.upd0 hU13
          replace hO := hO.upd0 hU13
          replace HL2 := HL2.trans0 hU13
          replace hs6 := hs6.upd0 hU13
          replace hO9 := hO9.upd0 hU13
          replace hs12 := hs12.upd0 hU13
          refine WtS_base ?_
          intro w14 hU14
          have hzw14 := hU14.size
          replace hs := hs.upd0 hU14
          replace HU := HU.trans0 hU14
          replace hO1 := hO1.upd0 hU14
          replace hO := hO.upd0 hU14
          replace HL2 := HL2.trans0 hU14
          replace hs6 := hs6.upd0 hU14
          replace hO9 := hO9.upd0 hU14
          replace hs12 := hs12.upd0 hU14
          refine Wa_one (i := 10) (listed' := #[true, true, true, true, true, true, true, true, true, true, true, false, false]) (by kernel_rfl) rfl (by kernel_rfl) ?_
          refine Ws_of_Wl ?_
          have hW : Upd No w13 w14 := hU14
          refine Wl_appendc (cs3 := rows encE (((os l).take k) ++ [(((tbl l).getD i (0, 0)).1, ((tbl l).getD i (0, 0)).2)])) (tot := k + 1) (by first | rfl | exact (rows_app _ _).symm | simp) Try.underlying24 (ti := Try.t38) (z := .agg #[.int .i64 0, .int .i64 0]) (sz := 2) (by' := 16) rfl rfl rfl rfl rfl (by decide) rfl hO rfl hs12.sl (rows_one encE_one _) (by omega) (by simp only [maxLen]; omega) (by omega) ?_
          intro a15 c15 w15 hU15 hzz15 hO15
          clear hO
          have hzw15 := hU15.size
          replace hs := hs.upd hU15 (by intro x h1 h2; have h3 : ((R x) ∧ x < w.heap.size) := h1; have h4 : ((x = gb) ∧ x < w2.heap.size) := h2; omega)
          replace HU := HU.trans hU15 (by intro x hx; have hx2 : ((x = gb) ∧ x < w2.heap.size) := hx; show (False) ∨ w.heap.size ≤ x; omega)
          replace hO1 := hO1.upd hU15 (by intro x h1 h2; have h3 : ((w.heap.size ≤ x) ∧ x < w1.heap.size) := h1; have h4 : ((x = gb) ∧ x < w2.heap.size) := h2; omega)
          replace HL2 := HL2.trans hU15 (by intro x hx; have hx2 : ((x = gb) ∧ x < w2.heap.size) := hx; show (w1.heap.size ≤ x) ∨ w1.heap.size ≤ x; omega)
          replace hs6 := hs6.upd hU15 (by intro x h1 h2; have h3 : x = B6 := h1; have h4 : ((x = gb) ∧ x < w2.heap.size) := h2; omega)
          replace hO9 := hO9.upd hU15 (by intro x h1 h2; have h3 : ((((((x = ga) ∧ x < w2.heap.size)) ∨ x = w8.heap.size)) ∧ x < w9.heap.size) := h1; have h4 : ((x = gb) ∧ x < w2.heap.size) := h2; omega)
          replace hs12 := hs12.upd hU15 (by intro x h1 h2; have h3 : x = B12 := h1; have h4 : ((x = gb) ∧ x < w2.heap.size) := h2; omega)
          replace hO15 := hO15.tight
          have hl_hO15 := rlen encE_len (by decide) hO15.sl
          have hc_hO15 := hO15.sl.cap.1
          refine Wl_nil ?_
          intro w16 hS16
          refine ⟨fun h => absurd h (by rw [show barOp _ 10 = true from by kernel_rfl]; simp), fun _ => ⟨Upd No w16, ?_⟩⟩
          have hU16 := hS16.upd
          have hzw16 := hU16.size
          replace hs := hs.upd0 hU16
          replace HU := HU.trans0 hU16
          replace hO1 := hO1.upd0 hU16
          replace HL2 := HL2.trans0 hU16
          replace hs6 := hs6.upd0 hU16
          replace hO9 := hO9.upd0 hU16
          replace hs12 := hs12.upd0 hU16
          replace hO15 := hO15.upd0 hU16
          try replace hW := hW.trans0 hU16
          refine Wt_base (Upd.refl _ _) ?_
          refine Wt_take (i := 11) (listed' := #[true, true, true, true, true, true, true, true, true, true, true, true, false]) (by kernel_rfl) rfl (by kernel_rfl) (by kernel_rfl) (by kernel_rfl) (by kernel_rfl) (YI_v (v := .slice a9 (k + 1) c9) rfl (fun w' hw' => r_as (v := .slice a9 (k + 1) c9) rfl)) ?_
          refine Wt_take (i := 12) (listed' := #[true, true, true, true, true, true, true, true, true, true, true, true, true]) (by kernel_rfl) rfl (by kernel_rfl) (by kernel_rfl) (by kernel_rfl) (by kernel_rfl) (YI_v (v := .slice a15 (k + 1) c15) rfl (fun w' hw' => r_as (v := .slice a15 (k + 1) c15) rfl)) ?_
          intro w17 hU17
          have hzw17 := hU17.size
          replace hs := hs.upd0 hU17
          replace HU := HU.trans0 hU17
          replace hO1 := hO1.upd0 hU17
          replace HL2 := HL2.trans0 hU17
          replace hs6 := hs6.upd0 hU17
          replace hO9 := hO9.upd0 hU17
          replace hs12 := hs12.upd0 hU17
          replace hO15 := hO15.upd0 hU17
          try replace hW := hW.trans0 hU17
          refine Wa_done (by kernel_rfl) ?_
          refine W_region ?_
          refine Wl_v (r_mv (v := .int .i64 ((i : Nat) : Int)) rfl) ?_
          refine Wl_v (r_add rfl rfl (wi64 (by omega) (by omega))) ?_
          refine Wl_v (r_as (v := .int .i64 (((i : Nat) : Int) + 1)) rfl) ?_
          refine Wl_nil ?_
          obtain ⟨ga2, hga2, hA2⟩ := hO9.one (by omega)
          obtain ⟨gb2, hgb2, hO2⟩ := hO15.one (by omega)
          replace hga2 : ((((((ga2 = ga) ∧ ga2 < w2.heap.size)) ∨ ga2 = w8.heap.size)) ∧ ga2 < w9.heap.size) := hga2
          replace hgb2 : ((((((gb2 = gb) ∧ gb2 < w2.heap.size)) ∨ gb2 = w14.heap.size)) ∧ gb2 < w15.heap.size) := hgb2
          refine ⟨_, ?_, (i + 1), (k + 1), a9, c9, a15, c15, ga2, gb2, rfl, rfl, ⟨rfl, (by first | rfl | exact vint (by omega) | exact vint (by simp)), (by first | rfl | exact vint (by omega) | exact vint (by simp)), (Eq.trans (b := .int .i64 (((i : Nat) : Int) + 1)) rfl (vint (by omega))), trivial⟩, (by omega), hnw.2.2.1, (by omega), (by rw [rps_s, ← hnw.2.1]; exact hA2), (by rw [os_step hnw.1, ← hnw.2.2.2, ← htg]; exact hO2), HL2⟩
          omega
        · refine Ws_of_Wl ?_
          have hW : Upd (fun g => w1.heap.size ≤ g) w3 w7 := hX7
          replace hW := hW.trans0 hU8
          refine Wl_lit (pv := [(0, .agg #[.int .i64 (((tbl l).getD i (0, 0)).1), .int .i64 (((tbl l).getD i (0, 0)).2)])]) (cs := [.int .i64 (((tbl l).getD i (0, 0)).1), .int .i64 (((tbl l).getD i (0, 0)).2)]) Try.underlying24 Try.sizeOf38 Try.zeroValue38 (by decide) (by decide) (by simp only [List.map_toArray, List.map_cons, List.map_nil] <;> rfl) (by kernel_rfl) rfl (by decide) ?_
          intro B18 w18 hB18 hU18 hzz18 hs18
          have hzw18 := hU18.size
          replace hs := hs.upd0 hU18
          replace HU := HU.trans0 hU18
          replace hO1 := hO1.upd0 hU18
          replace hA := hA.upd0 hU18
          replace hO := hO.upd0 hU18
          replace HL2 := HL2.trans0 hU18
          replace hs6 := hs6.upd0 hU18
          replace hW := hW.trans0 hU18
          replace hs18 : Own w18 (Is B18) 38 2 (.slice (some ⟨B18, 0, none⟩) 1 1) 1 (rows encE [(((tbl l).getD i (0, 0)).1, ((tbl l).getD i (0, 0)).2)]) := hs18
          refine Wl_nil ?_
          intro w19 hS19
          have hX19 : Upd _ w3 w19 := hW.trans0 hS19.upd
          refine ⟨fun _ => ⟨hX19, ?_⟩, fun h => absurd h (by rw [show barOp _ 9 = false from by kernel_rfl]; simp)⟩
          have hU19 := hS19.upd
          have hzw19 := hU19.size
          replace hs := hs.upd0 hU19
          replace HU := HU.trans0 hU19
          replace hO1 := hO1.upd0 hU19
          replace hA := hA.upd0 hU19
          replace hO := hO.upd0 hU19
          replace HL2 := HL2.trans0 hU19
          replace hs6 := hs6.upd0 hU19
          replace hs18 := hs18.upd0 hU19
          refine WtS_base ?_
          intro w20 hU20
          have hzw20 := hU20.size
          replace hs := hs.upd0 hU20
          replace HU := HU.trans0 hU20
          replace hO1 := hO1.upd0 hU20
          replace hA := hA.upd0 hU20
          replace hO := hO.upd0 hU20
          replace HL2 := HL2.trans0 hU20
          replace hs6 := hs6.upd0 hU20
          replace hs18 := hs18.upd0 hU20
          refine Wa_one (i := 3) (listed' := #[true, true, true, true, true, true, true, true, true, true, false, false, false]) (by kernel_rfl) rfl (by kernel_rfl) ?_
          refine Ws_of_Wl ?_
          have hW : Upd (fun g => w1.heap.size ≤ g) w3 w19 := hX19
          replace hW := hW.trans0 hU20
          refine Wl_appendi (xs := rps l k) (ys := [((i : Nat) : Int)]) (zs := (rps l k) ++ [((i : Nat) : Int)]) (k' := .i64) (tot := k + 1) (by first | rfl | exact (rows_app _ _).symm | simp) Try.underlying22 (ti := Try.t3) (z := .int .i64 0) (sz := 1) (by' := 8) rfl rfl rfl rfl rfl (by decide) rfl hA rfl hs6.sl  (by omega) (by simp only [maxLen]; omega) (by omega) ?_
          intro a21 c21 w21 hU21 hzz21 hO21
          clear hA
          have hzw21 := hU21.size
          replace hs := hs.upd hU21 (by intro x h1 h2; have h3 : ((R x) ∧ x < w.heap.size) := h1; have h4 : ((x = ga) ∧ x < w2.heap.size) := h2; omega)
          replace HU := HU.trans hU21 (by intro x hx; have hx2 : ((x = ga) ∧ x < w2.heap.size) := hx; show (False) ∨ w.heap.size ≤ x; omega)
          replace hO1 := hO1.upd hU21 (by intro x h1 h2; have h3 : ((w.heap.size ≤ x) ∧ x < w1.heap.size) := h1; have h4 : ((x = ga) ∧ x < w2.heap.size) := h2; omega)
          replace hO := hO.upd hU21 (by intro x h1 h2; have h3 : ((x = gb) ∧ x < w2.heap.size) := h1; have h4 : ((x = ga) ∧ x < w2.heap.size) := h2; omega)
          replace HL2 := HL2.trans hU21 (by intro x hx; have hx2 : ((x = ga) ∧ x < w2.heap.size) := hx; show (w1.heap.size ≤ x) ∨ w1.heap.size ≤ x; omega)
          replace hs6 := hs6.upd hU21 (by intro x h1 h2; have h3 : x = B6 := h1; have h4 : ((x = ga) ∧ x < w2.heap.size) := h2; omega)
          replace hs18 := hs18.upd hU21 (by intro x h1 h2; have h3 : x = B18 := h1; have h4 : ((x = ga) ∧ x < w2.heap.size) := h2; omega)
          replace hW := hW.trans hU21 (by intro x hx; have hx2 : ((x = ga) ∧ x < w2.heap.size) := hx; show (w1.heap.size ≤ x) ∨ w3.heap.size ≤ x; omega)
          replace hO21 := hO21.tight
          have hl_hO21 := ilen hO21.sl
          have hc_hO21 := hO21.sl.cap.1
          refine Wl_nil ?_
          intro w22 hS22
          have hX22 : Upd _ w3 w22 := hW.trans0 hS22.upd
          refine ⟨fun _ => ⟨hX22, ?_⟩, fun h => absurd h (by rw [show barOp _ 3 = false from by kernel_rfl]; simp)⟩
          have hU22 := hS22.upd
          have hzw22 := hU22.size
          replace hs := hs.upd0 hU22
          replace HU := HU.trans0 hU22
          replace hO1 := hO1.upd0 hU22
          replace hO := hO.upd0 hU22
          replace HL2 := HL2.trans0 hU22
          replace hs6 := hs6.upd0 hU22
          replace hs18 := hs18.upd0 hU22
          replace hO21 := hO21.upd0 hU22
          refine WtS_base ?_
          intro w23 hU23
          have hzw23 := hU23.size
          replace hs := hs.upd0 hU23
          replace HU := HU.trans0 hU23
          replace hO1 := hO1.upd0 hU23
          replace hO := hO.upd0 hU23
          replace HL2 := HL2.trans0 hU23
          replace hs6 := hs6.upd0 hU23
          replace hs18 := hs18.upd0 hU23
          replace hO21 := hO21.upd0 hU23
          refine Wa_one (i := 10) (listed' := #[true, true, true, true, true, true, true, true, true, true, true, false, false]) (by kernel_rfl) rfl (by kernel_rfl) ?_
          refine Ws_of_Wl ?_
          have hW : Upd No w22 w23 := hU23
          refine Wl_appendc (cs3 := rows encE (((os l).take k) ++ [(((tbl l).getD i (0, 0)).1, ((tbl l).getD i (0, 0)).2)])) (tot := k + 1) (by first | rfl | exact (rows_app _ _).symm | simp) Try.underlying24 (ti := Try.t38) (z := .agg #[.int .i64 0, .int .i64 0]) (sz := 2) (by' := 16) rfl rfl rfl rfl rfl (by decide) rfl hO rfl hs18.sl (rows_one encE_one _) (by omega) (by simp only [maxLen]; omega) (by omega) ?_
          intro a24 c24 w24 hU24 hzz24 hO24
          clear hO
          have hzw24 := hU24.size
          replace hs := hs.upd hU24 (by intro x h1 h2; have h3 : ((R x) ∧ x < w.heap.size) := h1; have h4 : ((x = gb) ∧ x < w2.heap.size) := h2; omega)
          replace HU := HU.trans hU24 (by intro x hx; have hx2 : ((x = gb) ∧ x < w2.heap.size) := hx; show (False) ∨ w.heap.size ≤ x; omega)
          replace hO1 := hO1.upd hU24 (by intro x h1 h2; have h3 : ((w.heap.size ≤ x) ∧ x < w1.heap.size) := h1; have h4 : ((x = gb) ∧ x < w2.heap.size) := h2; omega)
          replace HL2 := HL2.trans hU24 (by intro x hx; have hx2 : ((x = gb) ∧ x < w2.heap.size) := hx; show (w1.heap.size ≤ x) ∨ w1.heap.size ≤ x; omega)
          replace hs6 := hs6.upd hU24 (by intro x h1 h2; have h3 : x = B6 := h1; have h4 : ((x = gb) ∧ x < w2.heap.size) := h2; omega)
          replace hs18 := hs18.upd hU24 (by intro x h1 h2; have h3 : x = B18 := h1; have h4 : ((x = gb) ∧ x < w2.heap.size) := h2; omega)
          replace hO21 := hO21.upd hU24 (by intro x h1 h2; have h3 : ((((((x = ga) ∧ x < w2.heap.size)) ∨ x = w20.heap.size)) ∧ x < w21.heap.size) := h1; have h4 : ((x = gb) ∧ x < w2.heap.size) := h2; omega)
          replace hO24 := hO24.tight
          have hl_hO24 := rlen encE_len (by decide) hO24.sl
          have hc_hO24 := hO24.sl.cap.1
          refine Wl_nil ?_
          intro w25 hS25
          refine ⟨fun h => absurd h (by rw [show barOp _ 10 = true from by kernel_rfl]; simp), fun _ => ⟨Upd No w25, ?_⟩⟩
          have hU25 := hS25.upd
          have hzw25 := hU25.size
          replace hs := hs.upd0 hU25
          replace HU := HU.trans0 hU25
          replace hO1 := hO1.upd0 hU25
          replace HL2 := HL2.trans0 hU25
          replace hs6 := hs6.upd0 hU25
          replace hs18 := hs18.upd0 hU25
          replace hO21 := hO21.upd0 hU25
          replace hO24 := hO24.upd0 hU25
          try replace hW := hW.trans0 hU25
          refine Wt_base (Upd.refl _ _) ?_
          refine Wt_take (i := 11) (listed' := #[true, true, true, true, true, true, true, true, true, true, true, true, false]) (by kernel_rfl) rfl (by kernel_rfl) (by kernel_rfl) (by kernel_rfl) (by kernel_rfl) (YI_v (v := .slice a21 (k + 1) c21) rfl (fun w' hw' => r_as (v := .slice a21 (k + 1) c21) rfl)) ?_
          refine Wt_take (i := 12) (listed' := #[true, true, true, true, true, true, true, true, true, true, true, true, true]) (by kernel_rfl) rfl (by kernel_rfl) (by kernel_rfl) (by kernel_rfl) (by kernel_rfl) (YI_v (v := .slice a24 (k + 1) c24) rfl (fun w' hw' => r_as (v := .slice a24 (k + 1) c24) rfl)) ?_
          intro w26 hU26
          have hzw26 := hU26.size
          replace hs := hs.upd0 hU26
          replace HU := HU.trans0 hU26
          replace hO1 := hO1.upd0 hU26
          replace HL2 := HL2.trans0 hU26
          replace hs6 := hs6.upd0 hU26
          replace hs18 := hs18.upd0 hU26
          replace hO21 := hO21.upd0 hU26
          replace hO24 := hO24.upd0 hU26
          try replace hW := hW.trans0 hU26
          refine Wa_done (by kernel_rfl) ?_
          refine W_region ?_
          refine Wl_v (r_mv (v := .int .i64 ((i : Nat) : Int)) rfl) ?_
          refine Wl_v (r_add rfl rfl (wi64 (by omega) (by omega))) ?_
          refine Wl_v (r_as (v := .int .i64 (((i : Nat) : Int) + 1)) rfl) ?_
          refine Wl_nil ?_
          obtain ⟨ga2, hga2, hA2⟩ := hO21.one (by omega)
          obtain ⟨gb2, hgb2, hO2⟩ := hO24.one (by omega)
          replace hga2 : ((((((ga2 = ga) ∧ ga2 < w2.heap.size)) ∨ ga2 = w20.heap.size)) ∧ ga2 < w21.heap.size) := hga2
          replace hgb2 : ((((((gb2 = gb) ∧ gb2 < w2.heap.size)) ∨ gb2 = w23.heap.size)) ∧ gb2 < w24.heap.size) := hgb2
          refine ⟨_, ?_, (i + 1), (k + 1), a21, c21, a24, c24, ga2, gb2, rfl, rfl, ⟨rfl, (by first | rfl | exact vint (by omega) | exact vint (by simp)), (by first | rfl | exact vint (by omega) | exact vint (by simp)), (Eq.trans (b := .int .i64 (((i : Nat) : Int) + 1)) rfl (vint (by omega))), trivial⟩, (by omega), hnw.2.2.1, (by omega), (by rw [rps_s, ← hnw.2.1]; exact hA2), (by rw [os_step hnw.1, ← hnw.2.2.2, ← htg]; exact hO2), HL2⟩
          omega
      · refine Ws_of_Wl ?_
        have hW : Upd (fun g => w1.heap.size ≤ g) w3 w3 := (Upd.refl _ _)
        replace hW := hW.trans0 hU5
        refine Wl_lit (pv := [(0, .agg #[.int .i64 (((tbl l).getD i (0, 0)).1), .int .i64 (((tbl l).getD i (0, 0)).2)])]) (cs := [.int .i64 (((tbl l).getD i (0, 0)).1), .int .i64 (((tbl l).getD i (0, 0)).2)]) Try.underlying24 Try.sizeOf38 Try.zeroValue38 (by decide) (by decide) (by simp only [List.map_toArray, List.map_cons, List.map_nil] <;> rfl) (by kernel_rfl) rfl (by decide) ?_
        intro B27 w27 hB27 hU27 hzz27 hs27
        have hzw27 := hU27.size
        replace hs := hs.upd0 hU27
        replace HU := HU.trans0 hU27
        replace hO1 := hO1.upd0 hU27
        replace hA := hA.upd0 hU27
        replace hO := hO.upd0 hU27
        replace HL2 := HL2.trans0 hU27
        replace hW := hW.trans0 hU27
        replace hs27 : Own w27 (Is B27) 38 2 (.slice (some ⟨B27, 0, none⟩) 1 1) 1 (rows encE [(((tbl l).getD i (0, 0)).1, ((tbl l).getD i (0, 0)).2)]) := hs27
        refine Wl_nil ?_
        intro w28 hS28
        have hX28 : Upd _ w3 w28 := hW.trans0 hS28.upd
        refine ⟨fun _ => ⟨hX28, ?_⟩, fun h => absurd h (by rw [show barOp _ 9 = false from by kernel_rfl]; simp)⟩
        have hU28 := hS28.upd
        have hzw28 := hU28.size
        replace hs := hs.upd0 hU28
        replace HU := HU.trans0 hU28
        replace hO1 := hO1.upd0 hU28
        replace hA := hA.upd0 hU28
        replace hO := hO.upd0 hU28
        replace HL2 := HL2.trans0 hU28
        replace hs27 := hs27.upd0 hU28
        refine WtS_base ?_
        intro w29 hU29
        have hzw29 := hU29.size
        replace hs := hs.upd0 hU29
        replace HU := HU.trans0 hU29
        replace hO1 := hO1.upd0 hU29
        replace hA := hA.upd0 hU29
        replace hO := hO.upd0 hU29
        replace HL2 := HL2.trans0 hU29
        replace hs27 := hs27.upd0 hU29
        refine Wa_one (i := 2) (listed' := #[true, true, true, false, true, true, true, true, true, true, false, false, false]) (by kernel_rfl) rfl (by kernel_rfl) ?_
        refine Ws_of_Wl ?_
        have hW : Upd (fun g => w1.heap.size ≤ g) w3 w28 := hX28
        replace hW := hW.trans0 hU29
        refine Wl_lit (pv := [(0, .int .i64 ((i : Nat) : Int))]) (cs := [.int .i64 ((i : Nat) : Int)]) Try.underlying22 Try.sizeOf3 Try.zeroValue3 (by decide) (by decide) (by simp only [List.map_toArray, List.map_cons, List.map_nil] <;> rfl) (by kernel_rfl) rfl (by decide) ?_
        intro B30 w30 hB30 hU30 hzz30 hs30
        have hzw30 := hU30.size
        replace hs := hs.upd0 hU30
        replace HU := HU.trans0 hU30
        replace hO1 := hO1.upd0 hU30
        replace hA := hA.upd0 hU30
        replace hO := hO.upd0 hU30
        replace HL2 := HL2.trans0 hU30
        replace hs27 := hs27.upd0 hU30
        replace hW := hW.trans0 hU30
        replace hs30 : Own w30 (Is B30) 3 1 (.slice (some ⟨B30, 0, none⟩) 1 1) 1 (ints .i64 [((i : Nat) : Int)]) := hs30
        refine Wl_nil ?_
        intro w31 hS31
        have hX31 : Upd _ w3 w31 := hW.trans0 hS31.upd
        refine ⟨fun _ => ⟨hX31, ?_⟩, fun h => absurd h (by rw [show barOp _ 2 = false from by kernel_rfl]; simp)⟩
        have hU31 := hS31.upd
        have hzw31 := hU31.size
        replace hs := hs.upd0 hU31
        replace HU := HU.trans0 hU31
        replace hO1 := hO1.upd0 hU31
        replace hA := hA.upd0 hU31
        replace hO := hO.upd0 hU31
        replace HL2 := HL2.trans0 hU31
        replace hs27 := hs27.upd0 hU31
        replace hs30 := hs30.upd0 hU31
        refine WtS_base ?_
        intro w32 hU32
        have hzw32 := hU32.size
        replace hs := hs.upd0 hU32
        replace HU := HU.trans0 hU32
        replace hO1 := hO1.upd0 hU32
        replace hA := hA.upd0 hU32
        replace hO := hO.upd0 hU32
        replace HL2 := HL2.trans0 hU32
        replace hs27 := hs27.upd0 hU32
        replace hs30 := hs30.upd0 hU32
        refine Wa_one (i := 3) (listed' := #[true, true, true, true, true, true, true, true, true, true, false, false, false]) (by kernel_rfl) rfl (by kernel_rfl) ?_
        refine Ws_of_Wl ?_
        have hW : Upd (fun g => w1.heap.size ≤ g) w3 w31 := hX31
        replace hW := hW.trans0 hU32
        refine Wl_appendi (xs := rps l k) (ys := [((i : Nat) : Int)]) (zs := (rps l k) ++ [((i : Nat) : Int)]) (k' := .i64) (tot := k + 1) (by first | rfl | exact (rows_app _ _).symm | simp) Try.underlying22 (ti := Try.t3) (z := .int .i64 0) (sz := 1) (by' := 8) rfl rfl rfl rfl rfl (by decide) rfl hA rfl hs30.sl  (by omega) (by simp only [maxLen]; omega) (by omega) ?_
        intro a33 c33 w33 hU33 hzz33 hO33
        clear hA
        have hzw33 := hU33.size
        replace hs := hs.upd hU33 (by intro x h1 h2; have h3 : ((R x) ∧ x < w.heap.size) := h1; have h4 : ((x = ga) ∧ x < w2.heap.size) := h2; omega)
        replace HU := HU.trans hU33 (by intro x hx; have hx2 : ((x = ga) ∧ x < w2.heap.size) := hx; show (False) ∨ w.heap.size ≤ x; omega)
        replace hO1 := hO1.upd hU33 (by intro x h1 h2; have h3 : ((w.heap.size ≤ x) ∧ x < w1.heap.size) := h1; have h4 : ((x = ga) ∧ x < w2.heap.size) := h2; omega)
        replace hO := hO.upd hU33 (by intro x h1 h2; have h3 : ((x = gb) ∧ x < w2.heap.size) := h1; have h4 : ((x = ga) ∧ x < w2.heap.size) := h2; omega)
        replace HL2 := HL2.trans hU33 (by intro x hx; have hx2 : ((x = ga) ∧ x < w2.heap.size) := hx; show (w1.heap.size ≤ x) ∨ w1.heap.size ≤ x; omega)
        replace hs27 := hs27.upd hU33 (by intro x h1 h2; have h3 : x = B27 := h1; have h4 : ((x = ga) ∧ x < w2.heap.size) := h2; omega)
        replace hs30 := hs30.upd hU33 (by intro x h1 h2; have h3 : x = B30 := h1; have h4 : ((x = ga) ∧ x < w2.heap.size) := h2; omega)
        replace hW := hW.trans hU33 (by intro x hx; have hx2 : ((x = ga) ∧ x < w2.heap.size) := hx; show (w1.heap.size ≤ x) ∨ w3.heap.size ≤ x; omega)
        replace hO33 := hO33.tight
        have hl_hO33 := ilen hO33.sl
        have hc_hO33 := hO33.sl.cap.1
        refine Wl_nil ?_
        intro w34 hS34
        have hX34 : Upd _ w3 w34 := hW.trans0 hS34.upd
        refine ⟨fun _ => ⟨hX34, ?_⟩, fun h => absurd h (by rw [show barOp _ 3 = false from by kernel_rfl]; simp)⟩
        have hU34 := hS34.upd
        have hzw34 := hU34.size
        replace hs := hs.upd0 hU34
        replace HU := HU.trans0 hU34
        replace hO1 := hO1.upd0 hU34
        replace hO := hO.upd0 hU34
        replace HL2 := HL2.trans0 hU34
        replace hs27 := hs27.upd0 hU34
        replace hs30 := hs30.upd0 hU34
        replace hO33 := hO33.upd0 hU34
        refine WtS_base ?_
        intro w35 hU35
        have hzw35 := hU35.size
        replace hs := hs.upd0 hU35
        replace HU := HU.trans0 hU35
        replace hO1 := hO1.upd0 hU35
        replace hO := hO.upd0 hU35
        replace HL2 := HL2.trans0 hU35
        replace hs27 := hs27.upd0 hU35
        replace hs30 := hs30.upd0 hU35
        replace hO33 := hO33.upd0 hU35
        refine Wa_one (i := 10) (listed' := #[true, true, true, true, true, true, true, true, true, true, true, false, false]) (by kernel_rfl) rfl (by kernel_rfl) ?_
        refine Ws_of_Wl ?_
        have hW : Upd No w34 w35 := hU35
        refine Wl_appendc (cs3 := rows encE (((os l).take k) ++ [(((tbl l).getD i (0, 0)).1, ((tbl l).getD i (0, 0)).2)])) (tot := k + 1) (by first | rfl | exact (rows_app _ _).symm | simp) Try.underlying24 (ti := Try.t38) (z := .agg #[.int .i64 0, .int .i64 0]) (sz := 2) (by' := 16) rfl rfl rfl rfl rfl (by decide) rfl hO rfl hs27.sl (rows_one encE_one _) (by omega) (by simp only [maxLen]; omega) (by omega) ?_
        intro a36 c36 w36 hU36 hzz36 hO36
        clear hO
        have hzw36 := hU36.size
        replace hs := hs.upd hU36 (by intro x h1 h2; have h3 : ((R x) ∧ x < w.heap.size) := h1; have h4 : ((x = gb) ∧ x < w2.heap.size) := h2; omega)
        replace HU := HU.trans hU36 (by intro x hx; have hx2 : ((x = gb) ∧ x < w2.heap.size) := hx; show (False) ∨ w.heap.size ≤ x; omega)
        replace hO1 := hO1.upd hU36 (by intro x h1 h2; have h3 : ((w.heap.size ≤ x) ∧ x < w1.heap.size) := h1; have h4 : ((x = gb) ∧ x < w2.heap.size) := h2; omega)
        replace HL2 := HL2.trans hU36 (by intro x hx; have hx2 : ((x = gb) ∧ x < w2.heap.size) := hx; show (w1.heap.size ≤ x) ∨ w1.heap.size ≤ x; omega)
        replace hs27 := hs27.upd hU36 (by intro x h1 h2; have h3 : x = B27 := h1; have h4 : ((x = gb) ∧ x < w2.heap.size) := h2; omega)
        replace hs30 := hs30.upd hU36 (by intro x h1 h2; have h3 : x = B30 := h1; have h4 : ((x = gb) ∧ x < w2.heap.size) := h2; omega)
        replace hO33 := hO33.upd hU36 (by intro x h1 h2; have h3 : ((((((x = ga) ∧ x < w2.heap.size)) ∨ x = w32.heap.size)) ∧ x < w33.heap.size) := h1; have h4 : ((x = gb) ∧ x < w2.heap.size) := h2; omega)
        replace hO36 := hO36.tight
        have hl_hO36 := rlen encE_len (by decide) hO36.sl
        have hc_hO36 := hO36.sl.cap.1
        refine Wl_nil ?_
        intro w37 hS37
        refine ⟨fun h => absurd h (by rw [show barOp _ 10 = true from by kernel_rfl]; simp), fun _ => ⟨Upd No w37, ?_⟩⟩
        have hU37 := hS37.upd
        have hzw37 := hU37.size
        replace hs := hs.upd0 hU37
        replace HU := HU.trans0 hU37
        replace hO1 := hO1.upd0 hU37
        replace HL2 := HL2.trans0 hU37
        replace hs27 := hs27.upd0 hU37
        replace hs30 := hs30.upd0 hU37
        replace hO33 := hO33.upd0 hU37
        replace hO36 := hO36.upd0 hU37
        try replace hW := hW.trans0 hU37
        refine Wt_base (Upd.refl _ _) ?_
        refine Wt_take (i := 11) (listed' := #[true, true, true, true, true, true, true, true, true, true, true, true, false]) (by kernel_rfl) rfl (by kernel_rfl) (by kernel_rfl) (by kernel_rfl) (by kernel_rfl) (YI_v (v := .slice a33 (k + 1) c33) rfl (fun w' hw' => r_as (v := .slice a33 (k + 1) c33) rfl)) ?_
        refine Wt_take (i := 12) (listed' := #[true, true, true, true, true, true, true, true, true, true, true, true, true]) (by kernel_rfl) rfl (by kernel_rfl) (by kernel_rfl) (by kernel_rfl) (by kernel_rfl) (YI_v (v := .slice a36 (k + 1) c36) rfl (fun w' hw' => r_as (v := .slice a36 (k + 1) c36) rfl)) ?_
        intro w38 hU38
        have hzw38 := hU38.size
        replace hs := hs.upd0 hU38
        replace HU := HU.trans0 hU38
        replace hO1 := hO1.upd0 hU38
        replace HL2 := HL2.trans0 hU38
        replace hs27 := hs27.upd0 hU38
        replace hs30 := hs30.upd0 hU38
        replace hO33 := hO33.upd0 hU38
        replace hO36 := hO36.upd0 hU38
        try replace hW := hW.trans0 hU38
        refine Wa_done (by kernel_rfl) ?_
        refine W_region ?_
        refine Wl_v (r_mv (v := .int .i64 ((i : Nat) : Int)) rfl) ?_
        refine Wl_v (r_add rfl rfl (wi64 (by omega) (by omega))) ?_
        refine Wl_v (r_as (v := .int .i64 (((i : Nat) : Int) + 1)) rfl) ?_
        refine Wl_nil ?_
        obtain ⟨ga2, hga2, hA2⟩ := hO33.one (by omega)
        obtain ⟨gb2, hgb2, hO2⟩ := hO36.one (by omega)
        replace hga2 : ((((((ga2 = ga) ∧ ga2 < w2.heap.size)) ∨ ga2 = w32.heap.size)) ∧ ga2 < w33.heap.size) := hga2
        replace hgb2 : ((((((gb2 = gb) ∧ gb2 < w2.heap.size)) ∨ gb2 = w35.heap.size)) ∧ gb2 < w36.heap.size) := hgb2
        refine ⟨_, ?_, (i + 1), (k + 1), a33, c33, a36, c36, ga2, gb2, rfl, rfl, ⟨rfl, (by first | rfl | exact vint (by omega) | exact vint (by simp)), (by first | rfl | exact vint (by omega) | exact vint (by simp)), (Eq.trans (b := .int .i64 (((i : Nat) : Int) + 1)) rfl (vint (by omega))), trivial⟩, (by omega), hnw.2.2.1, (by omega), (by rw [rps_s, ← hnw.2.1]; exact hA2), (by rw [os_step hnw.1, ← hnw.2.2.2, ← htg]; exact hO2), HL2⟩
        omega
    · rw [decide_eq_false q2]
      refine Wt_take (i := 3) (listed' := #[true, true, true, true, false, false, false, false, false, false, false, false, false, false]) (by kernel_rfl) rfl (by kernel_rfl) (by kernel_rfl) (by kernel_rfl) (by kernel_rfl) (YI_v (v := .slice a1 (2 ^ bt l) c1) rfl (fun w' hw' => r_mv (v := .slice a1 (2 ^ bt l) c1) rfl)) ?_
      refine Wt_take (i := 4) (listed' := #[true, true, true, true, true, false, false, false, false, false, false, false, false, false]) (by kernel_rfl) rfl (by kernel_rfl) (by kernel_rfl) (by kernel_rfl) (by kernel_rfl) (YI_v (v := .int .i64 ((i : Nat) : Int)) rfl (fun w' hw' => r_mv (v := .int .i64 ((i : Nat) : Int)) rfl)) ?_
      obtain ⟨ib39, io39, ha39, hib39, hc39⟩ := Sl.rat (0, 0) encE_len (by decide) (hO1.sl) (i := i) (by omega)
      replace hib39 : ((w.heap.size ≤ ib39) ∧ ib39 < w1.heap.size) := hib39
      refine Wt_take (i := 5) (listed' := #[true, true, true, true, true, true, false, false, false, false, false, false, false, false]) (by kernel_rfl) rfl (by kernel_rfl) (by kernel_rfl) (by kernel_rfl) (by kernel_rfl) (YI_v (v := .pointer (some ⟨ib39, io39 + i * 2, none⟩)) rfl (fun w' hw' => r_idx (b := ib39) (off := io39) (m := 2 ^ bt l) (c := c1) (o' := io39 + i * 2) Try.underlying24 Try.sizeOf38 (by rw [← ha39]; rfl) rfl (by omega) (by omega) (by omega))) ?_
      refine Wt_take (i := 6) (listed' := #[true, true, true, true, true, true, true, false, false, false, false, false, false, false]) (by kernel_rfl) rfl (by kernel_rfl) (by kernel_rfl) (by kernel_rfl) (by kernel_rfl) (YI_v (v := .agg #[.int .i64 (((tbl l).getD i (0, 0)).1), .int .i64 (((tbl l).getD i (0, 0)).2)]) rfl (fun w' hw' => r_loada (cs := [.int .i64 (((tbl l).getD i (0, 0)).1), .int .i64 (((tbl l).getD i (0, 0)).2)]) Try.isAgg38 Try.sizeOf38 rfl rfl (hw'.cellsk rfl hc39))) ?_
      refine Wt_take (i := 7) (listed' := #[true, true, true, true, true, true, true, true, false, false, false, false, false, false]) (by kernel_rfl) rfl (by kernel_rfl) (by kernel_rfl) (by kernel_rfl) (by kernel_rfl) (YI_v (v := .slice a1 (2 ^ bt l) c1) rfl (fun w' hw' => r_mv (v := .slice a1 (2 ^ bt l) c1) rfl)) ?_
      refine Wt_take (i := 8) (listed' := #[true, true, true, true, true, true, true, true, true, false, false, false, false, false]) (by kernel_rfl) rfl (by kernel_rfl) (by kernel_rfl) (by kernel_rfl) (by kernel_rfl) (YI_v (v := .int .i64 ((i : Nat) : Int)) rfl (fun w' hw' => r_mv (v := .int .i64 ((i : Nat) : Int)) rfl)) ?_
      refine Wt_take (i := 9) (listed' := #[true, true, true, true, true, true, true, true, true, true, false, false, false, false]) (by kernel_rfl) rfl (by kernel_rfl) (by kernel_rfl) (by kernel_rfl) (by kernel_rfl) (YI_v (v := .int .i64 (((i : Nat) : Int) - 1)) rfl (fun w' hw' => r_sub rfl rfl (wi64 (by omega) (by omega)))) ?_
      obtain ⟨ib40, io40, ha40, hib40, hc40⟩ := Sl.rat (0, 0) encE_len (by decide) (hO1.sl) (i := (i - 1)) (by omega)
      replace hib40 : ((w.heap.size ≤ ib40) ∧ ib40 < w1.heap.size) := hib40
      refine Wt_take (i := 10) (listed' := #[true, true, true, true, true, true, true, true, true, true, true, false, false, false]) (by kernel_rfl) rfl (by kernel_rfl) (by kernel_rfl) (by kernel_rfl) (by kernel_rfl) (YI_v (v := .pointer (some ⟨ib40, io40 + (i - 1) * 2, none⟩)) rfl (fun w' hw' => r_idx (b := ib40) (off := io40) (m := 2 ^ bt l) (c := c1) (o' := io40 + (i - 1) * 2) Try.underlying24 Try.sizeOf38 (by rw [← ha40]; rfl) rfl (by omega) (by omega) (by omega))) ?_
      refine Wt_take (i := 11) (listed' := #[true, true, true, true, true, true, true, true, true, true, true, true, false, false]) (by kernel_rfl) rfl (by kernel_rfl) (by kernel_rfl) (by kernel_rfl) (by kernel_rfl) (YI_v (v := .agg #[.int .i64 (((tbl l).getD (i - 1) (0, 0)).1), .int .i64 (((tbl l).getD (i - 1) (0, 0)).2)]) rfl (fun w' hw' => r_loada (cs := [.int .i64 (((tbl l).getD (i - 1) (0, 0)).1), .int .i64 (((tbl l).getD (i - 1) (0, 0)).2)]) Try.isAgg38 Try.sizeOf38 rfl rfl (hw'.cellsk rfl hc40))) ?_
      refine Wt_take (i := 12) (listed' := #[true, true, true, true, true, true, true, true, true, true, true, true, true, false]) (by kernel_rfl) rfl (by kernel_rfl) (by kernel_rfl) (by kernel_rfl) (by kernel_rfl) (YI_v (v := .bool (!decide ((((tbl l).getD i (0, 0)).1) = (((tbl l).getD (i - 1) (0, 0)).1) ∧ (((tbl l).getD i (0, 0)).2) = (((tbl l).getD (i - 1) (0, 0)).2)))) rfl (fun w' hw' => r_neag (pp := (((tbl l).getD i (0, 0)).1) = (((tbl l).getD (i - 1) (0, 0)).1) ∧ (((tbl l).getD i (0, 0)).2) = (((tbl l).getD (i - 1) (0, 0)).2)) Try.underlying38 (by kernel_rfl) (by kernel_rfl) rfl rfl (fun w => eqf_int (by decide) Try.underlying3 Try.isAgg3 rfl rfl (fun w => eqf_int (by decide) Try.underlying3 Try.isAgg3 rfl rfl (fun w => eqf_nil))) (by simp [Bool.decide_and]))) ?_
      refine Wt_take (i := 13) (listed' := #[true, true, true, true, true, true, true, true, true, true, true, true, true, true]) (by kernel_rfl) rfl (by kernel_rfl) (by kernel_rfl) (by kernel_rfl) (by kernel_rfl) (YI_v rfl (fun w' hw' => r_pick_f (v := .bool (!decide ((((tbl l).getD i (0, 0)).1) = (((tbl l).getD (i - 1) (0, 0)).1) ∧ (((tbl l).getD i (0, 0)).2) = (((tbl l).getD (i - 1) (0, 0)).2)))) rfl rfl)) ?_
      intro w41 hU41
      have hzw41 := hU41.size
      replace hs := hs.upd0 hU41
      replace HU := HU.trans0 hU41
      replace hO1 := hO1.upd0 hU41
      replace hA := hA.upd0 hU41
      replace hO := hO.upd0 hU41
      replace HL2 := HL2.trans0 hU41
      refine Wa_done (by kernel_rfl) ?_
      by_cases q3 : (((tbl l).getD i (0, 0)).1) = (((tbl l).getD (i - 1) (0, 0)).1) ∧ (((tbl l).getD i (0, 0)).2) = (((tbl l).getD (i - 1) (0, 0)).2)
      · have hol := hRn.old hr (by omega) (by omega) (by rw [← htg, ← htg2]; exact Prod.ext q3.1 q3.2)
        rw [decide_eq_true q3]
        simp only [Bool.not_true, Bool.not_false]
        refine W_cond_f rfl ?_
        refine W_skip ?_
        refine W_region ?_
        refine Wl_v (r_mv (v := .int .i64 ((i : Nat) : Int)) rfl) ?_
        refine Wl_v (r_add rfl rfl (wi64 (by omega) (by omega))) ?_
        refine Wl_v (r_as (v := .int .i64 (((i : Nat) : Int) + 1)) rfl) ?_
        refine Wl_nil ?_
        refine ⟨_, ?_, (i + 1), k, a2, c2, a3, c3, ga, gb, rfl, rfl, ⟨rfl, (by first | rfl | exact vint (by omega) | exact vint (by simp)), (by first | rfl | exact vint (by omega) | exact vint (by simp)), (Eq.trans (b := .int .i64 (((i : Nat) : Int) + 1)) rfl (vint (by omega))), trivial⟩, (by omega), hol, (by omega), (hA.weak (by intro g hg; have h3 : ((g = ga) ∧ g < w2.heap.size) := hg; show g = ga; omega)), (hO.weak (by intro g hg; have h3 : ((g = gb) ∧ g < w2.heap.size) := hg; show g = gb; omega)), HL2⟩
        omega
      · have hnw := hRn.new hr (by omega) (.inr (fun e => q3 ⟨by rw [htg, htg2, e], by rw [htg, htg2, e]⟩))
        rw [decide_eq_false q3]
        simp only [Bool.not_true, Bool.not_false]
        refine W_cond_t rfl ?_
        refine W_drawS (T := fun g => w1.heap.size ≤ g) rfl (l0 := #[false, false, false, false, false, false, false, false, false, false, false, false, false]) (by kernel_rfl) ?_
        refine WtS_take (i := 0) (listed' := #[true, false, false, false, false, false, false, false, false, false, false, false, false]) (Upd.refl _ _) (by kernel_rfl) rfl (by kernel_rfl) (by kernel_rfl) (by kernel_rfl) (by kernel_rfl) (YS_v (v := .slice a2 k c2) rfl (fun w' hw' => r_mv (v := .slice a2 k c2) rfl)) ?_
        refine WtS_take (i := 1) (listed' := #[true, true, false, false, false, false, false, false, false, false, false, false, false]) (Upd.refl _ _) (by kernel_rfl) rfl (by kernel_rfl) (by kernel_rfl) (by kernel_rfl) (by kernel_rfl) (YS_v (v := .int .i64 ((i : Nat) : Int)) rfl (fun w' hw' => r_mv (v := .int .i64 ((i : Nat) : Int)) rfl)) ?_
        refine WtS_take (i := 4) (listed' := #[true, true, false, false, true, false, false, false, false, false, false, false, false]) (Upd.refl _ _) (by kernel_rfl) rfl (by kernel_rfl) (by kernel_rfl) (by kernel_rfl) (by kernel_rfl) (YS_v (v := .slice a3 k c3) rfl (fun w' hw' => r_mv (v := .slice a3 k c3) rfl)) ?_
        refine WtS_take (i := 5) (listed' := #[true, true, false, false, true, true, false, false, false, false, false, false, false]) (Upd.refl _ _) (by kernel_rfl) rfl (by kernel_rfl) (by kernel_rfl) (by kernel_rfl) (by kernel_rfl) (YS_v (v := .slice a1 (2 ^ bt l) c1) rfl (fun w' hw' => r_mv (v := .slice a1 (2 ^ bt l) c1) rfl)) ?_
        refine WtS_take (i := 6) (listed' := #[true, true, false, false, true, true, true, false, false, false, false, false, false]) (Upd.refl _ _) (by kernel_rfl) rfl (by kernel_rfl) (by kernel_rfl) (by kernel_rfl) (by kernel_rfl) (YS_v (v := .int .i64 ((i : Nat) : Int)) rfl (fun w' hw' => r_mv (v := .int .i64 ((i : Nat) : Int)) rfl)) ?_
        obtain ⟨ib42, io42, ha42, hib42, hc42⟩ := Sl.rat (0, 0) encE_len (by decide) (hO1.sl) (i := i) (by omega)
        replace hib42 : ((w.heap.size ≤ ib42) ∧ ib42 < w1.heap.size) := hib42
        refine WtS_take (i := 7) (listed' := #[true, true, false, false, true, true, true, true, false, false, false, false, false]) (Upd.refl _ _) (by kernel_rfl) rfl (by kernel_rfl) (by kernel_rfl) (by kernel_rfl) (by kernel_rfl) (YS_v (v := .pointer (some ⟨ib42, io42 + i * 2, none⟩)) rfl (fun w' hw' => r_idx (b := ib42) (off := io42) (m := 2 ^ bt l) (c := c1) (o' := io42 + i * 2) Try.underlying24 Try.sizeOf38 (by rw [← ha42]; rfl) rfl (by omega) (by omega) (by omega))) ?_
        refine WtS_take (i := 8) (listed' := #[true, true, false, false, true, true, true, true, true, false, false, false, false]) (Upd.refl _ _) (by kernel_rfl) rfl (by kernel_rfl) (by kernel_rfl) (by kernel_rfl) (by kernel_rfl) (YS_v (v := .agg #[.int .i64 (((tbl l).getD i (0, 0)).1), .int .i64 (((tbl l).getD i (0, 0)).2)]) rfl (fun w' hw' => r_loada (cs := [.int .i64 (((tbl l).getD i (0, 0)).1), .int .i64 (((tbl l).getD i (0, 0)).2)]) Try.isAgg38 Try.sizeOf38 rfl rfl (hw'.cellsT rfl hc42 (by show ¬ (w1.heap.size ≤ ib42); omega)))) ?_
        intro w43 hU43
        have hzw43 := hU43.size
        replace hs := hs.upd0 hU43
        replace HU := HU.trans0 hU43
        replace hO1 := hO1.upd0 hU43
        replace hA := hA.upd0 hU43
        replace hO := hO.upd0 hU43
        replace HL2 := HL2.trans0 hU43
        refine Wa_two (i := 2) (j := 9) (li := #[true, true, true, false, true, true, true, true, true, false, false, false, false]) (lj := #[true, true, false, false, true, true, true, true, true, true, false, false, false]) (by kernel_rfl) rfl rfl (by kernel_rfl) (by kernel_rfl) ?_ ?_
        · refine Ws_of_Wl ?_
          have hW : Upd (fun g => w1.heap.size ≤ g) w41 w41 := (Upd.refl _ _)
          replace hW := hW.trans0 hU43
          refine Wl_lit (pv := [(0, .int .i64 ((i : Nat) : Int))]) (cs := [.int .i64 ((i : Nat) : Int)]) Try.underlying22 Try.sizeOf3 Try.zeroValue3 (by decide) (by decide) (by simp only [List.map_toArray, List.map_cons, List.map_nil] <;> rfl) (by kernel_rfl) rfl (by decide) ?_
          intro B44 w44 hB44 hU44 hzz44 hs44
          have hzw44 := hU44.size
          replace hs := hs.upd0 hU44
          replace HU := HU.trans0 hU44
          replace hO1 := hO1.upd0 hU44
          replace hA := hA.upd0 hU44
          replace hO := hO.upd0 hU44
          replace HL2 := HL2.trans0 hU44
          replace hW := hW.trans0 hU44
          replace hs44 : Own w44 (Is B44) 3 1 (.slice (some ⟨B44, 0, none⟩) 1 1) 1 (ints .i64 [((i : Nat) : Int)]) := hs44
          refine Wl_nil ?_
          intro w45 hS45
          have hX45 : Upd _ w41 w45 := hW.trans0 hS45.upd
          refine ⟨fun _ => ⟨hX45, ?_⟩, fun h => absurd h (by rw [show barOp _ 2 = false from by kernel_rfl]; simp)⟩
          have hU45 := hS45.upd
          have hzw45 := hU45.size
          replace hs := hs.upd0 hU45
          replace HU := HU.trans0 hU45
          replace hO1 := hO1.upd0 hU45
          replace hA := hA.upd0 hU45
          replace hO := hO.upd0 hU45
          replace HL2 := HL2.trans0 hU45
          replace hs44 := hs44.upd0 hU45
          refine WtS_base ?_
          intro w46 hU46
          have hzw46 := hU46.size
          replace hs := hs.upd0 hU46
          replace HU := HU.trans0 hU46
          replace hO1 := hO1.upd0 hU46
          replace hA := hA.upd0 hU46
          replace hO := hO.upd0 hU46
          replace HL2 := HL2.trans0 hU46
          replace hs44 := hs44.upd0 hU46
          refine Wa_two (i := 3) (j := 9) (li := #[true, true, true, true, true, true, true, true, true, false, false, false, false]) (lj := #[true, true, true, false, true, true, true, true, true, true, false, false, false]) (by kernel_rfl) rfl rfl (by kernel_rfl) (by kernel_rfl) ?_ ?_
          · refine Ws_of_Wl ?_
            have hW : Upd (fun g => w1.heap.size ≤ g) w41 w45 := hX45
            replace hW := hW.trans0 hU46
            refine Wl_appendi (xs := rps l k) (ys := [((i : Nat) : Int)]) (zs := (rps l k) ++ [((i : Nat) : Int)]) (k' := .i64) (tot := k + 1) (by first | rfl | exact (rows_app _ _).symm | simp) Try.underlying22 (ti := Try.t3) (z := .int .i64 0) (sz := 1) (by' := 8) rfl rfl rfl rfl rfl (by decide) rfl hA rfl hs44.sl  (by omega) (by simp only [maxLen]; omega) (by omega) ?_
            intro a47 c47 w47 hU47 hzz47 hO47
            clear hA
            have hzw47 := hU47.size
            replace hs := hs.upd hU47 (by intro x h1 h2; have h3 : ((R x) ∧ x < w.heap.size) := h1; have h4 : ((x = ga) ∧ x < w2.heap.size) := h2; omega)
            replace HU := HU.trans hU47 (by intro x hx; have hx2 : ((x = ga) ∧ x < w2.heap.size) := hx; show (False) ∨ w.heap.size ≤ x; omega)
            replace hO1 := hO1.upd hU47 (by intro x h1 h2; have h3 : ((w.heap.size ≤ x) ∧ x < w1.heap.size) := h1; have h4 : ((x = ga) ∧ x < w2.heap.size) := h2; omega)
            replace hO := hO.upd hU47 (by intro x h1 h2; have h3 : ((x = gb) ∧ x < w2.heap.size) := h1; have h4 : ((x = ga) ∧ x < w2.heap.size) := h2; omega)
            replace HL2 := HL2.trans hU47 (by intro x hx; have hx2 : ((x = ga) ∧ x < w2.heap.size) := hx; show (w1.heap.size ≤ x) ∨ w1.heap.size ≤ x; omega)
            replace hs44 := hs44.upd hU47 (by intro x h1 h2; have h3 : x = B44 := h1; have h4 : ((x = ga) ∧ x < w2.heap.size) := h2; omega)
            replace hW := hW.trans hU47 (by intro x hx; have hx2 : ((x = ga) ∧ x < w2.heap.size) := hx; show (w1.heap.size ≤ x) ∨ w41.heap.size ≤ x; omega)
            replace hO47 := hO47.tight
            have hl_hO47 := ilen hO47.sl
            have hc_hO47 := hO47.sl.cap.1
            refine Wl_nil ?_
            intro w48 hS48
            have hX48 : Upd _ w41 w48 := hW.trans0 hS48.upd
            refine ⟨fun _ => ⟨hX48, ?_⟩, fun h => absurd h (by rw [show barOp _ 3 = false from by kernel_rfl]; simp)⟩
            have hU48 := hS48.upd
            have hzw48 := hU48.size
            replace hs := hs.upd0 hU48
            replace HU := HU.trans0 hU48
            replace hO1 := hO1.upd0 hU48
            replace hO := hO.upd0 hU48
            replace HL2 := HL2.trans0 hU48
            replace hs44 := hs44.upd0 hU48
            replace hO47 := hO47.upd0 hU48
            refine WtS_base ?_
            intro w49 hU49
            have hzw49 := hU49.size
            replace hs := hs.upd0 hU49
            replace HU := HU.trans0 hU49
            replace hO1 := hO1.upd0 hU49
            replace hO := hO.upd0 hU49
            replace HL2 := HL2.trans0 hU49
            replace hs44 := hs44.upd0 hU49
            replace hO47 := hO47.upd0 hU49
            refine Wa_one (i := 9) (listed' := #[true, true, true, true, true, true, true, true, true, true, false, false, false]) (by kernel_rfl) rfl (by kernel_rfl) ?_
            refine Ws_of_Wl ?_
            have hW : Upd (fun g => w1.heap.size ≤ g) w41 w48 := hX48
            replace hW := hW.trans0 hU49
            refine Wl_lit (pv := [(0, .agg #[.int .i64 (((tbl l).getD i (0, 0)).1), .int .i64 (((tbl l).getD i (0, 0)).2)])]) (cs := [.int .i64 (((tbl l).getD i (0, 0)).1), .int .i64 (((tbl l).getD i (0, 0)).2)]) Try.underlying24 Try.sizeOf38 Try.zeroValue38 (by decide) (by decide) (by simp only [List.map_toArray, List.map_cons, List.map_nil] <;> rfl) (by kernel_rfl) rfl (by decide) ?_
            intro B50 w50 hB50 hU50 hzz50 hs50
            have hzw50 := hU50.size
            replace hs := hs.upd0 hU50
            replace HU := HU.trans0 hU50
            replace hO1 := hO1.upd0 hU50
            replace hO := hO.upd0 hU50
            replace HL2 := HL2.trans0 hU50
            replace hs44 := hs44.upd0 hU50
            replace hO47 := hO47.upd0 hU50
            replace hW := hW.trans0 hU50
            replace hs50 : Own w50 (Is B50) 38 2 (.slice (some ⟨B50, 0, none⟩) 1 1) 1 (rows encE [(((tbl l).getD i (0, 0)).1, ((tbl l).getD i (0, 0)).2)]) := hs50
            refine Wl_nil ?_
            intro w51 hS51
            have hX51 : Upd _ w41 w51 := hW.trans0 hS51.upd
            refine ⟨fun _ => ⟨hX51, ?_⟩, fun h => absurd h (by rw [show barOp _ 9 = false from by kernel_rfl]; simp)⟩
            have hU51 := hS51.upd
            have hzw51 := hU51.size
            replace hs := hs.upd0 hU51
            replace HU := HU.trans0 hU51
            replace hO1 := hO1.upd0 hU51
            replace hO := hO.upd0 hU51
            replace HL2 := HL2.trans0 hU51
            replace hs44 := hs44.upd0 hU51
            replace hO47 := hO47.upd0 hU51
            replace hs50 := hs50.upd0 hU51
            refine WtS_base ?_
            intro w52 hU52
            have hzw52 := hU52.size
            replace hs := hs.upd0 hU52
            replace HU := HU.trans0 hU52
            replace hO1 := hO1.upd0 hU52
            replace hO := hO.upd0 hU52
            replace HL2 := HL2.trans0 hU52
            replace hs44 := hs44.upd0 hU52
            replace hO47 := hO47.upd0 hU52
            replace hs50 := hs50.upd0 hU52
            refine Wa_one (i := 10) (listed' := #[true, true, true, true, true, true, true, true, true, true, true, false, false]) (by kernel_rfl) rfl (by kernel_rfl) ?_
            refine Ws_of_Wl ?_
            have hW : Upd No w51 w52 := hU52
            refine Wl_appendc (cs3 := rows encE (((os l).take k) ++ [(((tbl l).getD i (0, 0)).1, ((tbl l).getD i (0, 0)).2)])) (tot := k + 1) (by first | rfl | exact (rows_app _ _).symm | simp) Try.underlying24 (ti := Try.t38) (z := .agg #[.int .i64 0, .int .i64 0]) (sz := 2) (by' := 16) rfl rfl rfl rfl rfl (by decide) rfl hO rfl hs50.sl (rows_one encE_one _) (by omega) (by simp only [maxLen]; omega) (by omega) ?_
            intro a53 c53 w53 hU53 hzz53 hO53
            clear hO
            have hzw53 := hU53.size
            replace hs := hs.upd hU53 (by intro x h1 h2; have h3 : ((R x) ∧ x < w.heap.size) := h1; have h4 : ((x = gb) ∧ x < w2.heap.size) := h2; omega)
            replace HU := HU.trans hU53 (by intro x hx; have hx2 : ((x = gb) ∧ x < w2.heap.size) := hx; show (False) ∨ w.heap.size ≤ x; omega)
            replace hO1 := hO1.upd hU53 (by intro x h1 h2; have h3 : ((w.heap.size ≤ x) ∧ x < w1.heap.size) := h1; have h4 : ((x = gb) ∧ x < w2.heap.size) := h2; omega)
            replace HL2 := HL2.trans hU53 (by intro x hx; have hx2 : ((x = gb) ∧ x < w2.heap.size) := hx; show (w1.heap.size ≤ x) ∨ w1.heap.size ≤ x; omega)
            replace hs44 := hs44.upd hU53 (by intro x h1 h2; have h3 : x = B44 := h1; have h4 : ((x = gb) ∧ x < w2.heap.size) := h2; omega)
            replace hO47 := hO47.upd hU53 (by intro x h1 h2; have h3 : ((((((x = ga) ∧ x < w2.heap.size)) ∨ x = w46.heap.size)) ∧ x < w47.heap.size) := h1; have h4 : ((x = gb) ∧ x < w2.heap.size) := h2; omega)
            replace hs50 := hs50.upd hU53 (by intro x h1 h2; have h3 : x = B50 := h1; have h4 : ((x = gb) ∧ x < w2.heap.size) := h2; omega)
            replace hO53 := hO53.tight
            have hl_hO53 := rlen encE_len (by decide) hO53.sl
            have hc_hO53 := hO53.sl.cap.1
            refine Wl_nil ?_
            intro w54 hS54
            refine ⟨fun h => absurd h (by rw [show barOp _ 10 = true from by kernel_rfl]; simp), fun _ => ⟨Upd No w54, ?_⟩⟩
            have hU54 := hS54.upd
            have hzw54 := hU54.size
            replace hs := hs.upd0 hU54
            replace HU := HU.trans0 hU54
            replace hO1 := hO1.upd0 hU54
            replace HL2 := HL2.trans0 hU54
            replace hs44 := hs44.upd0 hU54
            replace hO47 := hO47.upd0 hU54
            replace hs50 := hs50.upd0 hU54
            replace hO53 := hO53.upd0 hU54
            try replace hW := hW.trans0 hU54
            refine Wt_base (Upd.refl _ _) ?_
            refine Wt_take (i := 11) (listed' := #[true, true, true, true, true, true, true, true, true, true, true, true, false]) (by kernel_rfl) rfl (by kernel_rfl) (by kernel_rfl) (by kernel_rfl) (by kernel_rfl) (YI_v (v := .slice a47 (k + 1) c47) rfl (fun w' hw' => r_as (v := .slice a47 (k + 1) c47) rfl)) ?_
            refine Wt_take (i := 12) (listed' := #[true, true, true, true, true, true, true, true, true, true, true, true, true]) (by kernel_rfl) rfl (by kernel_rfl) (by kernel_rfl) (by kernel_rfl) (by kernel_rfl) (YI_v (v := .slice a53 (k + 1) c53) rfl (fun w' hw' => r_as (v := .slice a53 (k + 1) c53) rfl)) ?_
            intro w55 hU55
            have hzw55 := hU55.size
            replace hs := hs.upd0 hU55
            replace HU := HU.trans0 hU55
            replace hO1 := hO1.upd0 hU55
            replace HL2 := HL2.trans0 hU55
            replace hs44 := hs44.upd0 hU55
            replace hO47 := hO47.upd0 hU55
            replace hs50 := hs50.upd0 hU55
            replace hO53 := hO53.upd0 hU55
            try replace hW := hW.trans0 hU55
            refine Wa_done (by kernel_rfl) ?_
            refine W_region ?_
            refine Wl_v (r_mv (v := .int .i64 ((i : Nat) : Int)) rfl) ?_
            refine Wl_v (r_add rfl rfl (wi64 (by omega) (by omega))) ?_
            refine Wl_v (r_as (v := .int .i64 (((i : Nat) : Int) + 1)) rfl) ?_
            refine Wl_nil ?_
            obtain ⟨ga2, hga2, hA2⟩ := hO47.one (by omega)
            obtain ⟨gb2, hgb2, hO2⟩ := hO53.one (by omega)
            replace hga2 : ((((((ga2 = ga) ∧ ga2 < w2.heap.size)) ∨ ga2 = w46.heap.size)) ∧ ga2 < w47.heap.size) := hga2
            replace hgb2 : ((((((gb2 = gb) ∧ gb2 < w2.heap.size)) ∨ gb2 = w52.heap.size)) ∧ gb2 < w53.heap.size) := hgb2
            refine ⟨_, ?_, (i + 1), (k + 1), a47, c47, a53, c53, ga2, gb2, rfl, rfl, ⟨rfl, (by first | rfl | exact vint (by omega) | exact vint (by simp)), (by first | rfl | exact vint (by omega) | exact vint (by simp)), (Eq.trans (b := .int .i64 (((i : Nat) : Int) + 1)) rfl (vint (by omega))), trivial⟩, (by omega), hnw.2.2.1, (by omega), (by rw [rps_s, ← hnw.2.1]; exact hA2), (by rw [os_step hnw.1, ← hnw.2.2.2, ← htg]; exact hO2), HL2⟩
            omega
          · refine Ws_of_Wl ?_
            have hW : Upd (fun g => w1.heap.size ≤ g) w41 w45 := hX45
            replace hW := hW.trans0 hU46
            refine Wl_lit (pv := [(0, .agg #[.int .i64 (((tbl l).getD i (0, 0)).1), .int .i64 (((tbl l).getD i (0, 0)).2)])]) (cs := [.int .i64 (((tbl l).getD i (0, 0)).1), .int .i64 (((tbl l).getD i (0, 0)).2)]) Try.underlying24 Try.sizeOf38 Try.zeroValue38 (by decide) (by decide) (by simp only [List.map_toArray, List.map_cons, List.map_nil] <;> rfl) (by kernel_rfl) rfl (by decide) ?_
            intro B56 w56 hB56 hU56 hzz56 hs56
            have hzw56 := hU56.size
            replace hs := hs.upd0 hU56
            replace HU := HU.trans0 hU56
            replace hO1 := hO1.upd0 hU56
            replace hA := hA.upd0 hU56
            replace hO := hO.upd0 hU56
            replace HL2 := HL2.trans0 hU56
            replace hs44 := hs44.upd0 hU56
            replace hW := hW.trans0 hU56
            replace hs56 : Own w56 (Is B56) 38 2 (.slice (some ⟨B56, 0, none⟩) 1 1) 1 (rows encE [(((tbl l).getD i (0, 0)).1, ((tbl l).getD i (0, 0)).2)]) := hs56
            refine Wl_nil ?_
            intro w57 hS57
            have hX57 : Upd _ w41 w57 := hW.trans0 hS57.upd
            refine ⟨fun _ => ⟨hX57, ?_⟩, fun h => absurd h (by rw [show barOp _ 9 = false from by kernel_rfl]; simp)⟩
            have hU57 := hS57.upd
            have hzw57 := hU57.size
            replace hs := hs.upd0 hU57
            replace HU := HU.trans0 hU57
            replace hO1 := hO1.upd0 hU57
            replace hA := hA.upd0 hU57
            replace hO := hO.upd0 hU57
            replace HL2 := HL2.trans0 hU57
            replace hs44 := hs44.upd0 hU57
            replace hs56 := hs56.upd0 hU57
            refine WtS_base ?_
            intro w58 hU58
            have hzw58 := hU58.size
            replace hs := hs.upd0 hU58
            replace HU := HU.trans0 hU58
            replace hO1 := hO1.upd0 hU58
            replace hA := hA.upd0 hU58
            replace hO := hO.upd0 hU58
            replace HL2 := HL2.trans0 hU58
            replace hs44 := hs44.upd0 hU58
            replace hs56 := hs56.upd0 hU58
            refine Wa_one (i := 3) (listed' := #[true, true, true, true, true, true, true, true, true, true, false, false, false]) (by kernel_rfl) rfl (by kernel_rfl) ?_
            refine Ws_of_Wl ?_
            have hW : Upd (fun g => w1.heap.size ≤ g) w41 w57 := hX57
            replace hW := hW.trans0 hU58
            refine Wl_appendi (xs := rps l k) (ys := [((i : Nat) : Int)]) (zs := (rps l k) ++ [((i : Nat) : Int)]) (k' := .i64) (tot := k + 1) (by first | rfl | exact (rows_app _ _).symm | simp) Try.underlying22 (ti := Try.t3) (z := .int .i64 0) (sz := 1) (by' := 8) rfl rfl rfl rfl rfl (by decide) rfl hA rfl hs44.sl  (by omega) (by simp only [maxLen]; omega) (by omega) ?_
            intro a59 c59 w59 hU59 hzz59 hO59
            clear hA
            have hzw59 := hU59.size
            replace hs := hs.upd hU59 (by intro x h1 h2; have h3 : ((R x) ∧ x < w.heap.size) := h1; have h4 : ((x = ga) ∧ x < w2.heap.size) := h2; omega)
            replace HU := HU.trans hU59 (by intro x hx; have hx2 : ((x = ga) ∧ x < w2.heap.size) := hx; show (False) ∨ w.heap.size ≤ x; omega)
            replace hO1 := hO1.upd hU59 (by intro x h1 h2; have h3 : ((w.heap.size ≤ x) ∧ x < w1.heap.size) := h1; have h4 : ((x = ga) ∧ x < w2.heap.size) := h2; omega)
            replace hO := hO.upd hU59 (by intro x h1 h2; have h3 : ((x = gb) ∧ x < w2.heap.size) := h1; have h4 : ((x = ga) ∧ x < w2.heap.size) := h2; omega)
            replace HL2 := HL2.trans hU59 (by intro x hx; have hx2 : ((x = ga) ∧ x < w2.heap.size) := hx; show (w1.heap.size ≤ x) ∨ w1.heap.size ≤ x; omega)
            replace hs44 := hs44.upd hU59 (by intro x h1 h2; have h3 : x = B44 := h1; have h4 : ((x = ga) ∧ x < w2.heap.size) := h2; omega)
            replace hs56 := hs56.upd hU59 (by intro x h1 h2; have h3 : x = B56 := h1; have h4 : ((x = ga) ∧ x < w2.heap.size) := h2; omega)
            replace hW := hW.trans hU59 (by intro x hx; have hx2 : ((x = ga) ∧ x < w2.heap.size) := hx; show (w1.heap.size ≤ x) ∨ w41.heap.size ≤ x; omega)
            replace hO59 := hO59.tight
            have hl_hO59 := ilen hO59.sl
            have hc_hO59 := hO59.sl.cap.1
            refine Wl_nil ?_
            intro w60 hS60
            have hX60 : Upd _ w41 w60 := hW.trans0 hS60.upd
            refine ⟨fun _ => ⟨hX60, ?_⟩, fun h => absurd h (by rw [show barOp _ 3 = false from by kernel_rfl]; simp)⟩
            have hU60 := hS60.upd
            have hzw60 := hU60.size
            replace hs := hs.upd0 hU60
            replace HU := HU.trans0 hU60
            replace hO1 := hO1.upd0 hU60
            replace hO := hO.upd0 hU60
            replace HL2 := HL2.trans0 hU60
            replace hs44 := hs44.upd0 hU60
            replace hs56 := hs56.upd0 hU60
            replace hO59 := hO59.upd0 hU60
            refine WtS_base ?_
            intro w61 hU61
            have hzw61 := hU61.size
            replace hs := hs.upd0 hU61
            replace HU := HU.trans0 hU61
            replace hO1 := hO1.upd0 hU61
            replace hO := hO.upd0 hU61
            replace HL2 := HL2.trans0 hU61
            replace hs44 := hs44.upd0 hU61
            replace hs56 := hs56.upd0 hU61
            replace hO59 := hO59.upd0 hU61
            refine Wa_one (i := 10) (listed' := #[true, true, true, true, true, true, true, true, true, true, true, false, false]) (by kernel_rfl) rfl (by kernel_rfl) ?_
            refine Ws_of_Wl ?_
            have hW : Upd No w60 w61 := hU61
            refine Wl_appendc (cs3 := rows encE (((os l).take k) ++ [(((tbl l).getD i (0, 0)).1, ((tbl l).getD i (0, 0)).2)])) (tot := k + 1) (by first | rfl | exact (rows_app _ _).symm | simp) Try.underlying24 (ti := Try.t38) (z := .agg #[.int .i64 0, .int .i64 0]) (sz := 2) (by' := 16) rfl rfl rfl rfl rfl (by decide) rfl hO rfl hs56.sl (rows_one encE_one _) (by omega) (by simp only [maxLen]; omega) (by omega) ?_
            intro a62 c62 w62 hU62 hzz62 hO62
            clear hO
            have hzw62 := hU62.size
            replace hs := hs.upd hU62 (by intro x h1 h2; have h3 : ((R x) ∧ x < w.heap.size) := h1; have h4 : ((x = gb) ∧ x < w2.heap.size) := h2; omega)
            replace HU := HU.trans hU62 (by intro x hx; have hx2 : ((x = gb) ∧ x < w2.heap.size) := hx; show (False) ∨ w.heap.size ≤ x; omega)
            replace hO1 := hO1.upd hU62 (by intro x h1 h2; have h3 : ((w.heap.size ≤ x) ∧ x < w1.heap.size) := h1; have h4 : ((x = gb) ∧ x < w2.heap.size) := h2; omega)
            replace HL2 := HL2.trans hU62 (by intro x hx; have hx2 : ((x = gb) ∧ x < w2.heap.size) := hx; show (w1.heap.size ≤ x) ∨ w1.heap.size ≤ x; omega)
            replace hs44 := hs44.upd hU62 (by intro x h1 h2; have h3 : x = B44 := h1; have h4 : ((x = gb) ∧ x < w2.heap.size) := h2; omega)
            replace hs56 := hs56.upd hU62 (by intro x h1 h2; have h3 : x = B56 := h1; have h4 : ((x = gb) ∧ x < w2.heap.size) := h2; omega)
            replace hO59 := hO59.upd hU62 (by intro x h1 h2; have h3 : ((((((x = ga) ∧ x < w2.heap.size)) ∨ x = w58.heap.size)) ∧ x < w59.heap.size) := h1; have h4 : ((x = gb) ∧ x < w2.heap.size) := h2; omega)
            replace hO62 := hO62.tight
            have hl_hO62 := rlen encE_len (by decide) hO62.sl
            have hc_hO62 := hO62.sl.cap.1
            refine Wl_nil ?_
            intro w63 hS63
            refine ⟨fun h => absurd h (by rw [show barOp _ 10 = true from by kernel_rfl]; simp), fun _ => ⟨Upd No w63, ?_⟩⟩
            have hU63 := hS63.upd
            have hzw63 := hU63.size
            replace hs := hs.upd0 hU63
            replace HU := HU.trans0 hU63
            replace hO1 := hO1.upd0 hU63
            replace HL2 := HL2.trans0 hU63
            replace hs44 := hs44.upd0 hU63
            replace hs56 := hs56.upd0 hU63
            replace hO59 := hO59.upd0 hU63
            replace hO62 := hO62.upd0 hU63
            try replace hW := hW.trans0 hU63
            refine Wt_base (Upd.refl _ _) ?_
            refine Wt_take (i := 11) (listed' := #[true, true, true, true, true, true, true, true, true, true, true, true, false]) (by kernel_rfl) rfl (by kernel_rfl) (by kernel_rfl) (by kernel_rfl) (by kernel_rfl) (YI_v (v := .slice a59 (k + 1) c59) rfl (fun w' hw' => r_as (v := .slice a59 (k + 1) c59) rfl)) ?_
            refine Wt_take (i := 12) (listed' := #[true, true, true, true, true, true, true, true, true, true, true, true, true]) (by kernel_rfl) rfl (by kernel_rfl) (by kernel_rfl) (by kernel_rfl) (by kernel_rfl) (YI_v (v := .slice a62 (k + 1) c62) rfl (fun w' hw' => r_as (v := .slice a62 (k + 1) c62) rfl)) ?_
            intro w64 hU64
            have hzw64 := hU64.size
            replace hs := hs.upd0 hU64
            replace HU := HU.trans0 hU64
            replace hO1 := hO1.upd0 hU64
            replace HL2 := HL2.trans0 hU64
            replace hs44 := hs44.upd0 hU64
            replace hs56 := hs56.upd0 hU64
            replace hO59 := hO59.upd0 hU64
            replace hO62 := hO62.upd0 hU64
            try replace hW := hW.trans0 hU64
            refine Wa_done (by kernel_rfl) ?_
            refine W_region ?_
            refine Wl_v (r_mv (v := .int .i64 ((i : Nat) : Int)) rfl) ?_
            refine Wl_v (r_add rfl rfl (wi64 (by omega) (by omega))) ?_
            refine Wl_v (r_as (v := .int .i64 (((i : Nat) : Int) + 1)) rfl) ?_
            refine Wl_nil ?_
            obtain ⟨ga2, hga2, hA2⟩ := hO59.one (by omega)
            obtain ⟨gb2, hgb2, hO2⟩ := hO62.one (by omega)
            replace hga2 : ((((((ga2 = ga) ∧ ga2 < w2.heap.size)) ∨ ga2 = w58.heap.size)) ∧ ga2 < w59.heap.size) := hga2
            replace hgb2 : ((((((gb2 = gb) ∧ gb2 < w2.heap.size)) ∨ gb2 = w61.heap.size)) ∧ gb2 < w62.heap.size) := hgb2
            refine ⟨_, ?_, (i + 1), (k + 1), a59, c59, a62, c62, ga2, gb2, rfl, rfl, ⟨rfl, (by first | rfl | exact vint (by omega) | exact vint (by simp)), (by first | rfl | exact vint (by omega) | exact vint (by simp)), (Eq.trans (b := .int .i64 (((i : Nat) : Int) + 1)) rfl (vint (by omega))), trivial⟩, (by omega), hnw.2.2.1, (by omega), (by rw [rps_s, ← hnw.2.1]; exact hA2), (by rw [os_step hnw.1, ← hnw.2.2.2, ← htg]; exact hO2), HL2⟩
            omega
        · refine Ws_of_Wl ?_
          have hW : Upd (fun g => w1.heap.size ≤ g) w41 w41 := (Upd.refl _ _)
          replace hW := hW.trans0 hU43
          refine Wl_lit (pv := [(0, .agg #[.int .i64 (((tbl l).getD i (0, 0)).1), .int .i64 (((tbl l).getD i (0, 0)).2)])]) (cs := [.int .i64 (((tbl l).getD i (0, 0)).1), .int .i64 (((tbl l).getD i (0, 0)).2)]) Try.underlying24 Try.sizeOf38 Try.zeroValue38 (by decide) (by decide) (by simp only [List.map_toArray, List.map_cons, List.map_nil] <;> rfl) (by kernel_rfl) rfl (by decide) ?_
          intro B65 w65 hB65 hU65 hzz65 hs65
          have hzw65 := hU65.size
          replace hs := hs.upd0 hU65
          replace HU := HU.trans0 hU65
          replace hO1 := hO1.upd0 hU65
          replace hA := hA.upd0 hU65
          replace hO := hO.upd0 hU65
          replace HL2 := HL2.trans0 hU65
          replace hW := hW.trans0 hU65
          replace hs65 : Own w65 (Is B65) 38 2 (.slice (some ⟨B65, 0, none⟩) 1 1) 1 (rows encE [(((tbl l).getD i (0, 0)).1, ((tbl l).getD i (0, 0)).2)]) := hs65
          refine Wl_nil ?_
          intro w66 hS66
          have hX66 : Upd _ w41 w66 := hW.trans0 hS66.upd
          refine ⟨fun _ => ⟨hX66, ?_⟩, fun h => absurd h (by rw [show barOp _ 9 = false from by kernel_rfl]; simp)⟩
          have hU66 := hS66.upd
          have hzw66 := hU66.size
          replace hs := hs.upd0 hU66
          replace HU := HU.trans0 hU66
          replace hO1 := hO1.upd0 hU66
          replace hA := hA.upd0 hU66
          replace hO := hO.upd0 hU66
          replace HL2 := HL2.trans0 hU66
          replace hs65 := hs65.upd0 hU66
          refine WtS_base ?_
          intro w67 hU67
          have hzw67 := hU67.size
          replace hs := hs.upd0 hU67
          replace HU := HU.trans0 hU67
          replace hO1 := hO1.upd0 hU67
          replace hA := hA.upd0 hU67
          replace hO := hO.upd0 hU67
          replace HL2 := HL2.trans0 hU67
          replace hs65 := hs65.upd0 hU67
          refine Wa_one (i := 2) (listed' := #[true, true, true, false, true, true, true, true, true, true, false, false, false]) (by kernel_rfl) rfl (by kernel_rfl) ?_
          refine Ws_of_Wl ?_
          have hW : Upd (fun g => w1.heap.size ≤ g) w41 w66 := hX66
          replace hW := hW.trans0 hU67
          refine Wl_lit (pv := [(0, .int .i64 ((i : Nat) : Int))]) (cs := [.int .i64 ((i : Nat) : Int)]) Try.underlying22 Try.sizeOf3 Try.zeroValue3 (by decide) (by decide) (by simp only [List.map_toArray, List.map_cons, List.map_nil] <;> rfl) (by kernel_rfl) rfl (by decide) ?_
          intro B68 w68 hB68 hU68 hzz68 hs68
          have hzw68 := hU68.size
          replace hs := hs.upd0 hU68
          replace HU := HU.trans0 hU68
          replace hO1 := hO1.upd0 hU68
          replace hA := hA.upd0 hU68
          replace hO := hO.upd0 hU68
          replace HL2 := HL2.trans0 hU68
          replace hs65 := hs65.upd0 hU68
          replace hW := hW.trans0 hU68
          replace hs68 : Own w68 (Is B68) 3 1 (.slice (some ⟨B68, 0, none⟩) 1 1) 1 (ints .i64 [((i : Nat) : Int)]) := hs68
          refine Wl_nil ?_
          intro w69 hS69
          have hX69 : Upd _ w41 w69 := hW.trans0 hS69.upd
          refine ⟨fun _ => ⟨hX69, ?_⟩, fun h => absurd h (by rw [show barOp _ 2 = false from by kernel_rfl]; simp)⟩
          have hU69 := hS69.upd
          have hzw69 := hU69.size
          replace hs := hs.upd0 hU69
          replace HU := HU.trans0 hU69
          replace hO1 := hO1.upd0 hU69
          replace hA := hA.upd0 hU69
          replace hO := hO.upd0 hU69
          replace HL2 := HL2.trans0 hU69
          replace hs65 := hs65.upd0 hU69
          replace hs68 := hs68.upd0 hU69
          refine WtS_base ?_
          intro w70 hU70
          have hzw70 := hU70.size
          replace hs := hs.upd0 hU70
          replace HU := HU.trans0 hU70
          replace hO1 := hO1.upd0 hU70
          replace hA := hA.upd0 hU70
          replace hO := hO.upd0 hU70
          replace HL2 := HL2.trans0 hU70
          replace hs65 := hs65.upd0 hU70
          replace hs68 := hs68.upd0 hU70
          refine Wa_one (i := 3) (listed' := #[true, true, true, true, true, true, true, true, true, true, false, false, false]) (by kernel_rfl) rfl (by kernel_rfl) ?_
          refine Ws_of_Wl ?_
          have hW : Upd (fun g => w1.heap.size ≤ g) w41 w69 := hX69
          replace hW := hW.trans0 hU70
          refine Wl_appendi (xs := rps l k) (ys := [((i : Nat) : Int)]) (zs := (rps l k) ++ [((i : Nat) : Int)]) (k' := .i64) (tot := k + 1) (by first | rfl | exact (rows_app _ _).symm | simp) Try.underlying22 (ti := Try.t3) (z := .int .i64 0) (sz := 1) (by' := 8) rfl rfl rfl rfl rfl (by decide) rfl hA rfl hs68.sl  (by omega) (by simp only [maxLen]; omega) (by omega) ?_
          intro a71 c71 w71 hU71 hzz71 hO71
          clear hA
          have hzw71 := hU71.size
          replace hs := hs.upd hU71 (by intro x h1 h2; have h3 : ((R x) ∧ x < w.heap.size) := h1; have h4 : ((x = ga) ∧ x < w2.heap.size) := h2; omega)
          replace HU := HU.trans hU71 (by intro x hx; have hx2 : ((x = ga) ∧ x < w2.heap.size) := hx; show (False) ∨ w.heap.size ≤ x; omega)
          replace hO1 := hO1.upd hU71 (by intro x h1 h2; have h3 : ((w.heap.size ≤ x) ∧ x < w1.heap.size) := h1; have h4 : ((x = ga) ∧ x < w2.heap.size) := h2; omega)
          replace hO := hO.upd hU71 (by intro x h1 h2; have h3 : ((x = gb) ∧ x < w2.heap.size) := h1; have h4 : ((x = ga) ∧ x < w2.heap.size) := h2; omega)
          replace HL2 := HL2.trans hU71 (by intro x hx; have hx2 : ((x = ga) ∧ x < w2.heap.size) := hx; show (w1.heap.size ≤ x) ∨ w1.heap.size ≤ x; omega)
          replace hs65 := hs65.upd hU71 (by intro x h1 h2; have h3 : x = B65 := h1; have h4 : ((x = ga) ∧ x < w2.heap.size) := h2; omega)
          replace hs68 := hs68.upd hU71 (by intro x h1 h2; have h3 : x = B68 := h1; have h4 : ((x = ga) ∧ x < w2.heap.size) := h2; omega)
          replace hW := hW.trans hU71 (by intro x hx; have hx2 : ((x = ga) ∧ x < w2.heap.size) := hx; show (w1.heap.size ≤ x) ∨ w41.heap.size ≤ x; omega)
          replace hO71 := hO71.tight
          have hl_hO71 := ilen hO71.sl
          have hc_hO71 := hO71.sl.cap.1
          refine Wl_nil ?_
          intro w72 hS72
          have hX72 : Upd _ w41 w72 := hW.trans0 hS72.upd
          refine ⟨fun _ => ⟨hX72, ?_⟩, fun h => absurd h (by rw [show barOp _ 3 = false from by kernel_rfl]; simp)⟩
          have hU72 := hS72.upd
          have hzw72 := hU72.size
          replace hs := hs.upd0 hU72
          replace HU := HU.trans0 hU72
          replace hO1 := hO1.upd0 hU72
          replace hO := hO.upd0 hU72
          replace HL2 := HL2.trans0 hU72
          replace hs65 := hs65.upd0 hU72
          replace hs68 := hs68.upd0 hU72
          replace hO71 := hO71.upd0 hU72
          refine WtS_base ?_
          intro w73 hU73
          have hzw73 := hU73.size
          replace hs := hs.upd0 hU73
          replace HU := HU.trans0 hU73
          replace hO1 := hO1.upd0 hU73
          replace hO := hO.upd0 hU73
          replace HL2 := HL2.trans0 hU73
          replace hs65 := hs65.upd0 hU73
          replace hs68 := hs68.upd0 hU73
          replace hO71 := hO71.upd0 hU73
          refine Wa_one (i := 10) (listed' := #[true, true, true, true, true, true, true, true, true, true, true, false, false]) (by kernel_rfl) rfl (by kernel_rfl) ?_
          refine Ws_of_Wl ?_
          have hW : Upd No w72 w73 := hU73
          refine Wl_appendc (cs3 := rows encE (((os l).take k) ++ [(((tbl l).getD i (0, 0)).1, ((tbl l).getD i (0, 0)).2)])) (tot := k + 1) (by first | rfl | exact (rows_app _ _).symm | simp) Try.underlying24 (ti := Try.t38) (z := .agg #[.int .i64 0, .int .i64 0]) (sz := 2) (by' := 16) rfl rfl rfl rfl rfl (by decide) rfl hO rfl hs65.sl (rows_one encE_one _) (by omega) (by simp only [maxLen]; omega) (by omega) ?_
          intro a74 c74 w74 hU74 hzz74 hO74
          clear hO
          have hzw74 := hU74.size
          replace hs := hs.upd hU74 (by intro x h1 h2; have h3 : ((R x) ∧ x < w.heap.size) := h1; have h4 : ((x = gb) ∧ x < w2.heap.size) := h2; omega)
          replace HU := HU.trans hU74 (by intro x hx; have hx2 : ((x = gb) ∧ x < w2.heap.size) := hx; show (False) ∨ w.heap.size ≤ x; omega)
          replace hO1 := hO1.upd hU74 (by intro x h1 h2; have h3 : ((w.heap.size ≤ x) ∧ x < w1.heap.size) := h1; have h4 : ((x = gb) ∧ x < w2.heap.size) := h2; omega)
          replace HL2 := HL2.trans hU74 (by intro x hx; have hx2 : ((x = gb) ∧ x < w2.heap.size) := hx; show (w1.heap.size ≤ x) ∨ w1.heap.size ≤ x; omega)
          replace hs65 := hs65.upd hU74 (by intro x h1 h2; have h3 : x = B65 := h1; have h4 : ((x = gb) ∧ x < w2.heap.size) := h2; omega)
          replace hs68 := hs68.upd hU74 (by intro x h1 h2; have h3 : x = B68 := h1; have h4 : ((x = gb) ∧ x < w2.heap.size) := h2; omega)
          replace hO71 := hO71.upd hU74 (by intro x h1 h2; have h3 : ((((((x = ga) ∧ x < w2.heap.size)) ∨ x = w70.heap.size)) ∧ x < w71.heap.size) := h1; have h4 : ((x = gb) ∧ x < w2.heap.size) := h2; omega)
          replace hO74 := hO74.tight
          have hl_hO74 := rlen encE_len (by decide) hO74.sl
          have hc_hO74 := hO74.sl.cap.1
          refine Wl_nil ?_
          intro w75 hS75
          refine ⟨fun h => absurd h (by rw [show barOp _ 10 = true from by kernel_rfl]; simp), fun _ => ⟨Upd No w75, ?_⟩⟩
          have hU75 := hS75.upd
          have hzw75 := hU75.size
          replace hs := hs.upd0 hU75
          replace HU := HU.trans0 hU75
          replace hO1 := hO1.upd0 hU75
          replace HL2 := HL2.trans0 hU75
          replace hs65 := hs65.upd0 hU75
          replace hs68 := hs68.upd0 hU75
          replace hO71 := hO71.upd0 hU75
          replace hO74 := hO74.upd0 hU75
          try replace hW := hW.trans0 hU75
          refine Wt_base (Upd.refl _ _) ?_
          refine Wt_take (i := 11) (listed' := #[true, true, true, true, true, true, true, true, true, true, true, true, false]) (by kernel_rfl) rfl (by kernel_rfl) (by kernel_rfl) (by kernel_rfl) (by kernel_rfl) (YI_v (v := .slice a71 (k + 1) c71) rfl (fun w' hw' => r_as (v := .slice a71 (k + 1) c71) rfl)) ?_
          refine Wt_take (i := 12) (listed' := #[true, true, true, true, true, true, true, true, true, true, true, true, true]) (by kernel_rfl) rfl (by kernel_rfl) (by kernel_rfl) (by kernel_rfl) (by kernel_rfl) (YI_v (v := .slice a74 (k + 1) c74) rfl (fun w' hw' => r_as (v := .slice a74 (k + 1) c74) rfl)) ?_
          intro w76 hU76
          have hzw76 := hU76.size
          replace hs := hs.upd0 hU76
          replace HU := HU.trans0 hU76
          replace hO1 := hO1.upd0 hU76
          replace HL2 := HL2.trans0 hU76
          replace hs65 := hs65.upd0 hU76
          replace hs68 := hs68.upd0 hU76
          replace hO71 := hO71.upd0 hU76
          replace hO74 := hO74.upd0 hU76
          try replace hW := hW.trans0 hU76
          refine Wa_done (by kernel_rfl) ?_
          refine W_region ?_
          refine Wl_v (r_mv (v := .int .i64 ((i : Nat) : Int)) rfl) ?_
          refine Wl_v (r_add rfl rfl (wi64 (by omega) (by omega))) ?_
          refine Wl_v (r_as (v := .int .i64 (((i : Nat) : Int) + 1)) rfl) ?_
          refine Wl_nil ?_
          obtain ⟨ga2, hga2, hA2⟩ := hO71.one (by omega)
          obtain ⟨gb2, hgb2, hO2⟩ := hO74.one (by omega)
          replace hga2 : ((((((ga2 = ga) ∧ ga2 < w2.heap.size)) ∨ ga2 = w70.heap.size)) ∧ ga2 < w71.heap.size) := hga2
          replace hgb2 : ((((((gb2 = gb) ∧ gb2 < w2.heap.size)) ∨ gb2 = w73.heap.size)) ∧ gb2 < w74.heap.size) := hgb2
          refine ⟨_, ?_, (i + 1), (k + 1), a71, c71, a74, c74, ga2, gb2, rfl, rfl, ⟨rfl, (by first | rfl | exact vint (by omega) | exact vint (by simp)), (by first | rfl | exact vint (by omega) | exact vint (by simp)), (Eq.trans (b := .int .i64 (((i : Nat) : Int) + 1)) rfl (vint (by omega))), trivial⟩, (by omega), hnw.2.2.1, (by omega), (by rw [rps_s, ← hnw.2.1]; exact hA2), (by rw [os_step hnw.1, ← hnw.2.2.2, ← htg]; exact hO2), HL2⟩
          omega
  · obtain rfl : i = 2 ^ bt l := by omega
    have hkf := Rn.fin hr hRn
    rw [decide_eq_false q1]
    refine W_cond_f rfl ?_
    refine W_exit ?_
    refine W_seq ?_
    refine W_region ?_
    refine Wl_v (r_mv (v := .slice a2 k c2) rfl) ?_
    refine Wl_v (r_mv (v := .slice a3 k c3) rfl) ?_
    refine Wl_v (r_as (v := .slice a2 k c2) rfl) ?_
    refine Wl_v (r_as (v := .slice a3 k c3) rfl) ?_
    refine Wl_nil ?_
    refine W_ret ?_
    refine ret_end (v := .tuple #[.slice a2 k c2, .slice a3 k c3]) rfl (res2 Try.results26 rfl rfl) ?_
    exact ⟨_, rfl, a2, c2, a3, c3, (by rw [hkf]), (by rw [hkf] at hA; exact hA.weak (by intro g hg; have h3 : g = ga := hg; show w.heap.size ≤ g; omega)), (by rw [hkf, List.take_of_length_le (by rw [os_len]; exact Nat.le_refl _)] at hO; exact hO.weak (by intro g hg; have h3 : g = gb := hg; show w.heap.size ≤ g; omega)), HU⟩

set_option maxRecDepth 100000 in
theorem rruns_f {a : Option Addr} {n c : Nat} {l : List Int} {R : Nat → Prop} (w : World) (hs : Sl w R 1 (.slice a n c) n (ints .i64 l)) (hn : n ≤ 17592186044415) (hr : ¬ Rt l) :
    Calls Try.prog 26 #[.slice a n c] w (Ret fun v w' => v = .tuple #[.slice none 0 0, .slice none 0 0] ∧ Upd No w w') := by
  have HU : Upd (fun b => False) w w := Upd.refl _ _
  have hl_hs := ilen hs
  have hc_hs := hs.cap.1
  replace hs := hs.tight
  refine calls_of_W Try.func26 rfl Try.ntmps26 (by simp) ?_
  refine W_seq ?_
  refine W_region ?_
  refine Wl_v (r_as (v := .slice none 0 0) rfl) ?_
  refine Wl_v (r_as (v := .slice none 0 0) rfl) ?_
  refine Wl_nil ?_
  refine W_seq ?_
  refine W_region ?_
  refine Wl_v (r_mv (v := .slice a n c) rfl) ?_
  refine Wl_call (r_call1 rfl Try.call13 rfl) (of_f _ hs (by omega) (by omega)) ?_
  rintro v w1 ⟨rfl, hU1⟩
  have hzw1 := hU1.size
  replace hs := hs.upd0 hU1
  replace HU := HU.trans0 hU1
  refine Wl_v (r_mv (v := .tuple #[.slice none 0 0, .int .i64 12]) rfl) ?_
  refine Wl_v (r_ext (v := .slice none 0 0) rfl rfl) ?_
  refine Wl_v (r_ext (v := .int .i64 12) rfl rfl) ?_
  refine Wl_v (r_as (v := .slice none 0 0) rfl) ?_
  refine Wl_v (r_as (v := .int .i64 12) rfl) ?_
  refine Wl_nil ?_
  refine W_seq ?_
  refine W_region ?_
  refine Wl_v (r_as (v := .slice none 0 0) rfl) ?_
  refine Wl_nil ?_
  refine W_seq ?_
  refine W_region ?_
  refine Wl_v (r_as (v := .slice none 0 0) rfl) ?_
  refine Wl_nil ?_
  refine W_seq ?_
  refine W_seq ?_
  refine W_region ?_
  refine Wl_v (r_as (v := .int .i64 0) rfl) ?_
  refine Wl_nil ?_
  refine W_block ?_
  refine W_loop (fun mu ρ ds w' => 0 = mu ∧ ds = [] ∧ Liv ρ [(4, .slice none 0 0), (6, .slice none 0 0), (7, .slice none 0 0), (8, .int .i64 0)] ∧ Upd No w1 w') _ ⟨rfl, rfl, ⟨rfl, (by first | rfl | exact vint (by omega) | exact vint (by simp)), (by first | rfl | exact vint (by omega) | exact vint (by simp)), (by first | rfl | exact vint (by omega) | exact vint (by simp)), trivial⟩, Upd.refl _ _⟩ ?_
  rintro m2 ρ2 ds2 w2 ⟨rfl, rfl, hl2, hU2⟩
  obtain ⟨ρ2x, rfl⟩ : ∃ ρx, ρ2 = upds ρx [(4, .slice none 0 0), (6, .slice none 0 0), (7, .slice none 0 0), (8, .int .i64 0)] := ⟨_, upds_self hl2⟩
  clear hl2
  have hzw2 := hU2.size
  replace hs := hs.upd0 hU2
  replace HU := HU.trans0 hU2
  have HL2 := hU2
  refine W_seq ?_
  refine W_seq ?_
  refine W_region ?_
  refine Wl_v (r_mv (v := .int .i64 0) rfl) ?_
  refine Wl_v (r_mv (v := .slice none 0 0) rfl) ?_
  refine Wl_v (r_len Try.underlying24 rfl) ?_
  refine Wl_v (v := .bool false) (r_lt (a := 0) (b := 0) rfl rfl) ?_
  refine Wl_nil ?_
  refine W_cond_f rfl ?_
  refine W_exit ?_
  refine W_seq ?_
  refine W_region ?_
  refine Wl_v (r_mv (v := .slice none 0 0) rfl) ?_
  refine Wl_v (r_mv (v := .slice none 0 0) rfl) ?_
  refine Wl_v (r_as (v := .slice none 0 0) rfl) ?_
  refine Wl_v (r_as (v := .slice none 0 0) rfl) ?_
  refine Wl_nil ?_
  refine W_ret ?_
  refine ret_end (v := .tuple #[.slice none 0 0, .slice none 0 0]) rfl (res2 Try.results26 rfl rfl) ?_
  exact ⟨_, rfl, rfl, HU⟩

end Go.Proofs.Ytkgjdcjpnfjofaa
