/-
  Walks, printed by a small program of this project (gen.py).
-/
import Derived.Test.YtkgjdcjpnfjofaaYd
set_option linter.unusedVariables false
set_option linter.unusedSimpArgs false
namespace Go.Proofs.Ytkgjdcjpnfjofaa
open Go.Fw

def tlk (l : List Int) : Nat → Nat
  | 0 => 0
  | k + 1 => if l.getD k 0 = 0 then tlk l k else k + 1
def tl (l : List Int) : Nat := tlk l l.length
def trm (l : List Int) : List Int := l.take (tl l)
theorem tlk_le (l : List Int) : ∀ k, tlk l k ≤ k
  | 0 => Nat.le_refl _
  | k + 1 => by have := tlk_le l k; simp only [tlk]; split <;> omega
theorem tl_le (l : List Int) : tl l ≤ l.length := tlk_le l _
theorem tlk_z {l : List Int} {k : Nat} (h : 0 < k) (h0 : l.getD (k - 1) 0 = 0) : tlk l k = tlk l (k - 1) := by
  obtain ⟨j, rfl⟩ : ∃ j, k = j + 1 := ⟨k - 1, by omega⟩
  rw [tlk, if_pos (by simpa using h0)]; rfl
theorem tlk_n {l : List Int} {k : Nat} (h : 0 < k) (h0 : ¬ l.getD (k - 1) 0 = 0) : tlk l k = k := by
  obtain ⟨j, rfl⟩ : ∃ j, k = j + 1 := ⟨k - 1, by omega⟩
  rw [tlk, if_neg (by simpa using h0)]
theorem tk_tk {l : List Int} {k : Nat} : (l.take k).take (k - 1) = l.take (k - 1) := by rw [List.take_take, Nat.min_eq_left (by omega)]
theorem tk_gd {l : List Int} {k i : Nat} (h : i < k) : (l.take k).getD i 0 = l.getD i 0 := by simp [List.getD_eq_getElem?_getD, h]
/-- where the k-th run begins -/
def rp (l : List Int) (k : Nat) : Nat := (fl (bt l) ((os l).take k)).length
theorem rp_zero (l : List Int) : rp l 0 = 0 := by simp [rp, fl]
theorem rp_succ {l : List Int} (hr : Rt l) {k : Nat} (hk : k < (ord l).length) : rp l (k + 1) = rp l k + 2 ^ ((bt l : Int) - ((os l).getD k (0, 0)).2).toNat := by
  have h := fl_take (nb := (bt l : Int)) (xs := os l) (k := k) (by rw [os_len]; exact hk)
  unfold rp
  rw [h, List.length_append, List.length_replicate]
theorem rp_all {l : List Int} (hr : Rt l) : rp l (ord l).length = 2 ^ bt l := by
  have := congrArg List.length (fl_tbl hr)
  rw [tbl_len] at this
  unfold rp
  rw [List.take_of_length_le (by rw [os_len]; omega)]
  exact this
theorem rp_mono {l : List Int} (hr : Rt l) : ∀ {a b : Nat}, a ≤ b → b ≤ (ord l).length → rp l a ≤ rp l b := by
  intro a b h
  induction h with
  | refl => intro _; exact Nat.le_refl _
  | step h ih => intro hb; rw [rp_succ hr (by omega)]; exact Nat.le_trans (ih (by omega)) (Nat.le_add_right _ _)
theorem rp_lt {l : List Int} (hr : Rt l) {k : Nat} (hk : k < (ord l).length) : rp l k < 2 ^ bt l := by
  have h1 := rp_succ hr hk
  have h2 := rp_mono hr (a := k + 1) (b := (ord l).length) (by omega) (Nat.le_refl _)
  have h3 : 0 < 2 ^ ((bt l : Int) - ((os l).getD k (0, 0)).2).toNat := Nat.pow_pos (by decide)
  rw [rp_all hr] at h2
  omega
theorem rp_ent {l : List Int} (hr : Rt l) {k i : Nat} (hk : k < (ord l).length) (h1 : rp l k ≤ i) (h2 : i < rp l (k + 1)) : ent l i = (os l).getD k (0, 0) := by
  have hf := fl_take (nb := (bt l : Int)) (xs := os l) (k := k) (by rw [os_len]; exact hk)
  have hp := (fl_pos hr (k + 1) (by omega)).2
  have e1 : (fl (bt l) ((os l).take (k + 1))).getD i (0, 0) = ent l i := by
    rw [hp]; exact tabn_get _ _ h2
  rw [← e1, hf, List.getD_eq_getElem?_getD, List.getElem?_append_right h1, List.getElem?_replicate, if_pos]
  · rfl
  · have := rp_succ hr hk; unfold rp at h1 h2 this; unfold rp at *; omega
theorem os_at2 {l : List Int} (hr : Rt l) {k : Nat} (hk : k < (ord l).length) : ent l (rp l k) = (os l).getD k (0, 0) := by
  refine rp_ent hr hk (Nat.le_refl _) ?_
  have h1 := rp_succ hr hk
  have h3 : 0 < 2 ^ ((bt l : Int) - ((os l).getD k (0, 0)).2).toNat := Nat.pow_pos (by decide)
  omega

set_option maxRecDepth 100000 in
theorem iequal {a b : Option Addr} {n c m e : Nat} {x y : List Int} {R T : Nat → Prop} (w : World) (hx : Sl w R 1 (.slice a n c) n (ints .i64 x)) (hy : Sl w T 1 (.slice b m e) m (ints .i64 y)) (hn : n ≤ 17592186044415) :
    Calls Try.prog 41 #[.slice a n c, .slice b m e] w (Ret fun v w' => v = .bool (decide (x = y)) ∧ Upd No w w') := by
  have HU : Upd (fun b => False) w w := Upd.refl _ _
  have hl_hx := ilen hx
  have hc_hx := hx.cap.1
  replace hx := hx.tight
  have hl_hy := ilen hy
  have hc_hy := hy.cap.1
  replace hy := hy.tight
  refine calls_of_W Try.func41 rfl Try.ntmps41 (by simp) ?_
  refine W_seq ?_
  refine W_region ?_
  refine Wl_v (r_as (v := .bool false) rfl) ?_
  refine Wl_nil ?_
  refine W_seq ?_
  refine W_seq ?_
  refine W_region ?_
  refine Wl_v (r_mv (v := .slice a n c) rfl) ?_
  refine Wl_v (r_len Try.underlying22 rfl) ?_
  refine Wl_v (r_mv (v := .slice b m e) rfl) ?_
  refine Wl_v (r_len Try.underlying22 rfl) ?_
  refine Wl_v (r_ne rfl rfl) ?_
  refine Wl_nil ?_
  by_cases q1 : ((n : Nat) : Int) ≠ ((m : Nat) : Int)
  · rw [decide_eq_true q1]
    refine W_cond_t rfl ?_
    refine W_seq ?_
    refine W_region ?_
    refine Wl_v (r_as (v := .bool false) rfl) ?_
    refine Wl_nil ?_
    refine W_ret ?_
    refine ret_end (v := .bool false) rfl (res1 Try.results41 rfl) ?_
    exact ⟨_, rfl, (vboolf (leq_len (by omega))), HU⟩
  · rw [decide_eq_false q1]
    refine W_cond_f rfl ?_
    refine W_skip ?_
    refine W_seq ?_
    refine W_seq ?_
    refine W_region ?_
    refine Wl_v (r_mv (v := .slice a n c) rfl) ?_
    refine Wl_v (r_len Try.underlying22 rfl) ?_
    refine Wl_v (r_mv (v := .int .i64 0) rfl) ?_
    refine Wl_nil ?_
    refine W_block ?_
    refine W_loop (fun mu ρ ds w' => ∃ (k : Nat), n - k = mu ∧ ds = [] ∧ Liv ρ [(0, .slice a n c), (1, .slice b m e), (12, .int .i64 ((n : Nat) : Int)), (13, .int .i64 ((k : Nat) : Int))] ∧ k ≤ n ∧ x.take k = y.take k ∧ Upd No w w') _ ⟨0, rfl, rfl, ⟨rfl, rfl, rfl, (by first | rfl | exact vint (by omega) | exact vint (by simp)), trivial⟩, (by omega), (by simp), Upd.refl _ _⟩ ?_
    rintro m1 ρ1 ds1 w1 ⟨k, rfl, rfl, hl1, hk, htk, hU1⟩
    obtain ⟨ρ1x, rfl⟩ : ∃ ρx, ρ1 = upds ρx [(0, .slice a n c), (1, .slice b m e), (12, .int .i64 ((n : Nat) : Int)), (13, .int .i64 ((k : Nat) : Int))] := ⟨_, upds_self hl1⟩
    clear hl1
    have hzw1 := hU1.size
    replace hx := hx.upd0 hU1
    replace hy := hy.upd0 hU1
    replace HU := HU.trans0 hU1
    have HL1 := hU1
    refine W_seq ?_
    refine W_region ?_
    refine Wl_v (r_lt rfl rfl) ?_
    refine Wl_nil ?_
    refine W_seq ?_
    by_cases q2 : ((k : Nat) : Int) < ((n : Nat) : Int)
    · rw [decide_eq_true q2]
      refine W_cond_t rfl ?_
      refine W_skip ?_
      refine W_seq ?_
      refine W_block ?_
      refine W_seq ?_
      refine W_region ?_
      refine Wl_v (r_mv (v := .int .i64 ((k : Nat) : Int)) rfl) ?_
      refine Wl_v (r_as (v := .int .i64 ((k : Nat) : Int)) rfl) ?_
      refine Wl_nil ?_
      refine W_seq ?_
      refine W_drawt rfl (l0 := #[false, false, false, false, false, false, false, false, false]) (by kernel_rfl) ?_
      refine Wt_take (i := 0) (listed' := #[true, false, false, false, false, false, false, false, false]) (by kernel_rfl) rfl (by kernel_rfl) (by kernel_rfl) (by kernel_rfl) (by kernel_rfl) (YI_v (v := .slice a n c) rfl (fun w' hw' => r_mv (v := .slice a n c) rfl)) ?_
      refine Wt_take (i := 1) (listed' := #[true, true, false, false, false, false, false, false, false]) (by kernel_rfl) rfl (by kernel_rfl) (by kernel_rfl) (by kernel_rfl) (by kernel_rfl) (YI_v (v := .int .i64 ((k : Nat) : Int)) rfl (fun w' hw' => r_mv (v := .int .i64 ((k : Nat) : Int)) rfl)) ?_
      obtain ⟨ib2, io2, ha2, hib2, hc2⟩ := (hx).iat (i := k) (by omega)
      replace hib2 : ((R ib2) ∧ ib2 < w.heap.size) := hib2
      refine Wt_take (i := 2) (listed' := #[true, true, true, false, false, false, false, false, false]) (by kernel_rfl) rfl (by kernel_rfl) (by kernel_rfl) (by kernel_rfl) (by kernel_rfl) (YI_v (v := .pointer (some ⟨ib2, io2 + k, none⟩)) rfl (fun w' hw' => r_idx (b := ib2) (off := io2) (m := n) (c := c) (o' := io2 + k) Try.underlying22 Try.sizeOf3 (by rw [← ha2]; rfl) rfl (by omega) (by omega) (by omega))) ?_
      refine Wt_take (i := 3) (listed' := #[true, true, true, true, false, false, false, false, false]) (by kernel_rfl) rfl (by kernel_rfl) (by kernel_rfl) (by kernel_rfl) (by kernel_rfl) (YI_v (v := .int .i64 (x.getD k 0)) rfl (fun w' hw' => r_load Try.isAgg3 rfl (hw'.cellk hc2))) ?_
      refine Wt_take (i := 4) (listed' := #[true, true, true, true, true, false, false, false, false]) (by kernel_rfl) rfl (by kernel_rfl) (by kernel_rfl) (by kernel_rfl) (by kernel_rfl) (YI_v (v := .slice b m e) rfl (fun w' hw' => r_mv (v := .slice b m e) rfl)) ?_
      refine Wt_take (i := 5) (listed' := #[true, true, true, true, true, true, false, false, false]) (by kernel_rfl) rfl (by kernel_rfl) (by kernel_rfl) (by kernel_rfl) (by kernel_rfl) (YI_v (v := .int .i64 ((k : Nat) : Int)) rfl (fun w' hw' => r_mv (v := .int .i64 ((k : Nat) : Int)) rfl)) ?_
      obtain ⟨ib3, io3, ha3, hib3, hc3⟩ := (hy).iat (i := k) (by omega)
      replace hib3 : ((T ib3) ∧ ib3 < w.heap.size) := hib3
      refine Wt_take (i := 6) (listed' := #[true, true, true, true, true, true, true, false, false]) (by kernel_rfl) rfl (by kernel_rfl) (by kernel_rfl) (by kernel_rfl) (by kernel_rfl) (YI_v (v := .pointer (some ⟨ib3, io3 + k, none⟩)) rfl (fun w' hw' => r_idx (b := ib3) (off := io3) (m := m) (c := e) (o' := io3 + k) Try.underlying22 Try.sizeOf3 (by rw [← ha3]; rfl) rfl (by omega) (by omega) (by omega))) ?_
      refine Wt_take (i := 7) (listed' := #[true, true, true, true, true, true, true, true, false]) (by kernel_rfl) rfl (by kernel_rfl) (by kernel_rfl) (by kernel_rfl) (by kernel_rfl) (YI_v (v := .int .i64 (y.getD k 0)) rfl (fun w' hw' => r_load Try.isAgg3 rfl (hw'.cellk hc3))) ?_
      refine Wt_take (i := 8) (listed' := #[true, true, true, true, true, true, true, true, true]) (by kernel_rfl) rfl (by kernel_rfl) (by kernel_rfl) (by kernel_rfl) (by kernel_rfl) (YI_v (v := .bool (decide ((x.getD k 0) ≠ (y.getD k 0)))) rfl (fun w' hw' => r_ne rfl rfl)) ?_
      intro w4 hU4
      have hzw4 := hU4.size
      replace hx := hx.upd0 hU4
      replace hy := hy.upd0 hU4
      replace HU := HU.trans0 hU4
      replace HL1 := HL1.trans0 hU4
      replace hc2 := cell_upd0 hU4 hc2
      replace hc3 := cell_upd0 hU4 hc3
      refine Wa_done (by kernel_rfl) ?_
      by_cases q3 : (x.getD k 0) ≠ (y.getD k 0)
      · rw [decide_eq_true q3]
        refine W_cond_t rfl ?_
        refine W_seq ?_
        refine W_region ?_
        refine Wl_v (r_as (v := .bool false) rfl) ?_
        refine Wl_nil ?_
        refine W_ret ?_
        refine ret_end (v := .bool false) rfl (res1 Try.results41 rfl) ?_
        exact ⟨_, rfl, (vboolf (leq_ne 0 q3)), HU⟩
      · rw [decide_eq_false q3]
        refine W_cond_f rfl ?_
        refine W_skip ?_
        refine W_region ?_
        refine Wl_v (r_add rfl rfl (wi64 (by omega) (by omega))) ?_
        refine Wl_v (r_mv (v := .int .i64 (((k : Nat) : Int) + 1)) rfl) ?_
        refine Wl_nil ?_
        refine ⟨_, ?_, (k + 1), rfl, rfl, ⟨rfl, rfl, rfl, (by first | rfl | exact vint (by omega) | exact vint (by simp)), trivial⟩, (by omega), (leq_step 0 htk (by omega) (by omega) (Classical.not_not.1 q3)), HL1⟩
        omega
    · rw [decide_eq_false q2]
      refine W_cond_f rfl ?_
      refine W_exit ?_
      refine W_seq ?_
      refine W_region ?_
      refine Wl_v (r_as (v := .bool true) rfl) ?_
      refine Wl_nil ?_
      refine W_ret ?_
      refine ret_end (v := .bool true) rfl (res1 Try.results41 rfl) ?_
      exact ⟨_, rfl, (vboolt (leq_end htk (by omega) (by omega))), HU⟩

set_option maxRecDepth 100000 in
theorem same15 {a b : Option Addr} {n c m e : Nat} {x y : List Int} {R T : Nat → Prop} (w : World) (hx : Sl w R 1 (.slice a n c) n (ints .i64 x)) (hy : Sl w T 1 (.slice b m e) m (ints .i64 y)) (hn : n ≤ 17592186044415) :
    Calls Try.prog 16 #[.slice a n c, .slice b m e] w (Ret fun v w' => v = .bool (decide (x = y)) ∧ Upd No w w') := by
  have HU : Upd (fun b => False) w w := Upd.refl _ _
  have hl_hx := ilen hx
  have hc_hx := hx.cap.1
  replace hx := hx.tight
  have hl_hy := ilen hy
  have hc_hy := hy.cap.1
  replace hy := hy.tight
  refine calls_of_W Try.func16 rfl Try.ntmps16 (by simp) ?_
  refine W_seq ?_
  refine W_region ?_
  refine Wl_v (r_as (v := .bool false) rfl) ?_
  refine Wl_nil ?_
  refine W_seq ?_
  refine W_seq ?_
  refine W_region ?_
  refine Wl_v (r_mv (v := .slice a n c) rfl) ?_
  refine Wl_v (r_len Try.underlying22 rfl) ?_
  refine Wl_v (r_mv (v := .slice b m e) rfl) ?_
  refine Wl_v (r_len Try.underlying22 rfl) ?_
  refine Wl_v (r_ne rfl rfl) ?_
  refine Wl_nil ?_
  by_cases q1 : ((n : Nat) : Int) ≠ ((m : Nat) : Int)
  · rw [decide_eq_true q1]
    refine W_cond_t rfl ?_
    refine W_seq ?_
    refine W_region ?_
    refine Wl_v (r_as (v := .bool false) rfl) ?_
    refine Wl_nil ?_
    refine W_ret ?_
    refine ret_end (v := .bool false) rfl (res1 Try.results16 rfl) ?_
    exact ⟨_, rfl, (vboolf (leq_len (by omega))), HU⟩
  · rw [decide_eq_false q1]
    refine W_cond_f rfl ?_
    refine W_skip ?_
    refine W_seq ?_
    refine W_seq ?_
    refine W_region ?_
    refine Wl_v (r_as (v := .int .i64 0) rfl) ?_
    refine Wl_nil ?_
    refine W_block ?_
    refine W_loop (fun mu ρ ds w' => ∃ (k : Nat), n - k = mu ∧ ds = [] ∧ Liv ρ [(0, .slice a n c), (1, .slice b m e), (5, .int .i64 ((k : Nat) : Int))] ∧ k ≤ n ∧ x.take k = y.take k ∧ Upd No w w') _ ⟨0, rfl, rfl, ⟨rfl, rfl, (by first | rfl | exact vint (by omega) | exact vint (by simp)), trivial⟩, (by omega), (by simp), Upd.refl _ _⟩ ?_
    rintro m1 ρ1 ds1 w1 ⟨k, rfl, rfl, hl1, hk, htk, hU1⟩
    obtain ⟨ρ1x, rfl⟩ : ∃ ρx, ρ1 = upds ρx [(0, .slice a n c), (1, .slice b m e), (5, .int .i64 ((k : Nat) : Int))] := ⟨_, upds_self hl1⟩
    clear hl1
    have hzw1 := hU1.size
    replace hx := hx.upd0 hU1
    replace hy := hy.upd0 hU1
    replace HU := HU.trans0 hU1
    have HL1 := hU1
    refine W_seq ?_
    refine W_seq ?_
    refine W_region ?_
    refine Wl_v (r_mv (v := .int .i64 ((k : Nat) : Int)) rfl) ?_
    refine Wl_v (r_mv (v := .slice a n c) rfl) ?_
    refine Wl_v (r_len Try.underlying22 rfl) ?_
    refine Wl_v (r_lt rfl rfl) ?_
    refine Wl_nil ?_
    by_cases q2 : ((k : Nat) : Int) < ((n : Nat) : Int)
    · rw [decide_eq_true q2]
      refine W_cond_t rfl ?_
      refine W_skip ?_
      refine W_seq ?_
      refine W_block ?_
      refine W_seq ?_
      refine W_drawt rfl (l0 := #[false, false, false, false, false, false, false, false, false]) (by kernel_rfl) ?_
      refine Wt_take (i := 0) (listed' := #[true, false, false, false, false, false, false, false, false]) (by kernel_rfl) rfl (by kernel_rfl) (by kernel_rfl) (by kernel_rfl) (by kernel_rfl) (YI_v (v := .slice a n c) rfl (fun w' hw' => r_mv (v := .slice a n c) rfl)) ?_
      refine Wt_take (i := 1) (listed' := #[true, true, false, false, false, false, false, false, false]) (by kernel_rfl) rfl (by kernel_rfl) (by kernel_rfl) (by kernel_rfl) (by kernel_rfl) (YI_v (v := .int .i64 ((k : Nat) : Int)) rfl (fun w' hw' => r_mv (v := .int .i64 ((k : Nat) : Int)) rfl)) ?_
      obtain ⟨ib2, io2, ha2, hib2, hc2⟩ := (hx).iat (i := k) (by omega)
      replace hib2 : ((R ib2) ∧ ib2 < w.heap.size) := hib2
      refine Wt_take (i := 2) (listed' := #[true, true, true, false, false, false, false, false, false]) (by kernel_rfl) rfl (by kernel_rfl) (by kernel_rfl) (by kernel_rfl) (by kernel_rfl) (YI_v (v := .pointer (some ⟨ib2, io2 + k, none⟩)) rfl (fun w' hw' => r_idx (b := ib2) (off := io2) (m := n) (c := c) (o' := io2 + k) Try.underlying22 Try.sizeOf3 (by rw [← ha2]; rfl) rfl (by omega) (by omega) (by omega))) ?_
      refine Wt_take (i := 3) (listed' := #[true, true, true, true, false, false, false, false, false]) (by kernel_rfl) rfl (by kernel_rfl) (by kernel_rfl) (by kernel_rfl) (by kernel_rfl) (YI_v (v := .int .i64 (x.getD k 0)) rfl (fun w' hw' => r_load Try.isAgg3 rfl (hw'.cellk hc2))) ?_
      refine Wt_take (i := 4) (listed' := #[true, true, true, true, true, false, false, false, false]) (by kernel_rfl) rfl (by kernel_rfl) (by kernel_rfl) (by kernel_rfl) (by kernel_rfl) (YI_v (v := .slice b m e) rfl (fun w' hw' => r_mv (v := .slice b m e) rfl)) ?_
      refine Wt_take (i := 5) (listed' := #[true, true, true, true, true, true, false, false, false]) (by kernel_rfl) rfl (by kernel_rfl) (by kernel_rfl) (by kernel_rfl) (by kernel_rfl) (YI_v (v := .int .i64 ((k : Nat) : Int)) rfl (fun w' hw' => r_mv (v := .int .i64 ((k : Nat) : Int)) rfl)) ?_
      obtain ⟨ib3, io3, ha3, hib3, hc3⟩ := (hy).iat (i := k) (by omega)
      replace hib3 : ((T ib3) ∧ ib3 < w.heap.size) := hib3
      refine Wt_take (i := 6) (listed' := #[true, true, true, true, true, true, true, false, false]) (by kernel_rfl) rfl (by kernel_rfl) (by kernel_rfl) (by kernel_rfl) (by kernel_rfl) (YI_v (v := .pointer (some ⟨ib3, io3 + k, none⟩)) rfl (fun w' hw' => r_idx (b := ib3) (off := io3) (m := m) (c := e) (o' := io3 + k) Try.underlying22 Try.sizeOf3 (by rw [← ha3]; rfl) rfl (by omega) (by omega) (by omega))) ?_
      refine Wt_take (i := 7) (listed' := #[true, true, true, true, true, true, true, true, false]) (by kernel_rfl) rfl (by kernel_rfl) (by kernel_rfl) (by kernel_rfl) (by kernel_rfl) (YI_v (v := .int .i64 (y.getD k 0)) rfl (fun w' hw' => r_load Try.isAgg3 rfl (hw'.cellk hc3))) ?_
      refine Wt_take (i := 8) (listed' := #[true, true, true, true, true, true, true, true, true]) (by kernel_rfl) rfl (by kernel_rfl) (by kernel_rfl) (by kernel_rfl) (by kernel_rfl) (YI_v (v := .bool (decide ((x.getD k 0) ≠ (y.getD k 0)))) rfl (fun w' hw' => r_ne rfl rfl)) ?_
      intro w4 hU4
      have hzw4 := hU4.size
      replace hx := hx.upd0 hU4
      replace hy := hy.upd0 hU4
      replace HU := HU.trans0 hU4
      replace HL1 := HL1.trans0 hU4
      replace hc2 := cell_upd0 hU4 hc2
      replace hc3 := cell_upd0 hU4 hc3
      refine Wa_done (by kernel_rfl) ?_
      by_cases q3 : (x.getD k 0) ≠ (y.getD k 0)
      · rw [decide_eq_true q3]
        refine W_cond_t rfl ?_
        refine W_seq ?_
        refine W_region ?_
        refine Wl_v (r_as (v := .bool false) rfl) ?_
        refine Wl_nil ?_
        refine W_ret ?_
        refine ret_end (v := .bool false) rfl (res1 Try.results16 rfl) ?_
        exact ⟨_, rfl, (vboolf (leq_ne 0 q3)), HU⟩
      · rw [decide_eq_false q3]
        refine W_cond_f rfl ?_
        refine W_skip ?_
        refine W_region ?_
        refine Wl_v (r_mv (v := .int .i64 ((k : Nat) : Int)) rfl) ?_
        refine Wl_v (r_add rfl rfl (wi64 (by omega) (by omega))) ?_
        refine Wl_v (r_as (v := .int .i64 (((k : Nat) : Int) + 1)) rfl) ?_
        refine Wl_nil ?_
        refine ⟨_, ?_, (k + 1), rfl, rfl, ⟨rfl, rfl, (by first | rfl | exact vint (by omega) | exact vint (by simp)), trivial⟩, (by omega), (leq_step 0 htk (by omega) (by omega) (Classical.not_not.1 q3)), HL1⟩
        omega
    · rw [decide_eq_false q2]
      refine W_cond_f rfl ?_
      refine W_exit ?_
      refine W_seq ?_
      refine W_region ?_
      refine Wl_v (r_as (v := .bool true) rfl) ?_
      refine Wl_nil ?_
      refine W_ret ?_
      refine ret_end (v := .bool true) rfl (res1 Try.results16 rfl) ?_
      exact ⟨_, rfl, (vboolt (leq_end htk (by omega) (by omega))), HU⟩

set_option maxRecDepth 100000 in
theorem entries_eq {a b : Option Addr} {n c m e : Nat} {x y : List (Int × Int)} {R T : Nat → Prop} (w : World) (hx : Sl w R 2 (.slice a n c) n (rows encE x)) (hy : Sl w T 2 (.slice b m e) m (rows encE y)) (hn : n ≤ 17592186044415) :
    Calls Try.prog 14 #[.slice a n c, .slice b m e] w (Ret fun v w' => v = .bool (decide (x = y)) ∧ Upd No w w') := by
  have HU : Upd (fun b => False) w w := Upd.refl _ _
  have hl_hx := rlen encE_len (by decide) hx
  have hc_hx := hx.cap.1
  replace hx := hx.tight
  have hl_hy := rlen encE_len (by decide) hy
  have hc_hy := hy.cap.1
  replace hy := hy.tight
  refine calls_of_W Try.func14 rfl Try.ntmps14 (by simp) ?_
  refine W_seq ?_
  refine W_region ?_
  refine Wl_v (r_as (v := .bool false) rfl) ?_
  refine Wl_nil ?_
  refine W_seq ?_
  refine W_seq ?_
  refine W_region ?_
  refine Wl_v (r_mv (v := .slice a n c) rfl) ?_
  refine Wl_v (r_len Try.underlying24 rfl) ?_
  refine Wl_v (r_mv (v := .slice b m e) rfl) ?_
  refine Wl_v (r_len Try.underlying24 rfl) ?_
  refine Wl_v (r_ne rfl rfl) ?_
  refine Wl_nil ?_
  by_cases q1 : ((n : Nat) : Int) ≠ ((m : Nat) : Int)
  · rw [decide_eq_true q1]
    refine W_cond_t rfl ?_
    refine W_seq ?_
    refine W_region ?_
    refine Wl_v (r_as (v := .bool false) rfl) ?_
    refine Wl_nil ?_
    refine W_ret ?_
    refine ret_end (v := .bool false) rfl (res1 Try.results14 rfl) ?_
    exact ⟨_, rfl, (vboolf (leq_len (by omega))), HU⟩
  · rw [decide_eq_false q1]
    refine W_cond_f rfl ?_
    refine W_skip ?_
    refine W_seq ?_
    refine W_seq ?_
    refine W_region ?_
    refine Wl_v (r_as (v := .int .i64 0) rfl) ?_
    refine Wl_nil ?_
    refine W_block ?_
    refine W_loop (fun mu ρ ds w' => ∃ (k : Nat), n - k = mu ∧ ds = [] ∧ Liv ρ [(0, .slice a n c), (1, .slice b m e), (5, .int .i64 ((k : Nat) : Int))] ∧ k ≤ n ∧ x.take k = y.take k ∧ Upd No w w') _ ⟨0, rfl, rfl, ⟨rfl, rfl, (by first | rfl | exact vint (by omega) | exact vint (by simp)), trivial⟩, (by omega), (by simp), Upd.refl _ _⟩ ?_
    rintro m1 ρ1 ds1 w1 ⟨k, rfl, rfl, hl1, hk, htk, hU1⟩
    obtain ⟨ρ1x, rfl⟩ : ∃ ρx, ρ1 = upds ρx [(0, .slice a n c), (1, .slice b m e), (5, .int .i64 ((k : Nat) : Int))] := ⟨_, upds_self hl1⟩
    clear hl1
    have hzw1 := hU1.size
    replace hx := hx.upd0 hU1
    replace hy := hy.upd0 hU1
    replace HU := HU.trans0 hU1
    have HL1 := hU1
    refine W_seq ?_
    refine W_seq ?_
    refine W_region ?_
    refine Wl_v (r_mv (v := .int .i64 ((k : Nat) : Int)) rfl) ?_
    refine Wl_v (r_mv (v := .slice a n c) rfl) ?_
    refine Wl_v (r_len Try.underlying24 rfl) ?_
    refine Wl_v (r_lt rfl rfl) ?_
    refine Wl_nil ?_
    by_cases q2 : ((k : Nat) : Int) < ((n : Nat) : Int)
    · rw [decide_eq_true q2]
      refine W_cond_t rfl ?_
      refine W_skip ?_
      refine W_seq ?_
      refine W_block ?_
      refine W_seq ?_
      refine W_drawt rfl (l0 := #[false, false, false, false, false, false, false, false, false]) (by kernel_rfl) ?_
      refine Wt_take (i := 0) (listed' := #[true, false, false, false, false, false, false, false, false]) (by kernel_rfl) rfl (by kernel_rfl) (by kernel_rfl) (by kernel_rfl) (by kernel_rfl) (YI_v (v := .slice a n c) rfl (fun w' hw' => r_mv (v := .slice a n c) rfl)) ?_
      refine Wt_take (i := 1) (listed' := #[true, true, false, false, false, false, false, false, false]) (by kernel_rfl) rfl (by kernel_rfl) (by kernel_rfl) (by kernel_rfl) (by kernel_rfl) (YI_v (v := .int .i64 ((k : Nat) : Int)) rfl (fun w' hw' => r_mv (v := .int .i64 ((k : Nat) : Int)) rfl)) ?_
      obtain ⟨ib2, io2, ha2, hib2, hc2⟩ := Sl.rat (0, 0) encE_len (by decide) (hx) (i := k) (by omega)
      refine Wt_take (i := 2) (listed' := #[true, true, true, false, false, false, false, false, false]) (by kernel_rfl) rfl (by kernel_rfl) (by kernel_rfl) (by kernel_rfl) (by kernel_rfl) (YI_v (v := .pointer (some ⟨ib2, io2 + k * 2, none⟩)) rfl (fun w' hw' => r_idx (b := ib2) (off := io2) (m := n) (c := c) (o' := io2 + k * 2) Try.underlying24 Try.sizeOf38 (by rw [← ha2]; rfl) rfl (by omega) (by omega) (by omega))) ?_
      refine Wt_take (i := 3) (listed' := #[true, true, true, true, false, false, false, false, false]) (by kernel_rfl) rfl (by kernel_rfl) (by kernel_rfl) (by kernel_rfl) (by kernel_rfl) (YI_v (v := .agg #[.int .i64 ((x.getD k (0, 0)).1), .int .i64 ((x.getD k (0, 0)).2)]) rfl (fun w' hw' => r_loada (cs := [.int .i64 ((x.getD k (0, 0)).1), .int .i64 ((x.getD k (0, 0)).2)]) Try.isAgg38 Try.sizeOf38 rfl rfl (hw'.cellsk rfl hc2))) ?_
      refine Wt_take (i := 4) (listed' := #[true, true, true, true, true, false, false, false, false]) (by kernel_rfl) rfl (by kernel_rfl) (by kernel_rfl) (by kernel_rfl) (by kernel_rfl) (YI_v (v := .slice b m e) rfl (fun w' hw' => r_mv (v := .slice b m e) rfl)) ?_
      refine Wt_take (i := 5) (listed' := #[true, true, true, true, true, true, false, false, false]) (by kernel_rfl) rfl (by kernel_rfl) (by kernel_rfl) (by kernel_rfl) (by kernel_rfl) (YI_v (v := .int .i64 ((k : Nat) : Int)) rfl (fun w' hw' => r_mv (v := .int .i64 ((k : Nat) : Int)) rfl)) ?_
      obtain ⟨ib3, io3, ha3, hib3, hc3⟩ := Sl.rat (0, 0) encE_len (by decide) (hy) (i := k) (by omega)
      refine Wt_take (i := 6) (listed' := #[true, true, true, true, true, true, true, false, false]) (by kernel_rfl) rfl (by kernel_rfl) (by kernel_rfl) (by kernel_rfl) (by kernel_rfl) (YI_v (v := .pointer (some ⟨ib3, io3 + k * 2, none⟩)) rfl (fun w' hw' => r_idx (b := ib3) (off := io3) (m := m) (c := e) (o' := io3 + k * 2) Try.underlying24 Try.sizeOf38 (by rw [← ha3]; rfl) rfl (by omega) (by omega) (by omega))) ?_
      refine Wt_take (i := 7) (listed' := #[true, true, true, true, true, true, true, true, false]) (by kernel_rfl) rfl (by kernel_rfl) (by kernel_rfl) (by kernel_rfl) (by kernel_rfl) (YI_v (v := .agg #[.int .i64 ((y.getD k (0, 0)).1), .int .i64 ((y.getD k (0, 0)).2)]) rfl (fun w' hw' => r_loada (cs := [.int .i64 ((y.getD k (0, 0)).1), .int .i64 ((y.getD k (0, 0)).2)]) Try.isAgg38 Try.sizeOf38 rfl rfl (hw'.cellsk rfl hc3))) ?_
      refine Wt_take (i := 8) (listed' := #[true, true, true, true, true, true, true, true, true]) (by kernel_rfl) rfl (by kernel_rfl) (by kernel_rfl) (by kernel_rfl) (by kernel_rfl) (YI_v (v := .bool (!decide (((x.getD k (0, 0)).1) = ((y.getD k (0, 0)).1) ∧ ((x.getD k (0, 0)).2) = ((y.getD k (0, 0)).2)))) rfl (fun w' hw' => r_neag (pp := ((x.getD k (0, 0)).1) = ((y.getD k (0, 0)).1) ∧ ((x.getD k (0, 0)).2) = ((y.getD k (0, 0)).2)) Try.underlying38 (by kernel_rfl) (by kernel_rfl) rfl rfl (fun w => eqf_int (by decide) Try.underlying3 Try.isAgg3 rfl rfl (fun w => eqf_int (by decide) Try.underlying3 Try.isAgg3 rfl rfl (fun w => eqf_nil))) (by simp [Bool.decide_and]))) ?_
      intro w4 hU4
      have hzw4 := hU4.size
      replace hx := hx.upd0 hU4
      replace hy := hy.upd0 hU4
      replace HU := HU.trans0 hU4
      replace HL1 := HL1.trans0 hU4
      refine Wa_done (by kernel_rfl) ?_
      by_cases q3 : ((x.getD k (0, 0)).1) = ((y.getD k (0, 0)).1) ∧ ((x.getD k (0, 0)).2) = ((y.getD k (0, 0)).2)
      · rw [decide_eq_true q3]
        simp only [Bool.not_true, Bool.not_false]
        refine W_cond_f rfl ?_
        refine W_skip ?_
        refine W_region ?_
        refine Wl_v (r_mv (v := .int .i64 ((k : Nat) : Int)) rfl) ?_
        refine Wl_v (r_add rfl rfl (wi64 (by omega) (by omega))) ?_
        refine Wl_v (r_as (v := .int .i64 (((k : Nat) : Int) + 1)) rfl) ?_
        refine Wl_nil ?_
        refine ⟨_, ?_, (k + 1), rfl, rfl, ⟨rfl, rfl, (by first | rfl | exact vint (by omega) | exact vint (by simp)), trivial⟩, (by omega), (leq_step (0, 0) htk (by omega) (by omega) (Prod.ext (q3).1 (q3).2)), HL1⟩
        omega
      · rw [decide_eq_false q3]
        simp only [Bool.not_true, Bool.not_false]
        refine W_cond_t rfl ?_
        refine W_seq ?_
        refine W_region ?_
        refine Wl_v (r_as (v := .bool false) rfl) ?_
        refine Wl_nil ?_
        refine W_ret ?_
        refine ret_end (v := .bool false) rfl (res1 Try.results14 rfl) ?_
        exact ⟨_, rfl, (vboolf (leq_ne (0, 0) (fun h9 => q3 ⟨congrArg Prod.fst h9, congrArg Prod.snd h9⟩))), HU⟩
    · rw [decide_eq_false q2]
      refine W_cond_f rfl ?_
      refine W_exit ?_
      refine W_seq ?_
      refine W_region ?_
      refine Wl_v (r_as (v := .bool true) rfl) ?_
      refine Wl_nil ?_
      refine W_ret ?_
      refine ret_end (v := .bool true) rfl (res1 Try.results14 rfl) ?_
      exact ⟨_, rfl, (vboolt (leq_end htk (by omega) (by omega))), HU⟩

set_option maxRecDepth 100000 in
theorem num15 {x : Int} (w : World)  :
    Calls Try.prog 15 #[.int .i64 x] w (Ret fun v w' => v = .int .i64 x ∧ Upd No w w') := by
  have HU : Upd (fun b => False) w w := Upd.refl _ _
  refine calls_of_W Try.func15 rfl Try.ntmps15 (by simp) ?_
  refine W_seq ?_
  refine W_region ?_
  refine Wl_v (r_as (v := .int .i64 0) rfl) ?_
  refine Wl_nil ?_
  refine W_seq ?_
  refine W_region ?_
  refine Wl_v (r_mv (v := .int .i64 x) rfl) ?_
  refine Wl_v (r_as (v := .int .i64 x) rfl) ?_
  refine Wl_nil ?_
  refine W_ret ?_
  refine ret_end (v := .int .i64 x) rfl (res1 Try.results15 rfl) ?_
  exact ⟨_, rfl, rfl, HU⟩

set_option maxRecDepth 100000 in
theorem trimmed {a : Option Addr} {n c : Nat} {l : List Int} (w : World) (hs : Sl w (fun g => g < w.heap.size) 1 (.slice a n c) n (ints .i64 l)) (hn : n ≤ 17592186044415) :
    Calls Try.prog 42 #[.slice a n c] w (Ret fun v w' => v = .slice a (tl l) c ∧ Upd No w w') := by
  have HU : Upd (fun b => False) w w := Upd.refl _ _
  have hl_hs := ilen hs
  have hc_hs := hs.cap.1
  refine calls_of_W Try.func42 rfl Try.ntmps42 (by simp) ?_
  refine W_seq ?_
  refine W_region ?_
  refine Wl_v (r_as (v := .slice none 0 0) rfl) ?_
  refine Wl_nil ?_
  refine W_seq ?_
  refine W_block ?_
  refine W_loop (fun mu ρ ds w' => ∃ (k : Nat), k = mu ∧ ds = [] ∧ Liv ρ [(0, .slice a k c)] ∧ k ≤ n ∧ tlk l k = tl l ∧ Sl w' (fun g => g < w.heap.size) 1 (.slice a k c) k (ints .i64 (l.take k)) ∧ Upd No w w') _ ⟨n, rfl, rfl, ⟨(by first | rfl | exact vint (by omega) | exact vint (by simp)), trivial⟩, (by omega), (by unfold tl; rw [hl_hs]), (by rw [List.take_of_length_le (by omega)]; exact hs), Upd.refl _ _⟩ ?_
  rintro m1 ρ1 ds1 w1 ⟨k, rfl, rfl, hl1, hk, htl, hk_s, hU1⟩
  obtain ⟨ρ1x, rfl⟩ : ∃ ρx, ρ1 = upds ρx [(0, .slice a k c)] := ⟨_, upds_self hl1⟩
  clear hl1
  have hzw1 := hU1.size
  replace hs := hs.upd0 hU1
  replace HU := HU.trans0 hU1
  have HL1 := hU1
  refine W_seq ?_
  refine W_seq ?_
  refine W_region ?_
  refine Wl_v (r_mv (v := .slice a k c) rfl) ?_
  refine Wl_v (r_len Try.underlying22 rfl) ?_
  refine Wl_v (r_gt rfl rfl) ?_
  refine Wl_v (r_mv (v := .bool (decide (0 < ((k : Nat) : Int)))) rfl) ?_
  by_cases q1 : 0 < ((k : Nat) : Int)
  · rw [decide_eq_true q1]
    refine Wl_guard_t rfl ?_
    refine Wl_v (r_mv (v := .slice a k c) rfl) ?_
    refine Wl_guard_t rfl ?_
    refine Wl_v (r_mv (v := .slice a k c) rfl) ?_
    refine Wl_guard_t rfl ?_
    refine Wl_v (r_len Try.underlying22 rfl) ?_
    refine Wl_guard_t rfl ?_
    refine Wl_v (r_sub rfl rfl (wi64 (by omega) (by omega))) ?_
    refine Wl_guard_t rfl ?_
    refine Wl_idxi Try.underlying22 Try.sizeOf3 rfl rfl hk_s (by omega) (by omega) ?_
    intro ib2 io2 hc2
    rw [show (((k : Nat) : Int) - 1).toNat = (k - 1) from by omega] at hc2
    refine Wl_guard_t rfl ?_
    refine Wl_loadc Try.isAgg3 rfl hc2 ?_
    refine Wl_guard_t rfl ?_
    refine Wl_v (r_eq rfl rfl) ?_
    refine Wl_v (r_pick_t (v := .bool (decide (((l.take k).getD (k - 1) 0) = 0))) rfl rfl) ?_
    refine Wl_nil ?_
    by_cases q2 : ((l.take k).getD (k - 1) 0) = 0
    · have hz0 := q2
      rw [tk_gd (by omega)] at hz0
      rw [decide_eq_true q2]
      refine W_cond_t rfl ?_
      refine W_skip ?_
      refine W_block ?_
      refine W_region ?_
      refine Wl_v (r_mv (v := .slice a k c) rfl) ?_
      refine Wl_v (r_mv (v := .slice a k c) rfl) ?_
      refine Wl_v (r_len Try.underlying22 rfl) ?_
      refine Wl_v (r_sub rfl rfl (wi64 (by omega) (by omega))) ?_
      refine Wl_v (r_slicehn (h' := k - 1) Try.underlying22 Try.sizeOf3 rfl rfl (by omega) (by omega)) ?_
      have hT3 := Sl.cuth (n := k - 1) hk_s (by omega)
      have hl_hT3 := ilen hT3
      have hc_hT3 := hT3.cap.1
      refine Wl_v (r_as (v := .slice a (k - 1) c) rfl) ?_
      refine Wl_nil ?_
      refine ⟨_, ?_, (k - 1), rfl, rfl, ⟨(by first | rfl | exact vint (by omega) | exact vint (by simp)), trivial⟩, (by omega), (by rw [← tlk_z (by omega) hz0]; exact htl), (by rw [tk_tk] at hT3; exact hT3.weak (by intro g hg; have h3 : g < w.heap.size := hg; exact h3)), HL1⟩
      omega
    · have hz0 := q2
      rw [tk_gd (by omega)] at hz0
      rw [decide_eq_false q2]
      refine W_cond_f rfl ?_
      refine W_exit ?_
      refine W_seq ?_
      refine W_region ?_
      refine Wl_v (r_mv (v := .slice a k c) rfl) ?_
      refine Wl_v (r_as (v := .slice a k c) rfl) ?_
      refine Wl_nil ?_
      refine W_ret ?_
      refine ret_end (v := .slice a k c) rfl (res1 Try.results42 rfl) ?_
      have htk : tl l = k := by rw [← htl]; exact tlk_n (by omega) hz0
      exact ⟨_, rfl, (by rw [htk]), HU⟩
  · rw [decide_eq_false q1]
    refine Wl_guard_f rfl ?_
    refine Wl_guard_f rfl ?_
    refine Wl_guard_f rfl ?_
    refine Wl_guard_f rfl ?_
    refine Wl_guard_f rfl ?_
    refine Wl_guard_f rfl ?_
    refine Wl_guard_f rfl ?_
    refine Wl_v (r_pick_f (v := .bool false) rfl rfl) ?_
    refine Wl_nil ?_
    refine W_cond_f rfl ?_
    refine W_exit ?_
    refine W_seq ?_
    refine W_region ?_
    refine Wl_v (r_mv (v := .slice a k c) rfl) ?_
    refine Wl_v (r_as (v := .slice a k c) rfl) ?_
    refine Wl_nil ?_
    refine W_ret ?_
    refine ret_end (v := .slice a k c) rfl (res1 Try.results42 rfl) ?_
    have htk : tl l = k := by rw [← htl]; have := tlk_le l k; omega
    exact ⟨_, rfl, (by rw [htk]), HU⟩

set_option maxRecDepth 100000 in
theorem rtrim {a : Option Addr} {n c : Nat} {l : List Int} (w : World) (hs : Sl w (fun g => g < w.heap.size) 1 (.slice a n c) n (ints .i64 l)) (hn : n ≤ 17592186044415) :
    Calls Try.prog 28 #[.slice a n c] w (Ret fun v w' => v = .slice a (tl l) c ∧ Upd No w w') := by
  have HU : Upd (fun b => False) w w := Upd.refl _ _
  have hl_hs := ilen hs
  have hc_hs := hs.cap.1
  refine calls_of_W Try.func28 rfl Try.ntmps28 (by simp) ?_
  refine W_seq ?_
  refine W_region ?_
  refine Wl_v (r_as (v := .slice none 0 0) rfl) ?_
  refine Wl_nil ?_
  refine W_seq ?_
  refine W_block ?_
  refine W_loop (fun mu ρ ds w' => ∃ (k : Nat), k = mu ∧ ds = [] ∧ Liv ρ [(0, .slice a k c)] ∧ k ≤ n ∧ tlk l k = tl l ∧ Sl w' (fun g => g < w.heap.size) 1 (.slice a k c) k (ints .i64 (l.take k)) ∧ Upd No w w') _ ⟨n, rfl, rfl, ⟨(by first | rfl | exact vint (by omega) | exact vint (by simp)), trivial⟩, (by omega), (by unfold tl; rw [hl_hs]), (by rw [List.take_of_length_le (by omega)]; exact hs), Upd.refl _ _⟩ ?_
  rintro m1 ρ1 ds1 w1 ⟨k, rfl, rfl, hl1, hk, htl, hk_s, hU1⟩
  obtain ⟨ρ1x, rfl⟩ : ∃ ρx, ρ1 = upds ρx [(0, .slice a k c)] := ⟨_, upds_self hl1⟩
  clear hl1
  have hzw1 := hU1.size
  replace hs := hs.upd0 hU1
  replace HU := HU.trans0 hU1
  have HL1 := hU1
  refine W_seq ?_
  refine W_seq ?_
  refine W_region ?_
  refine Wl_v (r_mv (v := .slice a k c) rfl) ?_
  refine Wl_v (r_len Try.underlying22 rfl) ?_
  refine Wl_v (r_gt rfl rfl) ?_
  refine Wl_v (r_mv (v := .bool (decide (0 < ((k : Nat) : Int)))) rfl) ?_
  by_cases q1 : 0 < ((k : Nat) : Int)
  · rw [decide_eq_true q1]
    refine Wl_guard_t rfl ?_
    refine Wl_v (r_mv (v := .slice a k c) rfl) ?_
    refine Wl_guard_t rfl ?_
    refine Wl_v (r_mv (v := .slice a k c) rfl) ?_
    refine Wl_guard_t rfl ?_
    refine Wl_v (r_len Try.underlying22 rfl) ?_
    refine Wl_guard_t rfl ?_
    refine Wl_v (r_sub rfl rfl (wi64 (by omega) (by omega))) ?_
    refine Wl_guard_t rfl ?_
    refine Wl_idxi Try.underlying22 Try.sizeOf3 rfl rfl hk_s (by omega) (by omega) ?_
    intro ib2 io2 hc2
    rw [show (((k : Nat) : Int) - 1).toNat = (k - 1) from by omega] at hc2
    refine Wl_guard_t rfl ?_
    refine Wl_loadc Try.isAgg3 rfl hc2 ?_
    refine Wl_guard_t rfl ?_
    refine Wl_v (r_eq rfl rfl) ?_
    refine Wl_v (r_pick_t (v := .bool (decide (((l.take k).getD (k - 1) 0) = 0))) rfl rfl) ?_
    refine Wl_nil ?_
    by_cases q2 : ((l.take k).getD (k - 1) 0) = 0
    · have hz0 := q2
      rw [tk_gd (by omega)] at hz0
      rw [decide_eq_true q2]
      refine W_cond_t rfl ?_
      refine W_skip ?_
      refine W_block ?_
      refine W_region ?_
      refine Wl_v (r_mv (v := .slice a k c) rfl) ?_
      refine Wl_v (r_mv (v := .slice a k c) rfl) ?_
      refine Wl_v (r_len Try.underlying22 rfl) ?_
      refine Wl_v (r_sub rfl rfl (wi64 (by omega) (by omega))) ?_
      refine Wl_v (r_slicehn (h' := k - 1) Try.underlying22 Try.sizeOf3 rfl rfl (by omega) (by omega)) ?_
      have hT3 := Sl.cuth (n := k - 1) hk_s (by omega)
      have hl_hT3 := ilen hT3
      have hc_hT3 := hT3.cap.1
      refine Wl_v (r_as (v := .slice a (k - 1) c) rfl) ?_
      refine Wl_nil ?_
      refine ⟨_, ?_, (k - 1), rfl, rfl, ⟨(by first | rfl | exact vint (by omega) | exact vint (by simp)), trivial⟩, (by omega), (by rw [← tlk_z (by omega) hz0]; exact htl), (by rw [tk_tk] at hT3; exact hT3.weak (by intro g hg; have h3 : g < w.heap.size := hg; exact h3)), HL1⟩
      omega
    · have hz0 := q2
      rw [tk_gd (by omega)] at hz0
      rw [decide_eq_false q2]
      refine W_cond_f rfl ?_
      refine W_exit ?_
      refine W_seq ?_
      refine W_region ?_
      refine Wl_v (r_mv (v := .slice a k c) rfl) ?_
      refine Wl_v (r_as (v := .slice a k c) rfl) ?_
      refine Wl_nil ?_
      refine W_ret ?_
      refine ret_end (v := .slice a k c) rfl (res1 Try.results28 rfl) ?_
      have htk : tl l = k := by rw [← htl]; exact tlk_n (by omega) hz0
      exact ⟨_, rfl, (by rw [htk]), HU⟩
  · rw [decide_eq_false q1]
    refine Wl_guard_f rfl ?_
    refine Wl_guard_f rfl ?_
    refine Wl_guard_f rfl ?_
    refine Wl_guard_f rfl ?_
    refine Wl_guard_f rfl ?_
    refine Wl_guard_f rfl ?_
    refine Wl_guard_f rfl ?_
    refine Wl_v (r_pick_f (v := .bool false) rfl rfl) ?_
    refine Wl_nil ?_
    refine W_cond_f rfl ?_
    refine W_exit ?_
    refine W_seq ?_
    refine W_region ?_
    refine Wl_v (r_mv (v := .slice a k c) rfl) ?_
    refine Wl_v (r_as (v := .slice a k c) rfl) ?_
    refine Wl_nil ?_
    refine W_ret ?_
    refine ret_end (v := .slice a k c) rfl (res1 Try.results28 rfl) ?_
    have htk : tl l = k := by rw [← htl]; have := tlk_le l k; omega
    exact ⟨_, rfl, (by rw [htk]), HU⟩

set_option maxRecDepth 100000 in
theorem eq_ll {tb ub : Nat} {ea la eb lb : Option Addr} {n ec lc m fc mc_ : Nat} {l l2 : List Int} (w : World) (hT : Blk w tb [.slice ea (2 ^ bt l) ec, .int .i64 ((bt l : Nat) : Int), .slice la n lc]) (hL : Sl w (fun g => g < w.heap.size) 1 (.slice la n lc) n (ints .i64 l)) (hr : Rt l) (hT2 : Blk w ub [.slice eb (2 ^ bt l2) fc, .int .i64 ((bt l2 : Nat) : Int), .slice lb m mc_]) (hL2 : Sl w (fun g => g < w.heap.size) 1 (.slice lb m mc_) m (ints .i64 l2)) (hr2 : Rt l2) :
    Calls Try.prog 29 #[.pointer (some ⟨tb, 0, none⟩), .pointer (some ⟨ub, 0, none⟩)] w (Ret fun v w' => v = .bool (decide (l.take (tl l) = l2.take (tl l2))) ∧ Upd No w w') := by
  have HU : Upd (fun b => False) w w := Upd.refl _ _
  have hbl_hT := hT.lt
  have hl_hL := ilen hL
  have hc_hL := hL.cap.1
  have hbl_hT2 := hT2.lt
  have hl_hL2 := ilen hL2
  have hc_hL2 := hL2.cap.1
  have hbt := bt_bd hr
  have hbt2 := bt_bd hr2
  have h256 := hr.2.1
  have h257 := hr2.2.1
  have htl1 := tl_le l
  have htl2 := tl_le l2
  refine calls_of_W Try.func29 rfl Try.ntmps29 (by simp) ?_
  refine W_seq ?_
  refine W_region ?_
  refine Wl_v (r_as (v := .bool false) rfl) ?_
  refine Wl_nil ?_
  refine W_seq ?_
  refine W_seq ?_
  refine W_region ?_
  refine Wl_v (r_mv (v := .pointer (some ⟨tb, 0, none⟩)) rfl) ?_
  refine Wl_call (r_call1 rfl Try.call37 rfl) (none_ok _ hT (by omega)) ?_
  rintro v w1 ⟨rfl, hU1⟩
  have hzw1 := hU1.size
  replace hT := hT.upd0 hU1
  replace hL := hL.upd0 hU1
  replace hT2 := hT2.upd0 hU1
  replace hL2 := hL2.upd0 hU1
  replace HU := HU.trans0 hU1
  refine Wl_v (r_mv (v := .bool false) rfl) ?_
  refine Wl_guard_t rfl ?_
  refine Wl_v (r_mv (v := .pointer (some ⟨ub, 0, none⟩)) rfl) ?_
  refine Wl_guard_t rfl ?_
  refine Wl_call (r_call1 rfl Try.call37 rfl) (none_ok _ hT2 (by omega)) ?_
  rintro v w2 ⟨rfl, hU2⟩
  have hzw2 := hU2.size
  replace hT := hT.upd0 hU2
  replace hL := hL.upd0 hU2
  replace hT2 := hT2.upd0 hU2
  replace hL2 := hL2.upd0 hU2
  replace HU := HU.trans0 hU2
  refine Wl_v (r_pick_f (v := .bool false) rfl rfl) ?_
  refine Wl_nil ?_
  refine W_cond_f rfl ?_
  refine W_skip ?_
  refine W_seq ?_
  refine W_drawt rfl (l0 := #[false, false, false, false, false, false, false, false, false, false, false, false]) (by kernel_rfl) ?_
  refine Wt_take (i := 0) (listed' := #[true, false, false, false, false, false, false, false, false, false, false, false]) (by kernel_rfl) rfl (by kernel_rfl) (by kernel_rfl) (by kernel_rfl) (by kernel_rfl) (YI_v (v := .pointer (some ⟨tb, 0, none⟩)) rfl (fun w' hw' => r_mv (v := .pointer (some ⟨tb, 0, none⟩)) rfl)) ?_
  refine Wt_take (i := 1) (listed' := #[true, true, false, false, false, false, false, false, false, false, false, false]) (by kernel_rfl) rfl (by kernel_rfl) (by kernel_rfl) (by kernel_rfl) (by kernel_rfl) (YI_v (v := .pointer (some ⟨tb, 0, none⟩)) rfl (fun w' hw' => r_nil rfl)) ?_
  refine Wt_take (i := 2) (listed' := #[true, true, true, false, false, false, false, false, false, false, false, false]) (by kernel_rfl) rfl (by kernel_rfl) (by kernel_rfl) (by kernel_rfl) (by kernel_rfl) (YI_v (v := .pointer (some ⟨tb, 2, none⟩)) rfl (fun w' hw' => r_fld Try.underlying67 rfl Try.sizeOf22 rfl rfl)) ?_
  refine Wt_take (i := 3) (listed' := #[true, true, true, true, false, false, false, false, false, false, false, false]) (by kernel_rfl) rfl (by kernel_rfl) (by kernel_rfl) (by kernel_rfl) (by kernel_rfl) (YI_v (v := .slice la n lc) rfl (fun w' hw' => r_load Try.isAgg22 rfl (by rw [(hT.upd0 hw').cell]; rfl))) ?_
  refine Wt_take (i := 4) (listed' := #[true, true, true, true, true, false, false, false, false, false, false, false]) (by kernel_rfl) rfl (by kernel_rfl) (by kernel_rfl) (by kernel_rfl) (by kernel_rfl) (YI_c (v := .slice la (tl l) lc) rfl (fun w' => r_call1 rfl Try.call42 rfl) (fun w' hw' => trimmed w' ((hL.upd0 hw').any) (by omega))) ?_
  have hC21 := Sl.cuth (n := tl l) hL (by have := tl_le l; omega)
  refine Wt_take (i := 5) (listed' := #[true, true, true, true, true, true, false, false, false, false, false, false]) (by kernel_rfl) rfl (by kernel_rfl) (by kernel_rfl) (by kernel_rfl) (by kernel_rfl) (YI_v (v := .pointer (some ⟨ub, 0, none⟩)) rfl (fun w' hw' => r_mv (v := .pointer (some ⟨ub, 0, none⟩)) rfl)) ?_
  refine Wt_take (i := 6) (listed' := #[true, true, true, true, true, true, true, false, false, false, false, false]) (by kernel_rfl) rfl (by kernel_rfl) (by kernel_rfl) (by kernel_rfl) (by kernel_rfl) (YI_v (v := .pointer (some ⟨ub, 0, none⟩)) rfl (fun w' hw' => r_nil rfl)) ?_
  refine Wt_take (i := 7) (listed' := #[true, true, true, true, true, true, true, true, false, false, false, false]) (by kernel_rfl) rfl (by kernel_rfl) (by kernel_rfl) (by kernel_rfl) (by kernel_rfl) (YI_v (v := .pointer (some ⟨ub, 2, none⟩)) rfl (fun w' hw' => r_fld Try.underlying67 rfl Try.sizeOf22 rfl rfl)) ?_
  refine Wt_take (i := 8) (listed' := #[true, true, true, true, true, true, true, true, true, false, false, false]) (by kernel_rfl) rfl (by kernel_rfl) (by kernel_rfl) (by kernel_rfl) (by kernel_rfl) (YI_v (v := .slice lb m mc_) rfl (fun w' hw' => r_load Try.isAgg22 rfl (by rw [(hT2.upd0 hw').cell]; rfl))) ?_
  refine Wt_take (i := 9) (listed' := #[true, true, true, true, true, true, true, true, true, true, false, false]) (by kernel_rfl) rfl (by kernel_rfl) (by kernel_rfl) (by kernel_rfl) (by kernel_rfl) (YI_c (v := .slice lb (tl l2) mc_) rfl (fun w' => r_call1 rfl Try.call42 rfl) (fun w' hw' => trimmed w' ((hL2.upd0 hw').any) (by omega))) ?_
  have hC26 := Sl.cuth (n := tl l2) hL2 (by have := tl_le l2; omega)
  refine Wt_take (i := 10) (listed' := #[true, true, true, true, true, true, true, true, true, true, true, false]) (by kernel_rfl) rfl (by kernel_rfl) (by kernel_rfl) (by kernel_rfl) (by kernel_rfl) (YI_c (v := .bool (decide ((l.take (tl l)) = (l2.take (tl l2))))) rfl (fun w' => r_call2 rfl Try.call41 rfl rfl) (fun w' hw' => iequal w' ((hC21.upd0 hw')) ((hC26.upd0 hw')) (by omega))) ?_
  refine Wt_take (i := 11) (listed' := #[true, true, true, true, true, true, true, true, true, true, true, true]) (by kernel_rfl) rfl (by kernel_rfl) (by kernel_rfl) (by kernel_rfl) (by kernel_rfl) (YI_v (v := .bool (decide ((l.take (tl l)) = (l2.take (tl l2))))) rfl (fun w' hw' => r_as (v := .bool (decide ((l.take (tl l)) = (l2.take (tl l2))))) rfl)) ?_
  intro w3 hU3
  have hzw3 := hU3.size
  replace hT := hT.upd0 hU3
  replace hL := hL.upd0 hU3
  replace hT2 := hT2.upd0 hU3
  replace hL2 := hL2.upd0 hU3
  replace HU := HU.trans0 hU3
  replace hC21 := hC21.upd0 hU3
  replace hC26 := hC26.upd0 hU3
  refine Wa_done (by kernel_rfl) ?_
  refine W_ret ?_
  refine ret_end (v := .bool (decide ((l.take (tl l)) = (l2.take (tl l2))))) rfl (res1 Try.results29 rfl) ?_
  exact ⟨_, rfl, rfl, HU⟩

set_option maxRecDepth 100000 in
theorem eq_ln {tb : Nat} {ea la : Option Addr} {n ec lc : Nat} {l : List Int} (w : World) (hT : Blk w tb [.slice ea (2 ^ bt l) ec, .int .i64 ((bt l : Nat) : Int), .slice la n lc]) (hr : Rt l) :
    Calls Try.prog 29 #[.pointer (some ⟨tb, 0, none⟩), .pointer none] w (Ret fun v w' => v = .bool false ∧ Upd No w w') := by
  have HU : Upd (fun b => False) w w := Upd.refl _ _
  have hbl_hT := hT.lt
  have hbt := bt_bd hr
  refine calls_of_W Try.func29 rfl Try.ntmps29 (by simp) ?_
  refine W_seq ?_
  refine W_region ?_
  refine Wl_v (r_as (v := .bool false) rfl) ?_
  refine Wl_nil ?_
  refine W_seq ?_
  refine W_seq ?_
  refine W_region ?_
  refine Wl_v (r_mv (v := .pointer (some ⟨tb, 0, none⟩)) rfl) ?_
  refine Wl_call (r_call1 rfl Try.call37 rfl) (none_ok _ hT (by omega)) ?_
  rintro v w1 ⟨rfl, hU1⟩
  have hzw1 := hU1.size
  replace hT := hT.upd0 hU1
  replace HU := HU.trans0 hU1
  refine Wl_v (r_mv (v := .bool false) rfl) ?_
  refine Wl_guard_t rfl ?_
  refine Wl_v (r_mv (v := .pointer none) rfl) ?_
  refine Wl_guard_t rfl ?_
  refine Wl_call (r_call1 rfl Try.call37 rfl) (none_nil _ ) ?_
  rintro v w2 ⟨rfl, hU2⟩
  have hzw2 := hU2.size
  replace hT := hT.upd0 hU2
  replace HU := HU.trans0 hU2
  refine Wl_v (r_pick_f (v := .bool true) rfl rfl) ?_
  refine Wl_nil ?_
  refine W_cond_t rfl ?_
  refine W_seq ?_
  refine W_region ?_
  refine Wl_v (r_mv (v := .pointer (some ⟨tb, 0, none⟩)) rfl) ?_
  refine Wl_call (r_call1 rfl Try.call37 rfl) (none_ok _ hT (by omega)) ?_
  rintro v w3 ⟨rfl, hU3⟩
  have hzw3 := hU3.size
  replace hT := hT.upd0 hU3
  replace HU := HU.trans0 hU3
  refine Wl_v (r_mv (v := .bool false) rfl) ?_
  refine Wl_guard_f rfl ?_
  refine Wl_guard_f rfl ?_
  refine Wl_v (r_pick_f (v := .bool false) rfl rfl) ?_
  refine Wl_v (r_as (v := .bool false) rfl) ?_
  refine Wl_nil ?_
  refine W_ret ?_
  refine ret_end (v := .bool false) rfl (res1 Try.results29 rfl) ?_
  exact ⟨_, rfl, rfl, HU⟩

set_option maxRecDepth 100000 in
theorem eq_nl {tb : Nat} {ea la : Option Addr} {n ec lc : Nat} {l : List Int} (w : World) (hT : Blk w tb [.slice ea (2 ^ bt l) ec, .int .i64 ((bt l : Nat) : Int), .slice la n lc]) (hr : Rt l) :
    Calls Try.prog 29 #[.pointer none, .pointer (some ⟨tb, 0, none⟩)] w (Ret fun v w' => v = .bool false ∧ Upd No w w') := by
  have HU : Upd (fun b => False) w w := Upd.refl _ _
  have hbl_hT := hT.lt
  have hbt := bt_bd hr
  refine calls_of_W Try.func29 rfl Try.ntmps29 (by simp) ?_
  refine W_seq ?_
  refine W_region ?_
  refine Wl_v (r_as (v := .bool false) rfl) ?_
  refine Wl_nil ?_
  refine W_seq ?_
  refine W_seq ?_
  refine W_region ?_
  refine Wl_v (r_mv (v := .pointer none) rfl) ?_
  refine Wl_call (r_call1 rfl Try.call37 rfl) (none_nil _ ) ?_
  rintro v w1 ⟨rfl, hU1⟩
  have hzw1 := hU1.size
  replace hT := hT.upd0 hU1
  replace HU := HU.trans0 hU1
  refine Wl_v (r_mv (v := .bool true) rfl) ?_
  refine Wl_guard_f rfl ?_
  refine Wl_guard_f rfl ?_
  refine Wl_v (r_pick_t (v := .bool true) rfl rfl) ?_
  refine Wl_nil ?_
  refine W_cond_t rfl ?_
  refine W_seq ?_
  refine W_region ?_
  refine Wl_v (r_mv (v := .pointer none) rfl) ?_
  refine Wl_call (r_call1 rfl Try.call37 rfl) (none_nil _ ) ?_
  rintro v w2 ⟨rfl, hU2⟩
  have hzw2 := hU2.size
  replace hT := hT.upd0 hU2
  replace HU := HU.trans0 hU2
  refine Wl_v (r_mv (v := .bool true) rfl) ?_
  refine Wl_guard_t rfl ?_
  refine Wl_v (r_mv (v := .pointer (some ⟨tb, 0, none⟩)) rfl) ?_
  refine Wl_guard_t rfl ?_
  refine Wl_call (r_call1 rfl Try.call37 rfl) (none_ok _ hT (by omega)) ?_
  rintro v w3 ⟨rfl, hU3⟩
  have hzw3 := hU3.size
  replace hT := hT.upd0 hU3
  replace HU := HU.trans0 hU3
  refine Wl_v (r_pick_t (v := .bool false) rfl rfl) ?_
  refine Wl_v (r_as (v := .bool false) rfl) ?_
  refine Wl_nil ?_
  refine W_ret ?_
  refine ret_end (v := .bool false) rfl (res1 Try.results29 rfl) ?_
  exact ⟨_, rfl, rfl, HU⟩

set_option maxRecDepth 100000 in
theorem eq_nn  (w : World)  :
    Calls Try.prog 29 #[.pointer none, .pointer none] w (Ret fun v w' => v = .bool true ∧ Upd No w w') := by
  have HU : Upd (fun b => False) w w := Upd.refl _ _
  refine calls_of_W Try.func29 rfl Try.ntmps29 (by simp) ?_
  refine W_seq ?_
  refine W_region ?_
  refine Wl_v (r_as (v := .bool false) rfl) ?_
  refine Wl_nil ?_
  refine W_seq ?_
  refine W_seq ?_
  refine W_region ?_
  refine Wl_v (r_mv (v := .pointer none) rfl) ?_
  refine Wl_call (r_call1 rfl Try.call37 rfl) (none_nil _ ) ?_
  rintro v w1 ⟨rfl, hU1⟩
  have hzw1 := hU1.size
  replace HU := HU.trans0 hU1
  refine Wl_v (r_mv (v := .bool true) rfl) ?_
  refine Wl_guard_f rfl ?_
  refine Wl_guard_f rfl ?_
  refine Wl_v (r_pick_t (v := .bool true) rfl rfl) ?_
  refine Wl_nil ?_
  refine W_cond_t rfl ?_
  refine W_seq ?_
  refine W_region ?_
  refine Wl_v (r_mv (v := .pointer none) rfl) ?_
  refine Wl_call (r_call1 rfl Try.call37 rfl) (none_nil _ ) ?_
  rintro v w2 ⟨rfl, hU2⟩
  have hzw2 := hU2.size
  replace HU := HU.trans0 hU2
  refine Wl_v (r_mv (v := .bool true) rfl) ?_
  refine Wl_guard_t rfl ?_
  refine Wl_v (r_mv (v := .pointer none) rfl) ?_
  refine Wl_guard_t rfl ?_
  refine Wl_call (r_call1 rfl Try.call37 rfl) (none_nil _ ) ?_
  rintro v w3 ⟨rfl, hU3⟩
  have hzw3 := hU3.size
  replace HU := HU.trans0 hU3
  refine Wl_v (r_pick_t (v := .bool true) rfl rfl) ?_
  refine Wl_v (r_as (v := .bool true) rfl) ?_
  refine Wl_nil ?_
  refine W_ret ?_
  refine ret_end (v := .bool true) rfl (res1 Try.results29 rfl) ?_
  exact ⟨_, rfl, rfl, HU⟩

set_option maxRecDepth 100000 in
theorem eq_zn {tb : Nat} {xe xl : Value} (w : World) (hT : Blk w tb [xe, .int .i64 0, xl]) :
    Calls Try.prog 29 #[.pointer (some ⟨tb, 0, none⟩), .pointer none] w (Ret fun v w' => v = .bool true ∧ Upd No w w') := by
  have HU : Upd (fun b => False) w w := Upd.refl _ _
  have hbl_hT := hT.lt
  refine calls_of_W Try.func29 rfl Try.ntmps29 (by simp) ?_
  refine W_seq ?_
  refine W_region ?_
  refine Wl_v (r_as (v := .bool false) rfl) ?_
  refine Wl_nil ?_
  refine W_seq ?_
  refine W_seq ?_
  refine W_region ?_
  refine Wl_v (r_mv (v := .pointer (some ⟨tb, 0, none⟩)) rfl) ?_
  refine Wl_call (r_call1 rfl Try.call37 rfl) (none_zero _ hT) ?_
  rintro v w1 ⟨rfl, hU1⟩
  have hzw1 := hU1.size
  replace hT := hT.upd0 hU1
  replace HU := HU.trans0 hU1
  refine Wl_v (r_mv (v := .bool true) rfl) ?_
  refine Wl_guard_f rfl ?_
  refine Wl_guard_f rfl ?_
  refine Wl_v (r_pick_t (v := .bool true) rfl rfl) ?_
  refine Wl_nil ?_
  refine W_cond_t rfl ?_
  refine W_seq ?_
  refine W_region ?_
  refine Wl_v (r_mv (v := .pointer (some ⟨tb, 0, none⟩)) rfl) ?_
  refine Wl_call (r_call1 rfl Try.call37 rfl) (none_zero _ hT) ?_
  rintro v w2 ⟨rfl, hU2⟩
  have hzw2 := hU2.size
  replace hT := hT.upd0 hU2
  replace HU := HU.trans0 hU2
  refine Wl_v (r_mv (v := .bool true) rfl) ?_
  refine Wl_guard_t rfl ?_
  refine Wl_v (r_mv (v := .pointer none) rfl) ?_
  refine Wl_guard_t rfl ?_
  refine Wl_call (r_call1 rfl Try.call37 rfl) (none_nil _ ) ?_
  rintro v w3 ⟨rfl, hU3⟩
  have hzw3 := hU3.size
  replace hT := hT.upd0 hU3
  replace HU := HU.trans0 hU3
  refine Wl_v (r_pick_t (v := .bool true) rfl rfl) ?_
  refine Wl_v (r_as (v := .bool true) rfl) ?_
  refine Wl_nil ?_
  refine W_ret ?_
  refine ret_end (v := .bool true) rfl (res1 Try.results29 rfl) ?_
  exact ⟨_, rfl, rfl, HU⟩

end Go.Proofs.Ytkgjdcjpnfjofaa
