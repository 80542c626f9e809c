/-
 Walks, printed by a small program of this project (gen.py).
-/
import Derived.Test.YtilegaokfamfnaaZa
set_option linter.unusedVariables false
set_option linter.unusedSimpArgs false
namespace Go.Proofs.Ytilegaokfamfnaa
open Go.Fw

/-- a reader of the stream b by the table of l: t bits are left -/
def Rdr (w : World) (G0 G1 rb tb : Nat) (l b : List Int) (t : Nat) : Prop :=
 ∃ (a : Option Addr) (c : Nat) (ea : Option Addr) (ec : Nat) (la : Option Addr) (k lc : Nat),
  Blk w rb [.slice a b.length c, .int .i64 0, .int .i64 ((t : Nat) : Int)] ∧ Sl w (fun g => G0 ≤ g ∧ g < G1 ∧ g ≠ rb) 1 (.slice a b.length c) b.length (ints .u8 b) ∧
  Blk w tb [.slice ea (2 ^ bt l) ec, .int .i64 ((bt l : Nat) : Int), .slice la k lc] ∧ Sl w (fun g => G0 ≤ g ∧ g < G1 ∧ g ≠ rb) 2 (.slice ea (2 ^ bt l) ec) (2 ^ bt l) (rows encE (tbl l)) ∧
  (G0 ≤ rb ∧ rb < G1 ∧ G0 ≤ tb ∧ tb < G1 ∧ tb ≠ rb ∧ G1 ≤ w.heap.size)
theorem Rdr.upd {w w' : World} {G0 G1 rb tb : Nat} {l b : List Int} {t : Nat} {S : Nat → Prop} (h : Rdr w G0 G1 rb tb l b t) (hU : Upd S w w') (hS : ∀ g, S g → g < G0 ∨ G1 ≤ g) : Rdr w' G0 G1 rb tb l b t := by
 obtain ⟨a, c, ea, ec, la, k, lc, h1, h2, h3, h4, h5⟩ := h
 have hz := hU.size
 exact ⟨a, c, ea, ec, la, k, lc, h1.upd hU (fun x => by have := hS _ x; omega), h2.upd hU (fun g hg x => by have := hS _ x; have h6 : G0 ≤ g ∧ g < G1 ∧ g ≠ rb := hg; omega),
  h3.upd hU (fun x => by have := hS _ x; omega), h4.upd hU (fun g hg x => by have := hS _ x; have h6 : G0 ≤ g ∧ g < G1 ∧ g ≠ rb := hg; omega), by omega⟩
theorem Rdr.upd0 {w w' : World} {G0 G1 rb tb : Nat} {l b : List Int} {t : Nat} (h : Rdr w G0 G1 rb tb l b t) (hU : Upd No w w') : Rdr w' G0 G1 rb tb l b t := h.upd hU fun _ x => x.elim
theorem Rdr.upd1 {w w' : World} {G0 G1 rb tb x : Nat} {l b : List Int} {t : Nat} (h : Rdr w G0 G1 rb tb l b t) (hU : Upd (Is x) w w') (hx : x < G0 ∨ G1 ≤ x) : Rdr w' G0 G1 rb tb l b t :=
 h.upd hU fun g hg => by have h6 : g = x := hg; omega
theorem Rdr.lt {w : World} {G0 G1 rb tb : Nat} {l b : List Int} {t : Nat} (h : Rdr w G0 G1 rb tb l b t) : G0 ≤ rb ∧ rb < G1 ∧ G0 ≤ tb ∧ tb < G1 ∧ tb ≠ rb ∧ G1 ≤ w.heap.size := by
 obtain ⟨a, c, ea, ec, la, k, lc, h1, h2, h3, h4, h5⟩ := h
 exact h5
theorem Rdr.cong {w : World} {G0 G1 rb tb : Nat} {l b : List Int} {t t' : Nat} (h : Rdr w G0 G1 rb tb l b t) (e : t = t') : Rdr w G0 G1 rb tb l b t' := e ▸ h
/-- n code words follow one another -/
def Gd (l b : List Int) (t n : Nat) : Prop := ∀ j, j < n → gd l (wn b) t j
theorem Gd.zero (l b : List Int) (t : Nat) : Gd l b t 0 := fun j hj => absurd hj (by omega)
theorem Gd.succ {l b : List Int} {t k : Nat} (h : Gd l b t k) (h2 : (nd l (wn b) (st l (wn b) t k)).2.2 = 0) : Gd l b t (k + 1) := fun j hj => by
 by_cases e : j = k
 ·subst e; exact h2
 ·exact h j (by omega)
theorem Gd.le {l b : List Int} {t k n : Nat} (h : Gd l b t n) (hk : k ≤ n) : Gd l b t k := fun j hj => h j (by omega)

theorem rleft {G0 G1 rb tb t : Nat} {l b : List Int} (w : World) (hR : Rdr w G0 G1 rb tb l b t) (ht : t ≤ 1000000) :
  Calls Try.prog 49 #[.pointer (some ⟨rb, 0, none⟩)] w (Ret fun v w' => v = .int .i64 ((t : Nat) : Int) ∧ Upd No w w') := by
 obtain ⟨a, c, ea, ec, la, q, lc, hB, hs, hT, hE, hbd⟩ := hR
 exact bleft_spec w hB ht

set_option maxRecDepth 100000 in
theorem next_spec {G0 G1 rb tb t : Nat} {l b : List Int} (w : World) (hR : Rdr w G0 G1 rb tb l b t) (hr : Rt l) (hb : Byt b) (hbl : b.length ≤ 100000 ∧ t ≤ 8 * b.length) :
  Calls Try.prog 52 #[.agg #[.pointer (some ⟨rb, 0, none⟩), .pointer (some ⟨tb, 0, none⟩)]] w (Ret fun v w' => v = .tuple #[.int .u8 ((nd l (wn b) t).1), .bool (decide ((nd l (wn b) t).2.2 = 0))] ∧ Rdr w' G0 G1 rb tb l b (t - (nd l (wn b) t).2.1.toNat) ∧ Upd (Is rb) w w') := by
 have HU : Upd (fun b => b = rb) w w := Upd.refl _ _
 obtain ⟨a, c, ea, ec, la, q, lc, hB, hs, hT, hE, hbd⟩ := hR
 have hl_hs := ilen hs
 have hc_hs := hs.cap.1
 have h11w := wd11 (wn b) t
 refine calls_of_W Try.func52 rfl Try.ntmps52 (by simp) ?_
 refine W_seq ?_
 refine W_region ?_
 refine Wl_box (v := .agg #[.pointer (some ⟨rb, 0, none⟩), .pointer (some ⟨tb, 0, none⟩)]) (cs := [.pointer (some ⟨rb, 0, none⟩), .pointer (some ⟨tb, 0, none⟩)]) rfl rfl ?_
 intro B1 w1 hB1 hU1 hzz1 hb1
 have hzw1 := hU1.size
 replace hB := hB.upd0 hU1
 replace hs := hs.upd0 hU1
 replace hT := hT.upd0 hU1
 replace hE := hE.upd0 hU1
 replace HU := HU.trans0 hU1
 refine Wl_v (r_as (v := .int .u8 0) rfl) ?_
 refine Wl_v (r_as (v := .bool false) rfl) ?_
 refine Wl_nil ?_
 refine W_seq ?_
 refine W_region ?_
 refine Wl_v (r_fld Try.underlying81 rfl Try.sizeOf78 rfl rfl) ?_
 refine Wl_load (v := .pointer (some ⟨rb, 0, none⟩)) Try.isAgg78 rfl hb1 rfl ?_
 refine Wl_call (r_call1 rfl Try.call49 rfl) (bleft_spec _ hB (by omega)) ?_
 rintro v w2 ⟨rfl, hU2⟩
 have hzw2 := hU2.size
 replace hB := hB.upd0 hU2
 replace hs := hs.upd0 hU2
 replace hT := hT.upd0 hU2
 replace hE := hE.upd0 hU2
 replace HU := HU.trans0 hU2
 replace hb1 := hb1.upd0 hU2
 refine Wl_v (r_min rfl rfl) ?_
 refine Wl_v (r_as (v := .int .i64 (min ((t : Nat) : Int) 11)) rfl) ?_
 rw [show (min ((t : Nat) : Int) 11 : Int) = ((min t 11 : Nat) : Int) from by omega]
 refine Wl_nil ?_
 refine W_seq ?_
 refine W_drawt rfl (l0 := tf 0 15) (by kernel_rfl) ?_
 refine Tk 0 (tf 1 15) rfl (YI_v (v := .pointer (some ⟨B1, 1, none⟩)) rfl (fun w' hw' => r_fld Try.underlying81 rfl Try.sizeOf79 rfl rfl)) ?_
 refine Tk 1 (tf 2 15) rfl (YI_v (v := .pointer (some ⟨tb, 0, none⟩)) rfl (fun w' hw' => r_load Try.isAgg79 rfl (by rw [(hb1.upd0 hw').cell]; rfl))) ?_
 refine Tk 2 (tf 3 15) rfl (YI_v (v := .pointer (some ⟨B1, 0, none⟩)) rfl (fun w' hw' => r_fld Try.underlying81 rfl Try.sizeOf78 rfl rfl)) ?_
 refine Tk 3 (tf 4 15) rfl (YI_v (v := .pointer (some ⟨rb, 0, none⟩)) rfl (fun w' hw' => r_load Try.isAgg78 rfl (by rw [(hb1.upd0 hw').cell]; rfl))) ?_
 refine Tk 4 (tf 5 15) rfl (YI_v (v := .int .i64 ((min t 11 : Nat) : Int)) rfl (fun w' hw' => r_mv (v := .int .i64 ((min t 11 : Nat) : Int)) rfl)) ?_
 refine Tk 5 (tf 6 15) rfl (YI_c (v := .int .u64 ((wd (wn b) t (min t 11) : Nat) : Int)) rfl (fun w' => r_call2 rfl Try.call76 rfl rfl) (fun w' hw' => peek_spec w' (hB.upd0 hw') ((hs.upd0 hw')) hb (by omega))) ?_
 refine Tk 6 (tf 7 15) rfl (YI_v (v := .int .i64 ((min t 11 : Nat) : Int)) rfl (fun w' hw' => r_mv (v := .int .i64 ((min t 11 : Nat) : Int)) rfl)) ?_
 refine Tk 7 (tf 8 15) rfl (YI_c (v := .tuple #[.int .i64 ((dec l ((wd (wn b) t (min t 11) : Nat) : Int) ((min t 11 : Nat) : Int)).1), .int .i64 ((dec l ((wd (wn b) t (min t 11) : Nat) : Int) ((min t 11 : Nat) : Int)).2.1), .int .i64 ((dec l ((wd (wn b) t (min t 11) : Nat) : Int) ((min t 11 : Nat) : Int)).2.2)]) rfl (fun w' => r_call3 rfl Try.call75 rfl rfl rfl) (fun w' hw' => tdec w' (hT.upd0 hw') ((hE.upd0 hw').any) (by omega) (by omega) (by omega))) ?_
 refine Tk 8 (tf 9 15) rfl (YI_v (v := .tuple #[.int .i64 ((dec l ((wd (wn b) t (min t 11) : Nat) : Int) ((min t 11 : Nat) : Int)).1), .int .i64 ((dec l ((wd (wn b) t (min t 11) : Nat) : Int) ((min t 11 : Nat) : Int)).2.1), .int .i64 ((dec l ((wd (wn b) t (min t 11) : Nat) : Int) ((min t 11 : Nat) : Int)).2.2)]) rfl (fun w' hw' => r_mv (v := .tuple #[.int .i64 ((dec l ((wd (wn b) t (min t 11) : Nat) : Int) ((min t 11 : Nat) : Int)).1), .int .i64 ((dec l ((wd (wn b) t (min t 11) : Nat) : Int) ((min t 11 : Nat) : Int)).2.1), .int .i64 ((dec l ((wd (wn b) t (min t 11) : Nat) : Int) ((min t 11 : Nat) : Int)).2.2)]) rfl)) ?_
 rw [show dec l ((wd (wn b) t (min t 11) : Nat) : Int) ((min t 11 : Nat) : Int) = nd l (wn b) t from rfl]
 refine Tk 9 (tf 10 15) rfl (YI_v (v := .int .i64 ((nd l (wn b) t).1)) rfl (fun w' hw' => r_ext (v := .int .i64 ((nd l (wn b) t).1)) rfl rfl)) ?_
 refine Tk 10 (tf 11 15) rfl (YI_v (v := .int .i64 ((nd l (wn b) t).2.1)) rfl (fun w' hw' => r_ext (v := .int .i64 ((nd l (wn b) t).2.1)) rfl rfl)) ?_
 refine Tk 11 (tf 12 15) rfl (YI_v (v := .int .i64 ((nd l (wn b) t).2.2)) rfl (fun w' hw' => r_ext (v := .int .i64 ((nd l (wn b) t).2.2)) rfl rfl)) ?_
 refine Tk 12 (tf 13 15) rfl (YI_v (v := .int .i64 ((nd l (wn b) t).1)) rfl (fun w' hw' => r_as (v := .int .i64 ((nd l (wn b) t).1)) rfl)) ?_
 refine Tk 13 (tf 14 15) rfl (YI_v (v := .int .i64 ((nd l (wn b) t).2.1)) rfl (fun w' hw' => r_as (v := .int .i64 ((nd l (wn b) t).2.1)) rfl)) ?_
 refine Tk 14 (tf 15 15) rfl (YI_v (v := .int .i64 ((nd l (wn b) t).2.2)) rfl (fun w' hw' => r_as (v := .int .i64 ((nd l (wn b) t).2.2)) rfl)) ?_
 intro w3 hU3
 have hzw3 := hU3.size
 replace hB := hB.upd0 hU3
 replace hs := hs.upd0 hU3
 replace hT := hT.upd0 hU3
 replace hE := hE.upd0 hU3
 replace HU := HU.trans0 hU3
 replace hb1 := hb1.upd0 hU3
 refine Wa_done (by kernel_rfl) ?_
 refine W_seq ?_
 refine W_seq ?_
 refine W_region ?_
 refine Wl_v (r_mv (v := .int .i64 ((nd l (wn b) t).2.2)) rfl) ?_
 refine Wl_v (r_ne rfl rfl) ?_
 refine Wl_v (r_mv (v := .bool (decide (((nd l (wn b) t).2.2) ≠ 0))) rfl) ?_
 by_cases q1 : ((nd l (wn b) t).2.2) ≠ 0
 ·have herr := nd_err hr q1
  rw [decide_eq_true q1]
  refine Wl_guard_f rfl ?_
  refine Wl_guard_f rfl ?_
  refine Wl_guard_f rfl ?_
  refine Wl_guard_f rfl ?_
  refine Wl_guard_f rfl ?_
  refine Wl_v (r_pick_t (v := .bool true) rfl rfl) ?_
  refine Wl_nil ?_
  refine W_cond_t rfl ?_
  refine W_seq ?_
  refine W_region ?_
  refine Wl_v (r_as (v := .int .u8 0) rfl) ?_
  refine Wl_v (r_as (v := .bool false) rfl) ?_
  refine Wl_nil ?_
  refine W_ret ?_
  refine ret_end (v := .tuple #[.int .u8 0, .bool false]) rfl (res2 Try.results52 rfl rfl) ?_
  exact ⟨_, rfl, (by rw [herr]; rfl), ⟨a, c, ea, ec, la, q, lc, blk3 hB (by rw [herr]; simp), hs, hT, hE, by omega⟩, HU⟩
 ·have hgo : (nd l (wn b) t).2.2 = 0 := by omega
  have hrng := nd_rng hr hgo
  rw [decide_eq_false q1]
  refine Wl_guard_t rfl ?_
  refine Wl_v (r_fld Try.underlying81 rfl Try.sizeOf78 rfl rfl) ?_
  refine Wl_guard_t rfl ?_
  refine Wl_load (v := .pointer (some ⟨rb, 0, none⟩)) Try.isAgg78 rfl hb1 rfl ?_
  refine Wl_guard_t rfl ?_
  refine Wl_v (r_mv (v := .int .i64 ((nd l (wn b) t).2.1)) rfl) ?_
  refine Wl_guard_t rfl ?_
  refine Wl_call (r_call2 rfl Try.call77 rfl rfl) (skip_ok _ hB (by omega)) ?_
  rintro v w4 ⟨rfl, hB24, hU4⟩
  have hzw4 := hU4.size
  replace hs := hs.upd1 hU4 (by intro h1; have h3 : G0 ≤ rb ∧ rb < G1 ∧ rb ≠ rb := h1; omega)
  replace hT := hT.upd1 hU4 (by omega)
  replace hE := hE.upd1 hU4 (by intro h1; have h3 : G0 ≤ rb ∧ rb < G1 ∧ rb ≠ rb := h1; omega)
  replace HU := HU.trans1 hU4 (by show (rb = rb) ∨ w.heap.size ≤ rb; omega)
  have hbl_hB24 := hB24.lt
  refine Wl_guard_t rfl ?_
  refine Wl_v (v := .bool false) (r_ne (a := 0) (b := 0) rfl rfl) ?_
  refine Wl_v (r_pick_f (v := .bool false) rfl rfl) ?_
  refine Wl_nil ?_
  refine W_cond_f rfl ?_
  refine W_skip ?_
  refine W_seq ?_
  refine W_region ?_
  refine Wl_v (r_mv (v := .int .i64 ((nd l (wn b) t).1)) rfl) ?_
  refine Wl_v (r_cvt Try.underlying3 Try.underlying5 rfl (mu8 _)) ?_
  refine Wl_v (r_as (v := .int .u8 (((nd l (wn b) t).1) % 256)) rfl) ?_
  refine Wl_v (r_as (v := .bool true) rfl) ?_
  refine Wl_nil ?_
  refine W_ret ?_
  refine ret_end (v := .tuple #[.int .u8 (((nd l (wn b) t).1) % 256), .bool true]) rfl (res2 Try.results52 rfl rfl) ?_
  exact ⟨_, rfl, (vtup2 (by first | rfl | exact vint (by omega)) (by rw [decide_eq_true (by omega)])), ⟨a, c, ea, ec, la, q, lc, blk3 hB24 (by omega), hs, hT, hE, by omega⟩, HU⟩

set_option maxRecDepth 100000 in
theorem reads_ok {G0 G1 rb tb t : Nat} {l b : List Int} {n : Nat} (w : World) (hR : Rdr w G0 G1 rb tb l b t) (hr : Rt l) (hb : Byt b) (hbl : b.length ≤ 100000 ∧ t ≤ 8 * b.length) (hn : n ≤ 131072) (hg : Gd l b t n) :
  Calls Try.prog 47 #[.agg #[.pointer (some ⟨rb, 0, none⟩), .pointer (some ⟨tb, 0, none⟩)], .int .i64 ((n : Nat) : Int)] w (Ret fun v w' => ∃ (a' : Option Addr) (c' : Nat), v = .slice a' n c' ∧ Own w' (fun g => w.heap.size ≤ g) 5 1 (.slice a' n c') n (ints .u8 (yms l (wn b) t n)) ∧ Rdr w' G0 G1 rb tb l b (st l (wn b) t n) ∧ Upd (Is rb) w w') := by
 have HU : Upd (fun b => b = rb) w w := Upd.refl _ _
 have hrl := hR.lt
 refine calls_of_W Try.func47 rfl Try.ntmps47 (by simp) ?_
 refine W_seq ?_
 refine W_region ?_
 refine Wl_box (v := .agg #[.pointer (some ⟨rb, 0, none⟩), .pointer (some ⟨tb, 0, none⟩)]) (cs := [.pointer (some ⟨rb, 0, none⟩), .pointer (some ⟨tb, 0, none⟩)]) rfl rfl ?_
 intro B1 w1 hB1 hU1 hzz1 hb1
 have hzw1 := hU1.size
 replace hR := hR.upd0 hU1
 replace HU := HU.trans0 hU1
 refine Wl_v (r_as (v := .slice none 0 0) rfl) ?_
 refine Wl_nil ?_
 refine W_seq ?_
 refine W_seq ?_
 refine W_region ?_
 refine Wl_v (r_mv (v := .int .i64 ((n : Nat) : Int)) rfl) ?_
 refine Wl_v (r_mv (v := .int .i64 0) rfl) ?_
 refine Wl_nil ?_
 refine W_block ?_
 refine W_loop (fun mu ρ ds w' => ∃ (k : Nat) (a2 : Option Addr) (c2 : Nat), n - k = mu ∧ ds = [] ∧ Liv ρ [(2, .pointer (some ⟨B1, 0, none⟩)), (4, .slice a2 k c2), (7, .int .i64 ((n : Nat) : Int)), (8, .int .i64 ((k : Nat) : Int))] ∧ k ≤ n ∧ Gd l b t k ∧ Rdr w' G0 G1 rb tb l b (st l (wn b) t k) ∧ Own w' (fun g => w1.heap.size ≤ g) 5 1 (.slice a2 k c2) k (ints .u8 (yms l (wn b) t k)) ∧ Upd (fun g => g = rb ∨ w1.heap.size ≤ g) w1 w') _ ⟨0, none, 0, rfl, rfl, ⟨rfl, (by first | rfl | exact vint (by omega) | exact vint (by simp)), rfl, (by first | rfl | exact vint (by omega) | exact vint (by simp)), trivial⟩, (by omega), (Gd.zero _ _ _), hR, (by simpa [yms, tabn] using Own.nil _ _ _ _), Upd.refl _ _⟩ ?_
 rintro m2 ρ2 ds2 w2 ⟨k, a2, c2, rfl, rfl, hl2, hk, hG, hR, hO, hU2⟩
 obtain ⟨ρ2x, rfl⟩ : ∃ ρx, ρ2 = upds ρx [(2, .pointer (some ⟨B1, 0, none⟩)), (4, .slice a2 k c2), (7, .int .i64 ((n : Nat) : Int)), (8, .int .i64 ((k : Nat) : Int))] := ⟨_, upds_self hl2⟩
 clear hl2
 have hzw2 := hU2.size
 replace HU := HU.trans hU2 (by intro x hx; have hx2 : x = rb ∨ w1.heap.size ≤ x := hx; show (x = rb) ∨ w.heap.size ≤ x; omega)
 replace hb1 := hb1.upd hU2 (by intro hx; have hx2 : B1 = rb ∨ w1.heap.size ≤ B1 := hx; omega)
 have HL2 := hU2
 refine W_seq ?_
 refine W_region ?_
 refine Wl_v (r_lt rfl rfl) ?_
 refine Wl_nil ?_
 refine W_seq ?_
 by_cases q1 : ((k : Nat) : Int) < ((n : Nat) : Int)
 ·have hst := st_le (l := l) (wn b) t k
  have hrl := hR.lt
  replace hO := hO.tight
  rw [decide_eq_true q1]
  refine W_cond_t rfl ?_
  refine W_skip ?_
  refine W_seq ?_
  refine W_block ?_
  refine W_seq ?_
  refine W_region ?_
  refine Wl_v (r_loada (b := B1) (off := 0) (cs := [.pointer (some ⟨rb, 0, none⟩), .pointer (some ⟨tb, 0, none⟩)]) Try.isAgg81 Try.sizeOf81 rfl rfl (fun j hj => by rw [hb1.cell]; match j, hj with | 0, _ => rfl | 1, _ => rfl)) ?_
  refine Wl_call (r_call1 rfl Try.call52 rfl) (next_spec _ hR (by omega) hb (by omega)) ?_
  rintro v w3 ⟨rfl, hR23, hU3⟩
  have hzw3 := hU3.size
  replace hO := hO.upd1 hU3 (by intro h1; have h3 : ((w1.heap.size ≤ rb) ∧ rb < w2.heap.size) := h1; omega)
  replace HL2 := HL2.trans1 hU3 (by show (rb = rb ∨ w1.heap.size ≤ rb) ∨ w1.heap.size ≤ rb; omega)
  refine Wl_v (r_mv (v := .tuple #[.int .u8 ((nd l (wn b) (st l (wn b) t k)).1), .bool (decide ((nd l (wn b) (st l (wn b) t k)).2.2 = 0))]) rfl) ?_
  refine Wl_v (r_ext (v := .int .u8 ((nd l (wn b) (st l (wn b) t k)).1)) rfl rfl) ?_
  refine Wl_v (r_ext (v := .bool (decide ((nd l (wn b) (st l (wn b) t k)).2.2 = 0))) rfl rfl) ?_
  refine Wl_v (r_as (v := .int .u8 ((nd l (wn b) (st l (wn b) t k)).1)) rfl) ?_
  refine Wl_v (r_as (v := .bool (decide ((nd l (wn b) (st l (wn b) t k)).2.2 = 0))) rfl) ?_
  refine Wl_nil ?_
  refine W_seq ?_
  refine W_region ?_
  refine Wl_v (r_mv (v := .bool (decide ((nd l (wn b) (st l (wn b) t k)).2.2 = 0))) rfl) ?_
  have q2 : (nd l (wn b) (st l (wn b) t k)).2.2 = 0 := (hg k (by omega))
  have hgk := q2
  rw [decide_eq_true q2]
  refine Wl_call (r_call2 rfl Try.call48 rfl rfl) (ois_ok _ ) ?_
  rintro v w4 ⟨rfl, hU4⟩
  have hzw4 := hU4.size
  replace hO := hO.upd0 hU4
  replace HL2 := HL2.trans0 hU4
  replace hR23 := hR23.upd0 hU4
  refine Wl_nil ?_
  refine W_region ?_
  refine Wl_v (r_mv (v := .slice a2 k c2) rfl) ?_
  refine Wl_v (r_mv (v := .int .u8 ((nd l (wn b) (st l (wn b) t k)).1)) rfl) ?_
  refine Wl_lit (pv := [(0, .int .u8 ((nd l (wn b) (st l (wn b) t k)).1))]) (cs := [.int .u8 ((nd l (wn b) (st l (wn b) t k)).1)]) Try.underlying23 Try.sizeOf5 Try.zeroValue5 (by decide) (by decide) (by simp only [List.map_toArray, List.map_cons, List.map_nil] <;> rfl) (by kernel_rfl) rfl (by decide) ?_
  intro B5 w5 hB5 hU5 hzz5 hs5
  have hzw5 := hU5.size
  replace hO := hO.upd0 hU5
  replace HL2 := HL2.trans0 hU5
  replace hR23 := hR23.upd0 hU5
  replace hs5 : Own w5 (Is B5) 5 1 (.slice (some ⟨B5, 0, none⟩) 1 1) 1 (ints .u8 [(nd l (wn b) (st l (wn b) t k)).1]) := hs5
  refine Wl_appendi (xs := yms l (wn b) t k) (ys := [(nd l (wn b) (st l (wn b) t k)).1]) (zs := (yms l (wn b) t k) ++ [(nd l (wn b) (st l (wn b) t k)).1]) (k' := .u8) (tot := k + 1) (by first | rfl | exact (rows_app _ _).symm | simp) Try.underlying23 (ti := Try.t5) (z := .int .u8 0) (sz := 1) (by' := 1) rfl rfl rfl rfl rfl (by decide) rfl hO rfl hs5.sl  (by omega) (by simp only [maxLen]; omega) (by omega) ?_
  intro a6 c6 w6 hU6 hzz6 hO6
  clear hO
  have hzw6 := hU6.size
  replace HL2 := HL2.trans hU6 (by intro x hx; have hx2 : ((w1.heap.size ≤ x) ∧ x < w2.heap.size) := hx; show (x = rb ∨ w1.heap.size ≤ x) ∨ w1.heap.size ≤ x; omega)
  replace hR23 := hR23.upd hU6 (by intro x hx; have hx2 : ((w1.heap.size ≤ x) ∧ x < w2.heap.size) := hx; omega)
  replace hO6 := hO6.tight
  have hl_hO6 := ilen hO6.sl
  have hc_hO6 := hO6.sl.cap.1
  refine Wl_v (r_as (v := .slice a6 (k + 1) c6) rfl) ?_
  refine Wl_nil ?_
  refine W_region ?_
  refine Wl_v (r_add rfl rfl (wi64 (by omega) (by omega))) ?_
  refine Wl_v (r_mv (v := .int .i64 (((k : Nat) : Int) + 1)) rfl) ?_
  refine Wl_nil ?_
  refine ⟨_, ?_, (k + 1), a6, c6, rfl, rfl, ⟨rfl, (by first | rfl | exact vint (by omega) | exact vint (by simp)), rfl, (Eq.trans (b := .int .i64 (((k : Nat) : Int) + 1)) rfl (vint (by omega))), trivial⟩, (by omega), (hG.succ hgk), hR23, ((hO6.weak (by intro g hg; have h3 : ((((((w1.heap.size ≤ g) ∧ g < w2.heap.size)) ∨ g = w5.heap.size)) ∧ g < w6.heap.size) := hg; show w1.heap.size ≤ g; omega)).icong (yms_succ _ _ _ _).symm), HL2⟩
  omega
 ·rw [decide_eq_false q1]
  obtain rfl : n = k := by omega
  refine W_cond_f rfl ?_
  refine W_exit ?_
  refine W_seq ?_
  refine W_region ?_
  refine Wl_v (r_mv (v := .slice a2 n c2) rfl) ?_
  refine Wl_v (r_as (v := .slice a2 n c2) rfl) ?_
  refine Wl_nil ?_
  refine W_ret ?_
  refine ret_end (v := .slice a2 n c2) rfl (res1 Try.results47 rfl) ?_
  exact ⟨_, rfl, a2, c2, rfl, (hO.weak (by intro g hg; have h3 : w1.heap.size ≤ g := hg; show w.heap.size ≤ g; omega)), hR, HU⟩

set_option maxRecDepth 100000 in
theorem reads_no {G0 G1 rb tb t : Nat} {l b : List Int} {n : Nat} (w : World) (hR : Rdr w G0 G1 rb tb l b t) (hr : Rt l) (hb : Byt b) (hbl : b.length ≤ 100000 ∧ t ≤ 8 * b.length) (hn : n ≤ 131072) (hg : ¬ Gd l b t n) :
  Calls Try.prog 47 #[.agg #[.pointer (some ⟨rb, 0, none⟩), .pointer (some ⟨tb, 0, none⟩)], .int .i64 ((n : Nat) : Int)] w (Pan (.iface 25 (.int .i64 14)) fun w' => Upd (Is rb) w w') := by
 have HU : Upd (fun b => b = rb) w w := Upd.refl _ _
 have hrl := hR.lt
 refine calls_of_W Try.func47 rfl Try.ntmps47 (by simp) ?_
 refine W_seq ?_
 refine W_region ?_
 refine Wl_box (v := .agg #[.pointer (some ⟨rb, 0, none⟩), .pointer (some ⟨tb, 0, none⟩)]) (cs := [.pointer (some ⟨rb, 0, none⟩), .pointer (some ⟨tb, 0, none⟩)]) rfl rfl ?_
 intro B1 w1 hB1 hU1 hzz1 hb1
 have hzw1 := hU1.size
 replace hR := hR.upd0 hU1
 replace HU := HU.trans0 hU1
 refine Wl_v (r_as (v := .slice none 0 0) rfl) ?_
 refine Wl_nil ?_
 refine W_seq ?_
 refine W_seq ?_
 refine W_region ?_
 refine Wl_v (r_mv (v := .int .i64 ((n : Nat) : Int)) rfl) ?_
 refine Wl_v (r_mv (v := .int .i64 0) rfl) ?_
 refine Wl_nil ?_
 refine W_block ?_
 refine W_loop (fun mu ρ ds w' => ∃ (k : Nat) (a2 : Option Addr) (c2 : Nat), n - k = mu ∧ ds = [] ∧ Liv ρ [(2, .pointer (some ⟨B1, 0, none⟩)), (4, .slice a2 k c2), (7, .int .i64 ((n : Nat) : Int)), (8, .int .i64 ((k : Nat) : Int))] ∧ k ≤ n ∧ Gd l b t k ∧ Rdr w' G0 G1 rb tb l b (st l (wn b) t k) ∧ Own w' (fun g => w1.heap.size ≤ g) 5 1 (.slice a2 k c2) k (ints .u8 (yms l (wn b) t k)) ∧ Upd (fun g => g = rb ∨ w1.heap.size ≤ g) w1 w') _ ⟨0, none, 0, rfl, rfl, ⟨rfl, (by first | rfl | exact vint (by omega) | exact vint (by simp)), rfl, (by first | rfl | exact vint (by omega) | exact vint (by simp)), trivial⟩, (by omega), (Gd.zero _ _ _), hR, (by simpa [yms, tabn] using Own.nil _ _ _ _), Upd.refl _ _⟩ ?_
 rintro m2 ρ2 ds2 w2 ⟨k, a2, c2, rfl, rfl, hl2, hk, hG, hR, hO, hU2⟩
 obtain ⟨ρ2x, rfl⟩ : ∃ ρx, ρ2 = upds ρx [(2, .pointer (some ⟨B1, 0, none⟩)), (4, .slice a2 k c2), (7, .int .i64 ((n : Nat) : Int)), (8, .int .i64 ((k : Nat) : Int))] := ⟨_, upds_self hl2⟩
 clear hl2
 have hzw2 := hU2.size
 replace HU := HU.trans hU2 (by intro x hx; have hx2 : x = rb ∨ w1.heap.size ≤ x := hx; show (x = rb) ∨ w.heap.size ≤ x; omega)
 replace hb1 := hb1.upd hU2 (by intro hx; have hx2 : B1 = rb ∨ w1.heap.size ≤ B1 := hx; omega)
 have HL2 := hU2
 refine W_seq ?_
 refine W_region ?_
 refine Wl_v (r_lt rfl rfl) ?_
 refine Wl_nil ?_
 refine W_seq ?_
 by_cases q1 : ((k : Nat) : Int) < ((n : Nat) : Int)
 ·have hst := st_le (l := l) (wn b) t k
  have hrl := hR.lt
  replace hO := hO.tight
  rw [decide_eq_true q1]
  refine W_cond_t rfl ?_
  refine W_skip ?_
  refine W_seq ?_
  refine W_block ?_
  refine W_seq ?_
  refine W_region ?_
  refine Wl_v (r_loada (b := B1) (off := 0) (cs := [.pointer (some ⟨rb, 0, none⟩), .pointer (some ⟨tb, 0, none⟩)]) Try.isAgg81 Try.sizeOf81 rfl rfl (fun j hj => by rw [hb1.cell]; match j, hj with | 0, _ => rfl | 1, _ => rfl)) ?_
  refine Wl_call (r_call1 rfl Try.call52 rfl) (next_spec _ hR (by omega) hb (by omega)) ?_
  rintro v w3 ⟨rfl, hR23, hU3⟩
  have hzw3 := hU3.size
  replace HU := HU.trans1 hU3 (by show (rb = rb) ∨ w.heap.size ≤ rb; omega)
  replace hO := hO.upd1 hU3 (by intro h1; have h3 : ((w1.heap.size ≤ rb) ∧ rb < w2.heap.size) := h1; omega)
  replace HL2 := HL2.trans1 hU3 (by show (rb = rb ∨ w1.heap.size ≤ rb) ∨ w1.heap.size ≤ rb; omega)
  refine Wl_v (r_mv (v := .tuple #[.int .u8 ((nd l (wn b) (st l (wn b) t k)).1), .bool (decide ((nd l (wn b) (st l (wn b) t k)).2.2 = 0))]) rfl) ?_
  refine Wl_v (r_ext (v := .int .u8 ((nd l (wn b) (st l (wn b) t k)).1)) rfl rfl) ?_
  refine Wl_v (r_ext (v := .bool (decide ((nd l (wn b) (st l (wn b) t k)).2.2 = 0))) rfl rfl) ?_
  refine Wl_v (r_as (v := .int .u8 ((nd l (wn b) (st l (wn b) t k)).1)) rfl) ?_
  refine Wl_v (r_as (v := .bool (decide ((nd l (wn b) (st l (wn b) t k)).2.2 = 0))) rfl) ?_
  refine Wl_nil ?_
  refine W_seq ?_
  refine W_region ?_
  refine Wl_v (r_mv (v := .bool (decide ((nd l (wn b) (st l (wn b) t k)).2.2 = 0))) rfl) ?_
  by_cases q2 : (nd l (wn b) (st l (wn b) t k)).2.2 = 0
  ·have hgk := q2
   rw [decide_eq_true q2]
   refine Wl_call (r_call2 rfl Try.call48 rfl rfl) (ois_ok _ ) ?_
   rintro v w4 ⟨rfl, hU4⟩
   have hzw4 := hU4.size
   replace hO := hO.upd0 hU4
   replace HL2 := HL2.trans0 hU4
   replace hR23 := hR23.upd0 hU4
   refine Wl_nil ?_
   refine W_region ?_
   refine Wl_v (r_mv (v := .slice a2 k c2) rfl) ?_
   refine Wl_v (r_mv (v := .int .u8 ((nd l (wn b) (st l (wn b) t k)).1)) rfl) ?_
   refine Wl_lit (pv := [(0, .int .u8 ((nd l (wn b) (st l (wn b) t k)).1))]) (cs := [.int .u8 ((nd l (wn b) (st l (wn b) t k)).1)]) Try.underlying23 Try.sizeOf5 Try.zeroValue5 (by decide) (by decide) (by simp only [List.map_toArray, List.map_cons, List.map_nil] <;> rfl) (by kernel_rfl) rfl (by decide) ?_
   intro B5 w5 hB5 hU5 hzz5 hs5
   have hzw5 := hU5.size
   replace hO := hO.upd0 hU5
   replace HL2 := HL2.trans0 hU5
   replace hR23 := hR23.upd0 hU5
   replace hs5 : Own w5 (Is B5) 5 1 (.slice (some ⟨B5, 0, none⟩) 1 1) 1 (ints .u8 [(nd l (wn b) (st l (wn b) t k)).1]) := hs5
   refine Wl_appendi (xs := yms l (wn b) t k) (ys := [(nd l (wn b) (st l (wn b) t k)).1]) (zs := (yms l (wn b) t k) ++ [(nd l (wn b) (st l (wn b) t k)).1]) (k' := .u8) (tot := k + 1) (by first | rfl | exact (rows_app _ _).symm | simp) Try.underlying23 (ti := Try.t5) (z := .int .u8 0) (sz := 1) (by' := 1) rfl rfl rfl rfl rfl (by decide) rfl hO rfl hs5.sl  (by omega) (by simp only [maxLen]; omega) (by omega) ?_
   intro a6 c6 w6 hU6 hzz6 hO6
   clear hO
   have hzw6 := hU6.size
   replace HL2 := HL2.trans hU6 (by intro x hx; have hx2 : ((w1.heap.size ≤ x) ∧ x < w2.heap.size) := hx; show (x = rb ∨ w1.heap.size ≤ x) ∨ w1.heap.size ≤ x; omega)
   replace hR23 := hR23.upd hU6 (by intro x hx; have hx2 : ((w1.heap.size ≤ x) ∧ x < w2.heap.size) := hx; omega)
   replace hO6 := hO6.tight
   have hl_hO6 := ilen hO6.sl
   have hc_hO6 := hO6.sl.cap.1
   refine Wl_v (r_as (v := .slice a6 (k + 1) c6) rfl) ?_
   refine Wl_nil ?_
   refine W_region ?_
   refine Wl_v (r_add rfl rfl (wi64 (by omega) (by omega))) ?_
   refine Wl_v (r_mv (v := .int .i64 (((k : Nat) : Int) + 1)) rfl) ?_
   refine Wl_nil ?_
   refine ⟨_, ?_, (k + 1), a6, c6, rfl, rfl, ⟨rfl, (by first | rfl | exact vint (by omega) | exact vint (by simp)), rfl, (Eq.trans (b := .int .i64 (((k : Nat) : Int) + 1)) rfl (vint (by omega))), trivial⟩, (by omega), (hG.succ hgk), hR23, ((hO6.weak (by intro g hg; have h3 : ((((((w1.heap.size ≤ g) ∧ g < w2.heap.size)) ∨ g = w5.heap.size)) ∧ g < w6.heap.size) := hg; show w1.heap.size ≤ g; omega)).icong (yms_succ _ _ _ _).symm), HL2⟩
   omega
  ·rw [decide_eq_false q2]
   refine Wl_callp (r_call2 rfl Try.call48 rfl rfl) (ois_no _ ) ?_
   intro w7 hU7
   have hzw7 := hU7.size
   replace HU := HU.trans0 hU7
   refine pan_ds rfl ?_
   refine lv_panic ?_
   exact ⟨rfl, HU⟩
 ·exact absurd (hG.le (k := n) (by omega)) hg

set_option maxRecDepth 100000 in
theorem dcl_ok {G0 G1 rb tb t : Nat} {l b : List Int} {bn n : Nat} (w : World) (hN : Blk w bn [.int .i64 ((n : Nat) : Int)]) (hR : Rdr w G0 G1 rb tb l b t) (hr : Rt l) (hb : Byt b) (hbl : b.length ≤ 100000 ∧ t ≤ 8 * b.length) (hn : n ≤ 131072) (hg : Gd l b t n ∧ st l (wn b) t n = 0) (hne : bn < G0 ∨ G1 ≤ bn) :
  Calls Try.prog 46 #[.agg #[.pointer (some ⟨rb, 0, none⟩), .pointer (some ⟨tb, 0, none⟩)], .pointer (some ⟨bn, 0, none⟩)] w (Ret fun v w' => ∃ (a' : Option Addr) (c' : Nat), v = .slice a' n c' ∧ Own w' (fun g => w.heap.size ≤ g) 5 1 (.slice a' n c') n (ints .u8 (yms l (wn b) t n)) ∧ Upd (Is rb) w w') := by
 have HU : Upd (fun b => b = rb) w w := Upd.refl _ _
 have hbl_hN := hN.lt
 have hrl := hR.lt
 have hstn := st_le (l := l) (wn b) t n
 have hg2 := hg.2
 refine calls_of_W Try.func46 rfl Try.ntmps46 (by simp) ?_
 refine W_seq ?_
 refine W_region ?_
 refine Wl_box (v := .agg #[.pointer (some ⟨rb, 0, none⟩), .pointer (some ⟨tb, 0, none⟩)]) (cs := [.pointer (some ⟨rb, 0, none⟩), .pointer (some ⟨tb, 0, none⟩)]) rfl rfl ?_
 intro B1 w1 hB1 hU1 hzz1 hb1
 have hzw1 := hU1.size
 replace hN := hN.upd0 hU1
 replace hR := hR.upd0 hU1
 replace HU := HU.trans0 hU1
 refine Wl_v (r_as (v := .slice none 0 0) rfl) ?_
 refine Wl_nil ?_
 refine W_seq ?_
 refine W_region ?_
 refine Wl_v (r_loada (b := B1) (off := 0) (cs := [.pointer (some ⟨rb, 0, none⟩), .pointer (some ⟨tb, 0, none⟩)]) Try.isAgg81 Try.sizeOf81 rfl rfl (fun j hj => by rw [hb1.cell]; match j, hj with | 0, _ => rfl | 1, _ => rfl)) ?_
 refine Wl_load (v := .int .i64 ((n : Nat) : Int)) Try.isAgg3 rfl hN rfl ?_
 have q1 : Gd l b t n := hg.1
 refine Wl_call (r_call2 rfl Try.call47 rfl rfl) (reads_ok _ hR (by omega) hb (by omega) (by omega) q1) ?_
 rintro v w2 ⟨a2, c2, rfl, hO2, hR22, hU2⟩
 have hzw2 := hU2.size
 replace HU := HU.trans1 hU2 (by show (rb = rb) ∨ w.heap.size ≤ rb; omega)
 replace hb1 := hb1.upd1 hU2 (by omega)
 replace hO2 := hO2.tight
 have hl_hO2 := ilen hO2.sl
 have hc_hO2 := hO2.sl.cap.1
 refine Wl_v (r_as (v := .slice a2 n c2) rfl) ?_
 refine Wl_nil ?_
 refine W_seq ?_
 refine W_region ?_
 refine Wl_v (r_fld Try.underlying81 rfl Try.sizeOf78 rfl rfl) ?_
 refine Wl_load (v := .pointer (some ⟨rb, 0, none⟩)) Try.isAgg78 rfl hb1 rfl ?_
 refine Wl_call (r_call1 rfl Try.call49 rfl) (rleft _ hR22 (by omega)) ?_
 rintro v w3 ⟨rfl, hU3⟩
 have hzw3 := hU3.size
 replace HU := HU.trans0 hU3
 replace hO2 := hO2.upd0 hU3
 refine Wl_v (r_eq rfl rfl) ?_
 have q2 : (((st l (wn b) t n) : Nat) : Int) = 0 := (by omega)
 rw [decide_eq_true q2]
 refine Wl_call (r_call2 rfl Try.call48 rfl rfl) (ois_ok _ ) ?_
 rintro v w4 ⟨rfl, hU4⟩
 have hzw4 := hU4.size
 replace HU := HU.trans0 hU4
 replace hO2 := hO2.upd0 hU4
 refine Wl_nil ?_
 refine W_seq ?_
 refine W_region ?_
 refine Wl_v (r_mv (v := .slice a2 n c2) rfl) ?_
 refine Wl_v (r_as (v := .slice a2 n c2) rfl) ?_
 refine Wl_nil ?_
 refine W_ret ?_
 refine ret_end (v := .slice a2 n c2) rfl (res1 Try.results46 rfl) ?_
 exact ⟨_, rfl, a2, c2, rfl, (hO2.weak (by intro g hg; have h3 : ((w1.heap.size ≤ g) ∧ g < w2.heap.size) := hg; show w.heap.size ≤ g; omega)), HU⟩

set_option maxRecDepth 100000 in
theorem dcl_no {G0 G1 rb tb t : Nat} {l b : List Int} {bn n : Nat} (w : World) (hN : Blk w bn [.int .i64 ((n : Nat) : Int)]) (hR : Rdr w G0 G1 rb tb l b t) (hr : Rt l) (hb : Byt b) (hbl : b.length ≤ 100000 ∧ t ≤ 8 * b.length) (hn : n ≤ 131072) (hg : ¬ (Gd l b t n ∧ st l (wn b) t n = 0)) (hne : bn < G0 ∨ G1 ≤ bn) :
  Calls Try.prog 46 #[.agg #[.pointer (some ⟨rb, 0, none⟩), .pointer (some ⟨tb, 0, none⟩)], .pointer (some ⟨bn, 0, none⟩)] w (Pan (.iface 25 (.int .i64 14)) fun w' => Upd (Is rb) w w') := by
 have HU : Upd (fun b => b = rb) w w := Upd.refl _ _
 have hbl_hN := hN.lt
 have hrl := hR.lt
 have hstn := st_le (l := l) (wn b) t n
 refine calls_of_W Try.func46 rfl Try.ntmps46 (by simp) ?_
 refine W_seq ?_
 refine W_region ?_
 refine Wl_box (v := .agg #[.pointer (some ⟨rb, 0, none⟩), .pointer (some ⟨tb, 0, none⟩)]) (cs := [.pointer (some ⟨rb, 0, none⟩), .pointer (some ⟨tb, 0, none⟩)]) rfl rfl ?_
 intro B1 w1 hB1 hU1 hzz1 hb1
 have hzw1 := hU1.size
 replace hN := hN.upd0 hU1
 replace hR := hR.upd0 hU1
 replace HU := HU.trans0 hU1
 refine Wl_v (r_as (v := .slice none 0 0) rfl) ?_
 refine Wl_nil ?_
 refine W_seq ?_
 refine W_region ?_
 refine Wl_v (r_loada (b := B1) (off := 0) (cs := [.pointer (some ⟨rb, 0, none⟩), .pointer (some ⟨tb, 0, none⟩)]) Try.isAgg81 Try.sizeOf81 rfl rfl (fun j hj => by rw [hb1.cell]; match j, hj with | 0, _ => rfl | 1, _ => rfl)) ?_
 refine Wl_load (v := .int .i64 ((n : Nat) : Int)) Try.isAgg3 rfl hN rfl ?_
 by_cases q1 : Gd l b t n
 ·refine Wl_call (r_call2 rfl Try.call47 rfl rfl) (reads_ok _ hR (by omega) hb (by omega) (by omega) q1) ?_
  rintro v w2 ⟨a2, c2, rfl, hO2, hR22, hU2⟩
  have hzw2 := hU2.size
  replace HU := HU.trans1 hU2 (by show (rb = rb) ∨ w.heap.size ≤ rb; omega)
  replace hb1 := hb1.upd1 hU2 (by omega)
  replace hO2 := hO2.tight
  have hl_hO2 := ilen hO2.sl
  have hc_hO2 := hO2.sl.cap.1
  refine Wl_v (r_as (v := .slice a2 n c2) rfl) ?_
  refine Wl_nil ?_
  refine W_seq ?_
  refine W_region ?_
  refine Wl_v (r_fld Try.underlying81 rfl Try.sizeOf78 rfl rfl) ?_
  refine Wl_load (v := .pointer (some ⟨rb, 0, none⟩)) Try.isAgg78 rfl hb1 rfl ?_
  refine Wl_call (r_call1 rfl Try.call49 rfl) (rleft _ hR22 (by omega)) ?_
  rintro v w3 ⟨rfl, hU3⟩
  have hzw3 := hU3.size
  replace HU := HU.trans0 hU3
  refine Wl_v (r_eq rfl rfl) ?_
  have q2 : ¬ ((((st l (wn b) t n) : Nat) : Int) = 0) := (fun h => hg ⟨q1, by omega⟩)
  rw [decide_eq_false q2]
  refine Wl_callp (r_call2 rfl Try.call48 rfl rfl) (ois_no _ ) ?_
  intro w4 hU4
  have hzw4 := hU4.size
  replace HU := HU.trans0 hU4
  refine pan_ds rfl ?_
  refine lv_panic ?_
  exact ⟨rfl, HU⟩
 ·refine Wl_callp (r_call2 rfl Try.call47 rfl rfl) (reads_no _ hR (by omega) hb (by omega) (by omega) q1) ?_
  intro w5 hU5
  have hzw5 := hU5.size
  replace HU := HU.trans1 hU5 (by show (rb = rb) ∨ w.heap.size ≤ rb; omega)
  refine pan_ds rfl ?_
  refine lv_panic ?_
  exact ⟨rfl, HU⟩

set_option maxRecDepth 100000 in
theorem pcl_ok {G0 G1 rb tb t : Nat} {l b : List Int} {bn n : Nat} (w : World) (hN : Blk w bn [.int .i64 ((n : Nat) : Int)]) (hR : Rdr w G0 G1 rb tb l b t) (hr : Rt l) (hb : Byt b) (hbl : b.length ≤ 100000 ∧ t ≤ 8 * b.length) (hn : n ≤ 131072) (hg : Gd l b t n) (hne : bn < G0 ∨ G1 ≤ bn) :
  Calls Try.prog 53 #[.agg #[.pointer (some ⟨rb, 0, none⟩), .pointer (some ⟨tb, 0, none⟩)], .pointer (some ⟨bn, 0, none⟩)] w (Ret fun v w' => ∃ (a' : Option Addr) (c' : Nat), v = .slice a' n c' ∧ Own w' (fun g => w.heap.size ≤ g) 5 1 (.slice a' n c') n (ints .u8 (yms l (wn b) t n)) ∧ Upd (Is rb) w w') := by
 have HU : Upd (fun b => b = rb) w w := Upd.refl _ _
 have hbl_hN := hN.lt
 have hrl := hR.lt
 have hstn := st_le (l := l) (wn b) t n
 refine calls_of_W Try.func53 rfl Try.ntmps53 (by simp) ?_
 refine W_seq ?_
 refine W_region ?_
 refine Wl_box (v := .agg #[.pointer (some ⟨rb, 0, none⟩), .pointer (some ⟨tb, 0, none⟩)]) (cs := [.pointer (some ⟨rb, 0, none⟩), .pointer (some ⟨tb, 0, none⟩)]) rfl rfl ?_
 intro B1 w1 hB1 hU1 hzz1 hb1
 have hzw1 := hU1.size
 replace hN := hN.upd0 hU1
 replace hR := hR.upd0 hU1
 replace HU := HU.trans0 hU1
 refine Wl_v (r_as (v := .slice none 0 0) rfl) ?_
 refine Wl_nil ?_
 refine W_seq ?_
 refine W_region ?_
 refine Wl_v (r_loada (b := B1) (off := 0) (cs := [.pointer (some ⟨rb, 0, none⟩), .pointer (some ⟨tb, 0, none⟩)]) Try.isAgg81 Try.sizeOf81 rfl rfl (fun j hj => by rw [hb1.cell]; match j, hj with | 0, _ => rfl | 1, _ => rfl)) ?_
 refine Wl_load (v := .int .i64 ((n : Nat) : Int)) Try.isAgg3 rfl hN rfl ?_
 have q1 : Gd l b t n := hg
 refine Wl_call (r_call2 rfl Try.call47 rfl rfl) (reads_ok _ hR (by omega) hb (by omega) (by omega) q1) ?_
 rintro v w2 ⟨a2, c2, rfl, hO2, hR22, hU2⟩
 have hzw2 := hU2.size
 replace HU := HU.trans1 hU2 (by show (rb = rb) ∨ w.heap.size ≤ rb; omega)
 replace hO2 := hO2.tight
 have hl_hO2 := ilen hO2.sl
 have hc_hO2 := hO2.sl.cap.1
 refine Wl_v (r_as (v := .slice a2 n c2) rfl) ?_
 refine Wl_nil ?_
 refine W_ret ?_
 refine ret_end (v := .slice a2 n c2) rfl (res1 Try.results53 rfl) ?_
 exact ⟨_, rfl, a2, c2, rfl, (hO2.weak (by intro g hg; have h3 : ((w1.heap.size ≤ g) ∧ g < w2.heap.size) := hg; show w.heap.size ≤ g; omega)), HU⟩

set_option maxRecDepth 100000 in
theorem pcl_no {G0 G1 rb tb t : Nat} {l b : List Int} {bn n : Nat} (w : World) (hN : Blk w bn [.int .i64 ((n : Nat) : Int)]) (hR : Rdr w G0 G1 rb tb l b t) (hr : Rt l) (hb : Byt b) (hbl : b.length ≤ 100000 ∧ t ≤ 8 * b.length) (hn : n ≤ 131072) (hg : ¬ Gd l b t n) (hne : bn < G0 ∨ G1 ≤ bn) :
  Calls Try.prog 53 #[.agg #[.pointer (some ⟨rb, 0, none⟩), .pointer (some ⟨tb, 0, none⟩)], .pointer (some ⟨bn, 0, none⟩)] w (Pan (.iface 25 (.int .i64 14)) fun w' => Upd (Is rb) w w') := by
 have HU : Upd (fun b => b = rb) w w := Upd.refl _ _
 have hbl_hN := hN.lt
 have hrl := hR.lt
 have hstn := st_le (l := l) (wn b) t n
 refine calls_of_W Try.func53 rfl Try.ntmps53 (by simp) ?_
 refine W_seq ?_
 refine W_region ?_
 refine Wl_box (v := .agg #[.pointer (some ⟨rb, 0, none⟩), .pointer (some ⟨tb, 0, none⟩)]) (cs := [.pointer (some ⟨rb, 0, none⟩), .pointer (some ⟨tb, 0, none⟩)]) rfl rfl ?_
 intro B1 w1 hB1 hU1 hzz1 hb1
 have hzw1 := hU1.size
 replace hN := hN.upd0 hU1
 replace hR := hR.upd0 hU1
 replace HU := HU.trans0 hU1
 refine Wl_v (r_as (v := .slice none 0 0) rfl) ?_
 refine Wl_nil ?_
 refine W_seq ?_
 refine W_region ?_
 refine Wl_v (r_loada (b := B1) (off := 0) (cs := [.pointer (some ⟨rb, 0, none⟩), .pointer (some ⟨tb, 0, none⟩)]) Try.isAgg81 Try.sizeOf81 rfl rfl (fun j hj => by rw [hb1.cell]; match j, hj with | 0, _ => rfl | 1, _ => rfl)) ?_
 refine Wl_load (v := .int .i64 ((n : Nat) : Int)) Try.isAgg3 rfl hN rfl ?_
 have q1 : ¬ (Gd l b t n) := hg
 refine Wl_callp (r_call2 rfl Try.call47 rfl rfl) (reads_no _ hR (by omega) hb (by omega) (by omega) q1) ?_
 intro w2 hU2
 have hzw2 := hU2.size
 replace HU := HU.trans1 hU2 (by show (rb = rb) ∨ w.heap.size ≤ rb; omega)
 refine pan_ds rfl ?_
 refine lv_panic ?_
 exact ⟨rfl, HU⟩

set_option maxRecDepth 100000 in
theorem ccl_ok {G0 G1 rb tb t : Nat} {l b : List Int} (w : World) (hR : Rdr w G0 G1 rb tb l b t) (hr : Rt l) (hb : Byt b) (hbl : b.length ≤ 100000 ∧ t ≤ 8 * b.length) (hg : st l (wn b) t (nb l (wn b) t) = 0) :
  Calls Try.prog 51 #[.agg #[.pointer (some ⟨rb, 0, none⟩), .pointer (some ⟨tb, 0, none⟩)]] w (Ret fun v w' => v = .int .i64 ((nb l (wn b) t : Nat) : Int) ∧ Upd (Is rb) w w') := by
 have HU : Upd (fun b => b = rb) w w := Upd.refl _ _
 have hrl := hR.lt
 refine calls_of_W Try.func51 rfl Try.ntmps51 (by simp) ?_
 refine W_seq ?_
 refine W_region ?_
 refine Wl_box (v := .agg #[.pointer (some ⟨rb, 0, none⟩), .pointer (some ⟨tb, 0, none⟩)]) (cs := [.pointer (some ⟨rb, 0, none⟩), .pointer (some ⟨tb, 0, none⟩)]) rfl rfl ?_
 intro B1 w1 hB1 hU1 hzz1 hb1
 have hzw1 := hU1.size
 replace hR := hR.upd0 hU1
 replace HU := HU.trans0 hU1
 refine Wl_v (r_as (v := .int .i64 0) rfl) ?_
 refine Wl_nil ?_
 refine W_seq ?_
 refine W_block ?_
 refine W_loop (fun mu ρ ds w' => ∃ (k : Nat), st l (wn b) t k = mu ∧ ds = [] ∧ Liv ρ [(1, .pointer (some ⟨B1, 0, none⟩)), (2, .int .i64 ((k : Nat) : Int))] ∧ Gd l b t k ∧ k ≤ 1000000 ∧ st l (wn b) t k ≤ t ∧ Rdr w' G0 G1 rb tb l b (st l (wn b) t k) ∧ Upd (Is rb) w1 w') _ ⟨0, rfl, rfl, ⟨rfl, (Eq.trans (b := .int .i64 0) rfl (vint (by simp))), trivial⟩, (Gd.zero _ _ _), (by omega), (st_le _ _ _), hR, Upd.refl _ _⟩ ?_
 rintro m2 ρ2 ds2 w2 ⟨k, rfl, rfl, hl2, hG, hkb, hst, hR, hU2⟩
 obtain ⟨ρ2x, rfl⟩ : ∃ ρx, ρ2 = upds ρx [(1, .pointer (some ⟨B1, 0, none⟩)), (2, .int .i64 ((k : Nat) : Int))] := ⟨_, upds_self hl2⟩
 clear hl2
 have hzw2 := hU2.size
 replace HU := HU.trans1 hU2 (by show (rb = rb) ∨ w.heap.size ≤ rb; omega)
 replace hb1 := hb1.upd1 hU2 (by omega)
 have HL2 := hU2
 refine W_seq ?_
 refine W_seq ?_
 refine W_region ?_
 refine Wl_v (r_fld Try.underlying81 rfl Try.sizeOf78 rfl rfl) ?_
 refine Wl_load (v := .pointer (some ⟨rb, 0, none⟩)) Try.isAgg78 rfl hb1 rfl ?_
 refine Wl_call (r_call1 rfl Try.call49 rfl) (rleft _ hR (by omega)) ?_
 rintro v w3 ⟨rfl, hU3⟩
 have hzw3 := hU3.size
 replace HU := HU.trans0 hU3
 replace hb1 := hb1.upd0 hU3
 replace hR := hR.upd0 hU3
 replace HL2 := HL2.trans0 hU3
 refine Wl_v (r_gt rfl rfl) ?_
 refine Wl_nil ?_
 by_cases q1 : 0 < (((st l (wn b) t k) : Nat) : Int)
 ·have hsg := st_go hr hG
  have hrl := hR.lt
  have hs1 : st l (wn b) t (k + 1) = st l (wn b) t k - (nd l (wn b) (st l (wn b) t k)).2.1.toNat := rfl
  rw [decide_eq_true q1]
  refine W_cond_t rfl ?_
  refine W_skip ?_
  refine W_block ?_
  refine W_seq ?_
  refine W_region ?_
  refine Wl_v (r_loada (b := B1) (off := 0) (cs := [.pointer (some ⟨rb, 0, none⟩), .pointer (some ⟨tb, 0, none⟩)]) Try.isAgg81 Try.sizeOf81 rfl rfl (fun j hj => by rw [hb1.cell]; match j, hj with | 0, _ => rfl | 1, _ => rfl)) ?_
  refine Wl_call (r_call1 rfl Try.call52 rfl) (next_spec _ hR (by omega) hb (by omega)) ?_
  rintro v w4 ⟨rfl, hR24, hU4⟩
  have hzw4 := hU4.size
  replace HL2 := HL2.trans1 hU4 (by show (rb = rb) ∨ w1.heap.size ≤ rb; omega)
  refine Wl_v (r_mv (v := .tuple #[.int .u8 ((nd l (wn b) (st l (wn b) t k)).1), .bool (decide ((nd l (wn b) (st l (wn b) t k)).2.2 = 0))]) rfl) ?_
  refine Wl_v (r_ext (v := .int .u8 ((nd l (wn b) (st l (wn b) t k)).1)) rfl rfl) ?_
  refine Wl_v (r_ext (v := .bool (decide ((nd l (wn b) (st l (wn b) t k)).2.2 = 0))) rfl rfl) ?_
  refine Wl_v (r_as (v := .int .u8 ((nd l (wn b) (st l (wn b) t k)).1)) rfl) ?_
  refine Wl_v (r_as (v := .bool (decide ((nd l (wn b) (st l (wn b) t k)).2.2 = 0))) rfl) ?_
  refine Wl_nil ?_
  refine W_seq ?_
  refine W_region ?_
  refine Wl_v (r_mv (v := .bool (decide ((nd l (wn b) (st l (wn b) t k)).2.2 = 0))) rfl) ?_
  have q2 : (nd l (wn b) (st l (wn b) t k)).2.2 = 0 := (Classical.byContradiction fun h => by rw [nb_eq hr hG h] at hg; omega)
  have hgk := q2
  have hrng := nd_rng hr hgk
  rw [decide_eq_true q2]
  refine Wl_call (r_call2 rfl Try.call48 rfl rfl) (ois_ok _ ) ?_
  rintro v w5 ⟨rfl, hU5⟩
  have hzw5 := hU5.size
  replace HL2 := HL2.trans0 hU5
  replace hR24 := hR24.upd0 hU5
  refine Wl_nil ?_
  refine W_region ?_
  refine Wl_v (r_mv (v := .int .i64 ((k : Nat) : Int)) rfl) ?_
  refine Wl_v (r_add rfl rfl (wi64 (by omega) (by omega))) ?_
  refine Wl_v (r_as (v := .int .i64 (((k : Nat) : Int) + 1)) rfl) ?_
  refine Wl_nil ?_
  refine ⟨_, ?_, (k + 1), rfl, rfl, ⟨rfl, (Eq.trans (b := .int .i64 (((k : Nat) : Int) + 1)) rfl (vint (by omega))), trivial⟩, (hG.succ hgk), (by omega), (st_le _ _ _), hR24, HL2⟩
  omega
 ·have hkn := nb_stop hr hG (show st l (wn b) t k = 0 from by omega)
  rw [decide_eq_false q1]
  refine W_cond_f rfl ?_
  refine W_exit ?_
  refine W_seq ?_
  refine W_region ?_
  refine Wl_v (r_mv (v := .int .i64 ((k : Nat) : Int)) rfl) ?_
  refine Wl_v (r_as (v := .int .i64 ((k : Nat) : Int)) rfl) ?_
  refine Wl_nil ?_
  refine W_ret ?_
  refine ret_end (v := .int .i64 ((k : Nat) : Int)) rfl (res1 Try.results51 rfl) ?_
  exact ⟨_, rfl, (by rw [hkn]), HU⟩

set_option maxRecDepth 100000 in
theorem ccl_no {G0 G1 rb tb t : Nat} {l b : List Int} (w : World) (hR : Rdr w G0 G1 rb tb l b t) (hr : Rt l) (hb : Byt b) (hbl : b.length ≤ 100000 ∧ t ≤ 8 * b.length) (hg : ¬ (st l (wn b) t (nb l (wn b) t) = 0)) :
  Calls Try.prog 51 #[.agg #[.pointer (some ⟨rb, 0, none⟩), .pointer (some ⟨tb, 0, none⟩)]] w (Pan (.iface 25 (.int .i64 14)) fun w' => Upd (Is rb) w w') := by
 have HU : Upd (fun b => b = rb) w w := Upd.refl _ _
 have hrl := hR.lt
 refine calls_of_W Try.func51 rfl Try.ntmps51 (by simp) ?_
 refine W_seq ?_
 refine W_region ?_
 refine Wl_box (v := .agg #[.pointer (some ⟨rb, 0, none⟩), .pointer (some ⟨tb, 0, none⟩)]) (cs := [.pointer (some ⟨rb, 0, none⟩), .pointer (some ⟨tb, 0, none⟩)]) rfl rfl ?_
 intro B1 w1 hB1 hU1 hzz1 hb1
 have hzw1 := hU1.size
 replace hR := hR.upd0 hU1
 replace HU := HU.trans0 hU1
 refine Wl_v (r_as (v := .int .i64 0) rfl) ?_
 refine Wl_nil ?_
 refine W_seq ?_
 refine W_block ?_
 refine W_loop (fun mu ρ ds w' => ∃ (k : Nat), st l (wn b) t k = mu ∧ ds = [] ∧ Liv ρ [(1, .pointer (some ⟨B1, 0, none⟩)), (2, .int .i64 ((k : Nat) : Int))] ∧ Gd l b t k ∧ k ≤ 1000000 ∧ st l (wn b) t k ≤ t ∧ Rdr w' G0 G1 rb tb l b (st l (wn b) t k) ∧ Upd (Is rb) w1 w') _ ⟨0, rfl, rfl, ⟨rfl, (Eq.trans (b := .int .i64 0) rfl (vint (by simp))), trivial⟩, (Gd.zero _ _ _), (by omega), (st_le _ _ _), hR, Upd.refl _ _⟩ ?_
 rintro m2 ρ2 ds2 w2 ⟨k, rfl, rfl, hl2, hG, hkb, hst, hR, hU2⟩
 obtain ⟨ρ2x, rfl⟩ : ∃ ρx, ρ2 = upds ρx [(1, .pointer (some ⟨B1, 0, none⟩)), (2, .int .i64 ((k : Nat) : Int))] := ⟨_, upds_self hl2⟩
 clear hl2
 have hzw2 := hU2.size
 replace HU := HU.trans1 hU2 (by show (rb = rb) ∨ w.heap.size ≤ rb; omega)
 replace hb1 := hb1.upd1 hU2 (by omega)
 have HL2 := hU2
 refine W_seq ?_
 refine W_seq ?_
 refine W_region ?_
 refine Wl_v (r_fld Try.underlying81 rfl Try.sizeOf78 rfl rfl) ?_
 refine Wl_load (v := .pointer (some ⟨rb, 0, none⟩)) Try.isAgg78 rfl hb1 rfl ?_
 refine Wl_call (r_call1 rfl Try.call49 rfl) (rleft _ hR (by omega)) ?_
 rintro v w3 ⟨rfl, hU3⟩
 have hzw3 := hU3.size
 replace HU := HU.trans0 hU3
 replace hb1 := hb1.upd0 hU3
 replace hR := hR.upd0 hU3
 replace HL2 := HL2.trans0 hU3
 refine Wl_v (r_gt rfl rfl) ?_
 refine Wl_nil ?_
 by_cases q1 : 0 < (((st l (wn b) t k) : Nat) : Int)
 ·have hsg := st_go hr hG
  have hrl := hR.lt
  have hs1 : st l (wn b) t (k + 1) = st l (wn b) t k - (nd l (wn b) (st l (wn b) t k)).2.1.toNat := rfl
  rw [decide_eq_true q1]
  refine W_cond_t rfl ?_
  refine W_skip ?_
  refine W_block ?_
  refine W_seq ?_
  refine W_region ?_
  refine Wl_v (r_loada (b := B1) (off := 0) (cs := [.pointer (some ⟨rb, 0, none⟩), .pointer (some ⟨tb, 0, none⟩)]) Try.isAgg81 Try.sizeOf81 rfl rfl (fun j hj => by rw [hb1.cell]; match j, hj with | 0, _ => rfl | 1, _ => rfl)) ?_
  refine Wl_call (r_call1 rfl Try.call52 rfl) (next_spec _ hR (by omega) hb (by omega)) ?_
  rintro v w4 ⟨rfl, hR24, hU4⟩
  have hzw4 := hU4.size
  replace HU := HU.trans1 hU4 (by show (rb = rb) ∨ w.heap.size ≤ rb; omega)
  replace HL2 := HL2.trans1 hU4 (by show (rb = rb) ∨ w1.heap.size ≤ rb; omega)
  refine Wl_v (r_mv (v := .tuple #[.int .u8 ((nd l (wn b) (st l (wn b) t k)).1), .bool (decide ((nd l (wn b) (st l (wn b) t k)).2.2 = 0))]) rfl) ?_
  refine Wl_v (r_ext (v := .int .u8 ((nd l (wn b) (st l (wn b) t k)).1)) rfl rfl) ?_
  refine Wl_v (r_ext (v := .bool (decide ((nd l (wn b) (st l (wn b) t k)).2.2 = 0))) rfl rfl) ?_
  refine Wl_v (r_as (v := .int .u8 ((nd l (wn b) (st l (wn b) t k)).1)) rfl) ?_
  refine Wl_v (r_as (v := .bool (decide ((nd l (wn b) (st l (wn b) t k)).2.2 = 0))) rfl) ?_
  refine Wl_nil ?_
  refine W_seq ?_
  refine W_region ?_
  refine Wl_v (r_mv (v := .bool (decide ((nd l (wn b) (st l (wn b) t k)).2.2 = 0))) rfl) ?_
  by_cases q2 : (nd l (wn b) (st l (wn b) t k)).2.2 = 0
  ·have hgk := q2
   have hrng := nd_rng hr hgk
   rw [decide_eq_true q2]
   refine Wl_call (r_call2 rfl Try.call48 rfl rfl) (ois_ok _ ) ?_
   rintro v w5 ⟨rfl, hU5⟩
   have hzw5 := hU5.size
   replace HL2 := HL2.trans0 hU5
   replace hR24 := hR24.upd0 hU5
   refine Wl_nil ?_
   refine W_region ?_
   refine Wl_v (r_mv (v := .int .i64 ((k : Nat) : Int)) rfl) ?_
   refine Wl_v (r_add rfl rfl (wi64 (by omega) (by omega))) ?_
   refine Wl_v (r_as (v := .int .i64 (((k : Nat) : Int) + 1)) rfl) ?_
   refine Wl_nil ?_
   refine ⟨_, ?_, (k + 1), rfl, rfl, ⟨rfl, (Eq.trans (b := .int .i64 (((k : Nat) : Int) + 1)) rfl (vint (by omega))), trivial⟩, (hG.succ hgk), (by omega), (st_le _ _ _), hR24, HL2⟩
   omega
  ·rw [decide_eq_false q2]
   refine Wl_callp (r_call2 rfl Try.call48 rfl rfl) (ois_no _ ) ?_
   intro w6 hU6
   have hzw6 := hU6.size
   replace HU := HU.trans0 hU6
   refine pan_ds rfl ?_
   refine lv_panic ?_
   exact ⟨rfl, HU⟩
 ·exact absurd (show st l (wn b) t (nb l (wn b) t) = 0 from by rw [nb_stop hr hG (by omega)]; omega) hg

set_option maxRecDepth 100000 in
theorem icl_ok {rb tb : Nat} (w : World)  :
  Calls Try.prog 63 #[.agg #[.pointer (some ⟨rb, 0, none⟩), .pointer (some ⟨tb, 0, none⟩)]] w (Ret fun v w' => v = .agg #[.pointer (some ⟨rb, 0, none⟩), .pointer (some ⟨tb, 0, none⟩)] ∧ Upd No w w') := by
 have HU : Upd (fun b => False) w w := Upd.refl _ _
 refine calls_of_W Try.func63 rfl Try.ntmps63 (by simp) ?_
 refine W_seq ?_
 refine W_region ?_
 refine Wl_box (v := .agg #[.pointer (some ⟨rb, 0, none⟩), .pointer (some ⟨tb, 0, none⟩)]) (cs := [.pointer (some ⟨rb, 0, none⟩), .pointer (some ⟨tb, 0, none⟩)]) rfl rfl ?_
 intro B1 w1 hB1 hU1 hzz1 hb1
 have hzw1 := hU1.size
 replace HU := HU.trans0 hU1
 refine Wl_alloc (cs := [.pointer none, .pointer none]) Try.zeroValue81 rfl ?_
 intro B2 w2 hB2 hU2 hzz2 hb2
 have hzw2 := hU2.size
 replace HU := HU.trans0 hU2
 replace hb1 := hb1.upd0 hU2
 refine Wl_nil ?_
 refine W_seq ?_
 refine W_region ?_
 refine Wl_v (r_loada (b := B1) (off := 0) (cs := [.pointer (some ⟨rb, 0, none⟩), .pointer (some ⟨tb, 0, none⟩)]) Try.isAgg81 Try.sizeOf81 rfl rfl (fun j hj => by rw [hb1.cell]; match j, hj with | 0, _ => rfl | 1, _ => rfl)) ?_
 refine Wl_storea (off := 0) (vs := [.pointer (some ⟨rb, 0, none⟩), .pointer (some ⟨tb, 0, none⟩)]) (cs' := [.pointer (some ⟨rb, 0, none⟩), .pointer (some ⟨tb, 0, none⟩)]) Try.sizeOf81 rfl rfl rfl (by simp only [List.mem_cons, List.not_mem_nil, or_false, forall_eq_or_imp, forall_eq]; exact ⟨rfl, rfl⟩) hb2 (by simp) rfl ?_
 intro w3 hU3 hzz3 hb2n
 replace hb2 := hb2n; clear hb2n
 have hzw3 := hU3.size
 replace HU := HU.trans1 hU3 (by show (False) ∨ w.heap.size ≤ B2; omega)
 refine Wl_nil ?_
 refine W_ret ?_
 refine ret_end (v := .agg #[.pointer (some ⟨rb, 0, none⟩), .pointer (some ⟨tb, 0, none⟩)]) rfl (rc1 Try.results63 rfl (cellAgg Try.isAgg81 Try.sizeOf81 rfl hb2)) ?_
 exact ⟨_, rfl, rfl, HU⟩

set_option maxRecDepth 100000 in
theorem open_ok {a a2 : Option Addr} {n c m d : Nat} {l b : List Int} {R : Nat → Prop} (w : World) (hs : Sl w R 1 (.slice a n c) n (ints .i64 l)) (hn : n ≤ 1000) (hsb : Sl w (fun g => g < w.heap.size) 1 (.slice a2 m d) m (ints .u8 b)) (hb : Byt b) (hm : m ≤ 100000) (hr : Rt l) (hc : Cl b) :
  Calls Try.prog 72 #[.slice a n c, .slice a2 m d] w (Ret fun v w' => ∃ (rb : Nat) (tb : Nat) (G1 : Nat), v = .agg #[.pointer (some ⟨rb, 0, none⟩), .pointer (some ⟨tb, 0, none⟩)] ∧ Rdr w' w.heap.size G1 rb tb l b (tbt b) ∧ Upd No w w') := by
 have HU : Upd (fun b => False) w w := Upd.refl _ _
 have hl_hs := ilen hs
 have hc_hs := hs.cap.1
 replace hs := hs.tight
 have hl_hsb := ilen hsb
 have hc_hsb := hsb.cap.1
 refine calls_of_W Try.func72 rfl Try.ntmps72 (by simp) ?_
 refine W_seq ?_
 refine W_region ?_
 refine Wl_alloc (cs := [.pointer none, .pointer none]) Try.zeroValue81 rfl ?_
 intro B1 w1 hB1 hU1 hzz1 hb1
 have hzw1 := hU1.size
 replace hs := hs.upd0 hU1
 replace hsb := hsb.upd0 hU1
 replace HU := HU.trans0 hU1
 refine Wl_nil ?_
 refine W_seq ?_
 refine W_region ?_
 refine Wl_v (r_mv (v := .slice a n c) rfl) ?_
 refine Wl_call (r_call1 rfl Try.call85 rfl) (new_ok _ hs (by omega) hr) ?_
 rintro v w2 ⟨tb2, ea2, ec2, la2, lc2, rfl, hT2, hE2, hL2, htg_2, hU2⟩
 have hzw2 := hU2.size
 replace hsb := hsb.upd0 hU2
 replace HU := HU.trans0 hU2
 replace hb1 := hb1.upd0 hU2
 have hbl_hT2 := hT2.lt
 replace hE2 := hE2.tight
 have hl_hE2 := rlen encE_len (by decide) hE2.sl
 have hc_hE2 := hE2.sl.cap.1
 replace hL2 := hL2.tight
 have hl_hL2 := ilen hL2.sl
 have hc_hL2 := hL2.sl.cap.1
 have hbtb := bt_bd hr
 refine Wl_v (r_mv (v := .tuple #[.pointer (some ⟨tb2, 0, none⟩), .int .i64 0]) rfl) ?_
 refine Wl_v (r_ext (v := .pointer (some ⟨tb2, 0, none⟩)) rfl rfl) ?_
 refine Wl_v (r_ext (v := .int .i64 0) rfl rfl) ?_
 refine Wl_v (r_as (v := .pointer (some ⟨tb2, 0, none⟩)) rfl) ?_
 refine Wl_v (r_as (v := .int .i64 0) rfl) ?_
 refine Wl_nil ?_
 refine W_seq ?_
 refine W_region ?_
 refine Wl_v (r_mv (v := .int .i64 0) rfl) ?_
 refine Wl_lit (pv := [(0, .int .i64 0)]) (cs := [.int .i64 0]) Try.underlying109 Try.sizeOf25 Try.zeroValue25 (by decide) (by decide) (by simp only [List.map_toArray, List.map_cons, List.map_nil] <;> rfl) (by kernel_rfl) rfl (by decide) ?_
 intro B3 w3 hB3 hU3 hzz3 hs3
 have hzw3 := hU3.size
 replace hsb := hsb.upd0 hU3
 replace HU := HU.trans0 hU3
 replace hb1 := hb1.upd0 hU3
 replace hT2 := hT2.upd0 hU3
 replace hE2 := hE2.upd0 hU3
 replace hs3 : Own w3 (Is B3) 25 1 (.slice (some ⟨B3, 0, none⟩) 1 1) 1 (ints .i64 [0]) := hs3
 refine Wl_call (r_call1 rfl Try.call35 rfl) (omust_ok (er := 0) _ hs3.sl.any (by decide)) ?_
 rintro v w4 ⟨rfl, hU4⟩
 have hzw4 := hU4.size
 replace hsb := hsb.upd0 hU4
 replace HU := HU.trans0 hU4
 replace hb1 := hb1.upd0 hU4
 replace hT2 := hT2.upd0 hU4
 replace hE2 := hE2.upd0 hU4
 refine Wl_nil ?_
 refine W_seq ?_
 refine W_region ?_
 refine Wl_v (r_mv (v := .slice a2 m d) rfl) ?_
 refine Wl_call (r_call1 rfl Try.call86 rfl) (newb_ok _ hsb.any hb (by omega) hc) ?_
 rintro v w5 ⟨rb5, a5, c5, rfl, hB5, hO5, hrb_5, hU5⟩
 have hzw5 := hU5.size
 replace HU := HU.trans0 hU5
 replace hb1 := hb1.upd0 hU5
 replace hT2 := hT2.upd0 hU5
 replace hE2 := hE2.upd0 hU5
 have hbl_hB5 := hB5.lt
 replace hO5 := hO5.tight
 have hl_hO5 := ilen hO5.sl
 have hc_hO5 := hO5.sl.cap.1
 refine Wl_v (r_mv (v := .tuple #[.pointer (some ⟨rb5, 0, none⟩), .int .i64 0]) rfl) ?_
 refine Wl_v (r_ext (v := .pointer (some ⟨rb5, 0, none⟩)) rfl rfl) ?_
 refine Wl_v (r_ext (v := .int .i64 0) rfl rfl) ?_
 refine Wl_v (r_as (v := .pointer (some ⟨rb5, 0, none⟩)) rfl) ?_
 refine Wl_v (r_as (v := .int .i64 0) rfl) ?_
 refine Wl_nil ?_
 refine W_seq ?_
 refine W_region ?_
 refine Wl_v (r_mv (v := .int .i64 0) rfl) ?_
 refine Wl_lit (pv := [(0, .int .i64 0)]) (cs := [.int .i64 0]) Try.underlying109 Try.sizeOf25 Try.zeroValue25 (by decide) (by decide) (by simp only [List.map_toArray, List.map_cons, List.map_nil] <;> rfl) (by kernel_rfl) rfl (by decide) ?_
 intro B6 w6 hB6 hU6 hzz6 hs6
 have hzw6 := hU6.size
 replace HU := HU.trans0 hU6
 replace hb1 := hb1.upd0 hU6
 replace hT2 := hT2.upd0 hU6
 replace hE2 := hE2.upd0 hU6
 replace hB5 := hB5.upd0 hU6
 replace hO5 := hO5.upd0 hU6
 replace hs6 : Own w6 (Is B6) 25 1 (.slice (some ⟨B6, 0, none⟩) 1 1) 1 (ints .i64 [0]) := hs6
 refine Wl_call (r_call1 rfl Try.call35 rfl) (omust_ok (er := 0) _ hs6.sl.any (by decide)) ?_
 rintro v w7 ⟨rfl, hU7⟩
 have hzw7 := hU7.size
 replace HU := HU.trans0 hU7
 replace hb1 := hb1.upd0 hU7
 replace hT2 := hT2.upd0 hU7
 replace hE2 := hE2.upd0 hU7
 replace hB5 := hB5.upd0 hU7
 replace hO5 := hO5.upd0 hU7
 refine Wl_nil ?_
 refine W_seq ?_
 refine W_region ?_
 refine Wl_v (r_mv (v := .pointer (some ⟨rb5, 0, none⟩)) rfl) ?_
 refine Wl_v (r_mv (v := .pointer (some ⟨tb2, 0, none⟩)) rfl) ?_
 refine Wl_v (r_build (pl := #[(0, 1), (1, 1)]) (pv := [(0, .pointer (some ⟨rb5, 0, none⟩)), (1, .pointer (some ⟨tb2, 0, none⟩))]) (cs := #[.pointer (some ⟨rb5, 0, none⟩), .pointer (some ⟨tb2, 0, none⟩)]) Try.zeroValue81 Try.underlying81 (fun w => by kernel_rfl) (by simp only [List.map_toArray, List.map_cons, List.map_nil] <;> rfl) (by kernel_rfl)) ?_
 refine Wl_storea (off := 0) (vs := [.pointer (some ⟨rb5, 0, none⟩), .pointer (some ⟨tb2, 0, none⟩)]) (cs' := [.pointer (some ⟨rb5, 0, none⟩), .pointer (some ⟨tb2, 0, none⟩)]) Try.sizeOf81 rfl rfl rfl (by simp only [List.mem_cons, List.not_mem_nil, or_false, forall_eq_or_imp, forall_eq]; exact ⟨rfl, rfl⟩) hb1 (by simp) rfl ?_
 intro w8 hU8 hzz8 hb1n
 replace hb1 := hb1n; clear hb1n
 have hzw8 := hU8.size
 replace HU := HU.trans1 hU8 (by show (False) ∨ w.heap.size ≤ B1; omega)
 replace hT2 := hT2.upd1 hU8 (by omega)
 replace hE2 := hE2.upd1 hU8 (by intro h1; have h3 : ((w1.heap.size ≤ B1 ∧ B1 ≠ tb2) ∧ B1 < w2.heap.size) := h1; omega)
 replace hB5 := hB5.upd1 hU8 (by omega)
 replace hO5 := hO5.upd1 hU8 (by intro h1; have h3 : ((w4.heap.size ≤ B1 ∧ B1 ≠ rb5) ∧ B1 < w5.heap.size) := h1; omega)
 refine Wl_nil ?_
 refine W_ret ?_
 refine ret_end (v := .agg #[.pointer (some ⟨rb5, 0, none⟩), .pointer (some ⟨tb2, 0, none⟩)]) rfl (rc1 Try.results72 rfl (cellAgg Try.isAgg81 Try.sizeOf81 rfl hb1)) ?_
 have hlm : m = b.length := by omega
 subst hlm
 exact ⟨_, rfl, rb5, tb2, w8.heap.size, rfl, ⟨a5, c5, ea2, ec2, la2, n, lc2, hB5, (hO5.sl.weak (by intro g hg; have h3 : ((w4.heap.size ≤ g ∧ g ≠ rb5) ∧ g < w5.heap.size) := hg; show w.heap.size ≤ g ∧ g < w8.heap.size ∧ g ≠ rb5; omega)), hT2, (hE2.sl.weak (by intro g hg; have h3 : ((w1.heap.size ≤ g ∧ g ≠ tb2) ∧ g < w2.heap.size) := hg; show w.heap.size ≤ g ∧ g < w8.heap.size ∧ g ≠ rb5; omega)), by omega⟩, HU⟩

set_option maxRecDepth 100000 in
theorem open_tree {a a2 : Option Addr} {n c m d : Nat} {l b : List Int} {R : Nat → Prop} (w : World) (hs : Sl w R 1 (.slice a n c) n (ints .i64 l)) (hn : n ≤ 1000) (hsb : Sl w (fun g => g < w.heap.size) 1 (.slice a2 m d) m (ints .u8 b)) (hb : Byt b) (hm : m ≤ 100000) (hr : ¬ Rt l) :
  Calls Try.prog 72 #[.slice a n c, .slice a2 m d] w (Pan (.iface 25 (.int .i64 12)) fun w' => Upd No w w') := by
 have HU : Upd (fun b => False) w w := Upd.refl _ _
 have hl_hs := ilen hs
 have hc_hs := hs.cap.1
 replace hs := hs.tight
 have hl_hsb := ilen hsb
 have hc_hsb := hsb.cap.1
 refine calls_of_W Try.func72 rfl Try.ntmps72 (by simp) ?_
 refine W_seq ?_
 refine W_region ?_
 refine Wl_alloc (cs := [.pointer none, .pointer none]) Try.zeroValue81 rfl ?_
 intro B1 w1 hB1 hU1 hzz1 hb1
 have hzw1 := hU1.size
 replace hs := hs.upd0 hU1
 replace HU := HU.trans0 hU1
 refine Wl_nil ?_
 refine W_seq ?_
 refine W_region ?_
 refine Wl_v (r_mv (v := .slice a n c) rfl) ?_
 refine Wl_call (r_call1 rfl Try.call85 rfl) (new_no _ hs (by omega) hr) ?_
 rintro v w2 ⟨rfl, hU2⟩
 have hzw2 := hU2.size
 replace HU := HU.trans0 hU2
 refine Wl_v (r_mv (v := .tuple #[.pointer none, .int .i64 12]) rfl) ?_
 refine Wl_v (r_ext (v := .pointer none) rfl rfl) ?_
 refine Wl_v (r_ext (v := .int .i64 12) rfl rfl) ?_
 refine Wl_v (r_as (v := .pointer none) rfl) ?_
 refine Wl_v (r_as (v := .int .i64 12) rfl) ?_
 refine Wl_nil ?_
 refine W_seq ?_
 refine W_region ?_
 refine Wl_v (r_mv (v := .int .i64 12) rfl) ?_
 refine Wl_lit (pv := [(0, .int .i64 12)]) (cs := [.int .i64 12]) Try.underlying109 Try.sizeOf25 Try.zeroValue25 (by decide) (by decide) (by simp only [List.map_toArray, List.map_cons, List.map_nil] <;> rfl) (by kernel_rfl) rfl (by decide) ?_
 intro B3 w3 hB3 hU3 hzz3 hs3
 have hzw3 := hU3.size
 replace HU := HU.trans0 hU3
 replace hs3 : Own w3 (Is B3) 25 1 (.slice (some ⟨B3, 0, none⟩) 1 1) 1 (ints .i64 [12]) := hs3
 refine Wl_callp (r_call1 rfl Try.call35 rfl) (omust_no (er := 12) _ hs3.sl.any (by decide)) ?_
 intro w4 hU4
 have hzw4 := hU4.size
 replace HU := HU.trans0 hU4
 refine pan_ds rfl ?_
 refine lv_panic ?_
 exact ⟨rfl, HU⟩

set_option maxRecDepth 100000 in
theorem open_bits {a a2 : Option Addr} {n c m d : Nat} {l b : List Int} {R : Nat → Prop} (w : World) (hs : Sl w R 1 (.slice a n c) n (ints .i64 l)) (hn : n ≤ 1000) (hsb : Sl w (fun g => g < w.heap.size) 1 (.slice a2 m d) m (ints .u8 b)) (hb : Byt b) (hm : m ≤ 100000) (hr : Rt l) (hc : ¬ Cl b) :
  Calls Try.prog 72 #[.slice a n c, .slice a2 m d] w (Pan (.iface 25 (.int .i64 14)) fun w' => Upd No w w') := by
 have HU : Upd (fun b => False) w w := Upd.refl _ _
 have hl_hs := ilen hs
 have hc_hs := hs.cap.1
 replace hs := hs.tight
 have hl_hsb := ilen hsb
 have hc_hsb := hsb.cap.1
 refine calls_of_W Try.func72 rfl Try.ntmps72 (by simp) ?_
 refine W_seq ?_
 refine W_region ?_
 refine Wl_alloc (cs := [.pointer none, .pointer none]) Try.zeroValue81 rfl ?_
 intro B1 w1 hB1 hU1 hzz1 hb1
 have hzw1 := hU1.size
 replace hs := hs.upd0 hU1
 replace hsb := hsb.upd0 hU1
 replace HU := HU.trans0 hU1
 refine Wl_nil ?_
 refine W_seq ?_
 refine W_region ?_
 refine Wl_v (r_mv (v := .slice a n c) rfl) ?_
 refine Wl_call (r_call1 rfl Try.call85 rfl) (new_ok _ hs (by omega) hr) ?_
 rintro v w2 ⟨tb2, ea2, ec2, la2, lc2, rfl, hT2, hE2, hL2, htg_2, hU2⟩
 have hzw2 := hU2.size
 replace hsb := hsb.upd0 hU2
 replace HU := HU.trans0 hU2
 have hbl_hT2 := hT2.lt
 replace hE2 := hE2.tight
 have hl_hE2 := rlen encE_len (by decide) hE2.sl
 have hc_hE2 := hE2.sl.cap.1
 replace hL2 := hL2.tight
 have hl_hL2 := ilen hL2.sl
 have hc_hL2 := hL2.sl.cap.1
 refine Wl_v (r_mv (v := .tuple #[.pointer (some ⟨tb2, 0, none⟩), .int .i64 0]) rfl) ?_
 refine Wl_v (r_ext (v := .pointer (some ⟨tb2, 0, none⟩)) rfl rfl) ?_
 refine Wl_v (r_ext (v := .int .i64 0) rfl rfl) ?_
 refine Wl_v (r_as (v := .pointer (some ⟨tb2, 0, none⟩)) rfl) ?_
 refine Wl_v (r_as (v := .int .i64 0) rfl) ?_
 refine Wl_nil ?_
 refine W_seq ?_
 refine W_region ?_
 refine Wl_v (r_mv (v := .int .i64 0) rfl) ?_
 refine Wl_lit (pv := [(0, .int .i64 0)]) (cs := [.int .i64 0]) Try.underlying109 Try.sizeOf25 Try.zeroValue25 (by decide) (by decide) (by simp only [List.map_toArray, List.map_cons, List.map_nil] <;> rfl) (by kernel_rfl) rfl (by decide) ?_
 intro B3 w3 hB3 hU3 hzz3 hs3
 have hzw3 := hU3.size
 replace hsb := hsb.upd0 hU3
 replace HU := HU.trans0 hU3
 replace hs3 : Own w3 (Is B3) 25 1 (.slice (some ⟨B3, 0, none⟩) 1 1) 1 (ints .i64 [0]) := hs3
 refine Wl_call (r_call1 rfl Try.call35 rfl) (omust_ok (er := 0) _ hs3.sl.any (by decide)) ?_
 rintro v w4 ⟨rfl, hU4⟩
 have hzw4 := hU4.size
 replace hsb := hsb.upd0 hU4
 replace HU := HU.trans0 hU4
 refine Wl_nil ?_
 refine W_seq ?_
 refine W_region ?_
 refine Wl_v (r_mv (v := .slice a2 m d) rfl) ?_
 refine Wl_call (r_call1 rfl Try.call86 rfl) (newb_no _ hsb.any hb (by omega) hc) ?_
 rintro v w5 ⟨rfl, hU5⟩
 have hzw5 := hU5.size
 replace HU := HU.trans0 hU5
 refine Wl_v (r_mv (v := .tuple #[.pointer none, .int .i64 14]) rfl) ?_
 refine Wl_v (r_ext (v := .pointer none) rfl rfl) ?_
 refine Wl_v (r_ext (v := .int .i64 14) rfl rfl) ?_
 refine Wl_v (r_as (v := .pointer none) rfl) ?_
 refine Wl_v (r_as (v := .int .i64 14) rfl) ?_
 refine Wl_nil ?_
 refine W_seq ?_
 refine W_region ?_
 refine Wl_v (r_mv (v := .int .i64 14) rfl) ?_
 refine Wl_lit (pv := [(0, .int .i64 14)]) (cs := [.int .i64 14]) Try.underlying109 Try.sizeOf25 Try.zeroValue25 (by decide) (by decide) (by simp only [List.map_toArray, List.map_cons, List.map_nil] <;> rfl) (by kernel_rfl) rfl (by decide) ?_
 intro B6 w6 hB6 hU6 hzz6 hs6
 have hzw6 := hU6.size
 replace HU := HU.trans0 hU6
 replace hs6 : Own w6 (Is B6) 25 1 (.slice (some ⟨B6, 0, none⟩) 1 1) 1 (ints .i64 [14]) := hs6
 refine Wl_callp (r_call1 rfl Try.call35 rfl) (omust_no (er := 14) _ hs6.sl.any (by decide)) ?_
 intro w7 hU7
 have hzw7 := hU7.size
 replace HU := HU.trans0 hU7
 refine pan_ds rfl ?_
 refine lv_panic ?_
 exact ⟨rfl, HU⟩

end Go.Proofs.Ytilegaokfamfnaa
