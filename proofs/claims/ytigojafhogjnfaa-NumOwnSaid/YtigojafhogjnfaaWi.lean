/-
  Walks, printed by a small program of this project (gen.py).
-/
import Derived.Test.YtigojafhogjnfaaWh
import Derived.Test.YtigojafhogjnfaaPe
set_option linter.unusedVariables false
set_option linter.unusedSimpArgs false
namespace Go.Proofs.Ytigojafhogjnfaa
open Go.Fw

theorem csub_clo {Bk : Nat} {k : Int} {Bc : Nat} {pb : Nat} {a : Option Addr} {n c p : Nat} {bs : List Int} (w : World) (hc : Blk w Bc [.pointer (some ⟨pb, 0, none⟩)]) (hBc : Bc ≠ pb) (hk : Blk w Bk [.int .i64 k]) (hBk : Bk ≠ pb) (hp : Blk w pb [.slice a n c, .int .i64 ((p : Nat) : Int)]) (hs : Sl w (fun g => g < w.heap.size ∧ g ≠ pb) 1 (.slice a n c) n (ints .u8 bs)) (hb : Byt bs) (hpn : p ≤ n) (hn : n ≤ 140737488355328) :
    Calls Try.prog 50 #[.pointer (some ⟨Bc, 0, none⟩), .pointer (some ⟨Bk, 0, none⟩)] w (Ret fun v w' => ∃ x er, v = .tuple #[x, .int .i64 er] ∧ x.cells = #[x] ∧ x.oneCell' = true ∧ ∃ at1, Blk w' pb [.slice a n c, .int .i64 at1] ∧ Upd (Is pb) w w' ∧ er = (gbytes bs p k).2.2 ∧ at1 = (((gbytes bs p k).2.1 : Nat) : Int) ∧ ∃ B a' m' c', x = .pointer (some ⟨B, 0, none⟩) ∧ Blk w' B [.slice a' m' c', .int .i64 0] ∧ Own w' (fun g => w.heap.size ≤ g ∧ g ≠ B) 5 1 (.slice a' m' c') m' (ints .u8 (gbytes bs p k).1) ∧ (gbytes bs p k).1.length = m' ∧ w.heap.size ≤ B) := by
  have HU : Upd (fun b => b = pb) w w := Upd.refl _ _
  have hl := ilen hs
  have hcap := hs.cap.1
  have hpl := hp.lt
  have hcl := hc.lt
  have hkl := hk.lt
  refine calls_of_W Try.func50 rfl Try.ntmps50 (by simp) ?_
  refine W_seq ?_
  refine W_region ?_
  refine Wl_v (r_as (v := .pointer none) rfl) ?_
  refine Wl_v (r_as (v := .int .i64 0) rfl) ?_
  refine Wl_nil ?_
  refine W_seq ?_
  refine W_region ?_
  refine Wl_load (v := .pointer (some ⟨pb, 0, none⟩)) Try.isAgg38 rfl hc rfl ?_
  refine Wl_load (v := .int .i64 k) Try.isAgg3 rfl hk rfl ?_
  refine Wl_call (r_call2 rfl Try.call26 rfl rfl) (bytes_spec _ hp (hs.cur (by intro h1; have h3 : (pb < w.heap.size ∧ pb ≠ pb) := h1; first | omega | simp at h3)) hb (by omega) (by omega)) ?_
  rintro v w1 ⟨a1, m1, c1, rfl, hp1, hO1, hm_1, hU1⟩
  have hzw1 := hU1.size
  replace hs := hs.upd1 hU1 (by intro h1; have h3 : (pb < w.heap.size ∧ pb ≠ pb) := h1; omega)
  replace hc := hc.upd1 hU1 (by omega)
  replace hk := hk.upd1 hU1 (by omega)
  replace HU := HU.trans1 hU1 (by show (pb = pb) ∨ w.heap.size ≤ pb; omega)
  have hbl_hp1 := hp1.lt
  replace hO1 := hO1.tight
  have hl_hO1 := ilen hO1.sl
  have hc_hO1 := hO1.sl.cap.1
  refine Wl_v (r_mv (v := .tuple #[.slice a1 m1 c1, .int .i64 ((gbytes bs p k).2.2)]) rfl) ?_
  refine Wl_v (r_ext (v := .slice a1 m1 c1) rfl rfl) ?_
  refine Wl_v (r_ext (v := .int .i64 ((gbytes bs p k).2.2)) rfl rfl) ?_
  refine Wl_v (r_as (v := .slice a1 m1 c1) rfl) ?_
  refine Wl_v (r_as (v := .int .i64 ((gbytes bs p k).2.2)) rfl) ?_
  refine Wl_nil ?_
  refine W_seq ?_
  refine W_region ?_
  refine Wl_v (r_mv (v := .slice a1 m1 c1) rfl) ?_
  refine Wl_v (r_build (pl := #[(0, 1), (1, 1)]) (pv := [(0, .slice a1 m1 c1)]) (cs := #[.slice a1 m1 c1, .int .i64 0]) Try.zeroValue66 Try.underlying66 (fun w => by kernel_rfl) (by simp only [List.map_toArray, List.map_cons, List.map_nil] <;> rfl) (by kernel_rfl)) ?_
  refine Wl_box (v := .agg #[.slice a1 m1 c1, .int .i64 0]) (cs := [.slice a1 m1 c1, .int .i64 0]) rfl rfl ?_
  intro B2 w2 hB2 hU2 hzz2 hb2
  have hzw2 := hU2.size
  replace hs := hs.upd0 hU2
  replace hc := hc.upd0 hU2
  replace hk := hk.upd0 hU2
  replace HU := HU.trans0 hU2
  replace hp1 := hp1.upd0 hU2
  replace hO1 := hO1.upd0 hU2
  refine Wl_v (r_mv (v := .int .i64 ((gbytes bs p k).2.2)) rfl) ?_
  refine Wl_v (r_as (v := .pointer (some ⟨B2, 0, none⟩)) rfl) ?_
  refine Wl_v (r_as (v := .int .i64 ((gbytes bs p k).2.2)) rfl) ?_
  refine Wl_nil ?_
  refine W_ret ?_
  refine ret_end (v := .tuple #[.pointer (some ⟨B2, 0, none⟩), .int .i64 ((gbytes bs p k).2.2)]) rfl (res2 Try.results50 rfl rfl) ?_
  exact ⟨_, rfl, _, _, rfl, rfl, rfl, _, hp1, HU, rfl, rfl, B2, _, _, _, rfl, hb2, hO1.weak (by intro g hg; have h3 : ((w.heap.size ≤ g) ∧ g < w1.heap.size) := hg; show _ ∧ _; omega), hm_1, by omega⟩

theorem csub_ok {pb : Nat} {a : Option Addr} {n c p : Nat} {bs : List Int} {k : Int} (w : World) (hp : Blk w pb [.slice a n c, .int .i64 ((p : Nat) : Int)]) (hs : Sl w (fun g => g < w.heap.size ∧ g ≠ pb) 1 (.slice a n c) n (ints .u8 bs)) (hb : Byt bs) (hpn : p ≤ n) (hn : n ≤ 140737488355328) (hq : (gbytes bs p k).2.2 = 0) :
    Calls Try.prog 33 #[.pointer (some ⟨pb, 0, none⟩), .int .i64 k] w (Ret fun v w' => ∃ B a' m' c', v = .tuple #[.pointer (some ⟨B, 0, none⟩), .int .i64 0] ∧ Blk w' pb [.slice a n c, .int .i64 (((gbytes bs p k).2.1 : Nat) : Int)] ∧ Blk w' B [.slice a' m' c', .int .i64 0] ∧ Own w' (fun g => w.heap.size ≤ g ∧ g ≠ B) 5 1 (.slice a' m' c') m' (ints .u8 (gbytes bs p k).1) ∧ (gbytes bs p k).1.length = m' ∧ w.heap.size ≤ B ∧ Upd (Is pb) w w') := by
  have HU : Upd (fun b => b = pb) w w := Upd.refl _ _
  have hl := ilen hs
  have hcap := hs.cap.1
  have hpl := hp.lt
  refine calls_of_W Try.func33 rfl Try.ntmps33 (by simp) ?_
  refine W_seq ?_
  refine W_region ?_
  refine Wl_box (v := .pointer (some ⟨pb, 0, none⟩)) (cs := [.pointer (some ⟨pb, 0, none⟩)]) rfl rfl ?_
  intro B1 w1 hB1 hU1 hzz1 hb1
  have hzw1 := hU1.size
  replace hp := hp.upd0 hU1
  replace hs := hs.upd0 hU1
  replace HU := HU.trans0 hU1
  refine Wl_box (v := .int .i64 k) (cs := [.int .i64 k]) rfl rfl ?_
  intro B2 w2 hB2 hU2 hzz2 hb2
  have hzw2 := hU2.size
  replace hp := hp.upd0 hU2
  replace hs := hs.upd0 hU2
  replace HU := HU.trans0 hU2
  replace hb1 := hb1.upd0 hU2
  refine Wl_v (r_as (v := .pointer none) rfl) ?_
  refine Wl_v (r_as (v := .int .i64 0) rfl) ?_
  refine Wl_nil ?_
  refine W_seq ?_
  refine W_region ?_
  refine Wl_load (v := .pointer (some ⟨pb, 0, none⟩)) Try.isAgg38 rfl hb1 rfl ?_
  refine Wl_v (r_mkf2 (v0 := .pointer (some ⟨B1, 0, none⟩)) (v1 := .pointer (some ⟨B2, 0, none⟩)) rfl rfl) ?_
  refine Wl_call (r_call2 rfl Try.call49 rfl rfl) (readCu_spec (Φ := fun x er at1 w1 w2 => er = (gbytes bs p k).2.2 ∧ at1 = (((gbytes bs p k).2.1 : Nat) : Int) ∧ ∃ B a' m' c', x = .pointer (some ⟨B, 0, none⟩) ∧ Blk w2 B [.slice a' m' c', .int .i64 0] ∧ Own w2 (fun g => w1.heap.size ≤ g ∧ g ≠ B) 5 1 (.slice a' m' c') m' (ints .u8 (gbytes bs p k).1) ∧ (gbytes bs p k).1.length = m' ∧ w1.heap.size ≤ B) _ hp Try.call50 (fun w1 hN => csub_clo w1 (hb1.upd0 hN) (by omega) (hb2.upd0 hN) (by omega) (hp.upd0 hN) ((hs.upd0 hN).cur (by intro h1; have h3 : (pb < w.heap.size ∧ pb ≠ pb) := h1; omega)) hb hpn hn)) ?_
  rintro v w3 ⟨x, er, at1, wa, wb, rfl, hpn2, hN, ⟨rfl, rfl, B, a', m', c', rfl, hB, hO, hlen, hBg⟩, hX, hU3⟩
  have hNs := hN.size
  replace hO := hO.upd hX (by intro x h1 h2; have h3 : wa.heap.size ≤ x ∧ x ≠ B := h1; have h4 : x = pb ∨ (w2.heap.size ≤ x ∧ x < wa.heap.size) := h2; omega)
  replace hB := hB.upd hX (by intro h2; have h4 : B = pb ∨ (w2.heap.size ≤ B ∧ B < wa.heap.size) := h2; omega)
  have hzw3 := hU3.size
  replace hs := hs.upd1 hU3 (by intro h1; have h3 : (pb < w.heap.size ∧ pb ≠ pb) := h1; omega)
  replace HU := HU.trans1 hU3 (by show (pb = pb) ∨ w.heap.size ≤ pb; omega)
  replace hb1 := hb1.upd1 hU3 (by omega)
  replace hb2 := hb2.upd1 hU3 (by omega)
  rw [if_pos hq] at hpn2
  rw [show (if (gbytes bs p k).2.2 = 0 then Value.pointer (some ⟨B, 0, none⟩) else .pointer none) = Value.pointer (some ⟨B, 0, none⟩) from if_pos hq]
  refine Wl_v (r_ext (v := .pointer (some ⟨B, 0, none⟩)) rfl rfl) ?_
  refine Wl_v (r_ext (v := .int .i64 ((gbytes bs p k).2.2)) rfl rfl) ?_
  refine Wl_v (r_as (v := .pointer (some ⟨B, 0, none⟩)) rfl) ?_
  refine Wl_v (r_as (v := .int .i64 ((gbytes bs p k).2.2)) rfl) ?_
  refine Wl_nil ?_
  refine W_ret ?_
  refine ret_end (v := .tuple #[.pointer (some ⟨B, 0, none⟩), .int .i64 ((gbytes bs p k).2.2)]) rfl (res2 Try.results33 rfl rfl) ?_
  exact ⟨_, rfl, B, a', m', c', by rw [hq], hpn2, hB, hO.weak (by intro g hg; have h3 : wa.heap.size ≤ g ∧ g ≠ B := hg; show _ ∧ _; omega), hlen, by omega, HU⟩

theorem csub_no {pb : Nat} {a : Option Addr} {n c p : Nat} {bs : List Int} {k : Int} (w : World) (hp : Blk w pb [.slice a n c, .int .i64 ((p : Nat) : Int)]) (hs : Sl w (fun g => g < w.heap.size ∧ g ≠ pb) 1 (.slice a n c) n (ints .u8 bs)) (hb : Byt bs) (hpn : p ≤ n) (hn : n ≤ 140737488355328) (hq : (gbytes bs p k).2.2 ≠ 0) :
    Calls Try.prog 33 #[.pointer (some ⟨pb, 0, none⟩), .int .i64 k] w (Ret fun v w' => v = .tuple #[.pointer none, .int .i64 (gbytes bs p k).2.2] ∧ Blk w' pb [.slice a n c, .int .i64 ((p : Nat) : Int)] ∧ Upd (Is pb) w w') := by
  have HU : Upd (fun b => b = pb) w w := Upd.refl _ _
  have hl := ilen hs
  have hcap := hs.cap.1
  have hpl := hp.lt
  refine calls_of_W Try.func33 rfl Try.ntmps33 (by simp) ?_
  refine W_seq ?_
  refine W_region ?_
  refine Wl_box (v := .pointer (some ⟨pb, 0, none⟩)) (cs := [.pointer (some ⟨pb, 0, none⟩)]) rfl rfl ?_
  intro B1 w1 hB1 hU1 hzz1 hb1
  have hzw1 := hU1.size
  replace hp := hp.upd0 hU1
  replace hs := hs.upd0 hU1
  replace HU := HU.trans0 hU1
  refine Wl_box (v := .int .i64 k) (cs := [.int .i64 k]) rfl rfl ?_
  intro B2 w2 hB2 hU2 hzz2 hb2
  have hzw2 := hU2.size
  replace hp := hp.upd0 hU2
  replace hs := hs.upd0 hU2
  replace HU := HU.trans0 hU2
  replace hb1 := hb1.upd0 hU2
  refine Wl_v (r_as (v := .pointer none) rfl) ?_
  refine Wl_v (r_as (v := .int .i64 0) rfl) ?_
  refine Wl_nil ?_
  refine W_seq ?_
  refine W_region ?_
  refine Wl_load (v := .pointer (some ⟨pb, 0, none⟩)) Try.isAgg38 rfl hb1 rfl ?_
  refine Wl_v (r_mkf2 (v0 := .pointer (some ⟨B1, 0, none⟩)) (v1 := .pointer (some ⟨B2, 0, none⟩)) rfl rfl) ?_
  refine Wl_call (r_call2 rfl Try.call49 rfl rfl) (readCu_spec (Φ := fun x er at1 w1 w2 => er = (gbytes bs p k).2.2 ∧ at1 = (((gbytes bs p k).2.1 : Nat) : Int) ∧ ∃ B a' m' c', x = .pointer (some ⟨B, 0, none⟩) ∧ Blk w2 B [.slice a' m' c', .int .i64 0] ∧ Own w2 (fun g => w1.heap.size ≤ g ∧ g ≠ B) 5 1 (.slice a' m' c') m' (ints .u8 (gbytes bs p k).1) ∧ (gbytes bs p k).1.length = m' ∧ w1.heap.size ≤ B) _ hp Try.call50 (fun w1 hN => csub_clo w1 (hb1.upd0 hN) (by omega) (hb2.upd0 hN) (by omega) (hp.upd0 hN) ((hs.upd0 hN).cur (by intro h1; have h3 : (pb < w.heap.size ∧ pb ≠ pb) := h1; omega)) hb hpn hn)) ?_
  rintro v w3 ⟨x, er, at1, wa, wb, rfl, hpn2, hN, ⟨rfl, rfl, B, a', m', c', rfl, hB, hO, hlen, hBg⟩, hX, hU3⟩
  have hNs := hN.size
  replace hO := hO.upd hX (by intro x h1 h2; have h3 : wa.heap.size ≤ x ∧ x ≠ B := h1; have h4 : x = pb ∨ (w2.heap.size ≤ x ∧ x < wa.heap.size) := h2; omega)
  replace hB := hB.upd hX (by intro h2; have h4 : B = pb ∨ (w2.heap.size ≤ B ∧ B < wa.heap.size) := h2; omega)
  have hzw3 := hU3.size
  replace hs := hs.upd1 hU3 (by intro h1; have h3 : (pb < w.heap.size ∧ pb ≠ pb) := h1; omega)
  replace HU := HU.trans1 hU3 (by show (pb = pb) ∨ w.heap.size ≤ pb; omega)
  replace hb1 := hb1.upd1 hU3 (by omega)
  replace hb2 := hb2.upd1 hU3 (by omega)
  rw [if_neg hq] at hpn2
  rw [show (if (gbytes bs p k).2.2 = 0 then Value.pointer (some ⟨B, 0, none⟩) else .pointer none) = Value.pointer none from if_neg hq]
  refine Wl_v (r_ext (v := .pointer none) rfl rfl) ?_
  refine Wl_v (r_ext (v := .int .i64 ((gbytes bs p k).2.2)) rfl rfl) ?_
  refine Wl_v (r_as (v := .pointer none) rfl) ?_
  refine Wl_v (r_as (v := .int .i64 ((gbytes bs p k).2.2)) rfl) ?_
  refine Wl_nil ?_
  refine W_ret ?_
  refine ret_end (v := .tuple #[.pointer none, .int .i64 ((gbytes bs p k).2.2)]) rfl (res2 Try.results33 rfl rfl) ?_
  exact ⟨_, rfl, rfl, hpn2, HU⟩

set_option maxRecDepth 100000 in
theorem step_spec {a : Option Addr} {n c p : Nat} {bs : List Int} {kd nn : Int} {R : Nat → Prop} (w : World) (hs : Sl w R 1 (.slice a n c) n (ints .u8 bs)) (hb : Byt bs) (hpn : p ≤ n) (hn : n ≤ 140737488355328) (hnn : -9223372036854775808 ≤ nn ∧ nn ≤ 9223372036854775807) :
    Calls Try.prog 32 #[.slice a n c, .int .i64 ((p : Nat) : Int), .agg #[.int .i64 kd, .int .i64 nn]] w (Ret fun v w' => ∃ (a' : Option Addr) (m' : Nat) (c' : Nat), v = .tuple #[.int .u64 ((stp bs p kd nn).1), .slice a' m' c', .int .i64 (((stp bs p kd nn).2.2.1 : Nat) : Int), .int .i64 ((stp bs p kd nn).2.2.2)] ∧ Sl w' R 1 (.slice a' m' c') m' (ints .u8 ((stp bs p kd nn).2.1)) ∧ (stp bs p kd nn).2.1.length = m' ∧ Upd No w w') := by
  have HU : Upd (fun b => False) w w := Upd.refl _ _
  have hl_hs := ilen hs
  have hc_hs := hs.cap.1
  replace hs := hs.tight
  have hgw := gword_le hb p
  have hgn := gnum_props (bs := bs) (p := p) (most := nn) (by omega)
  have hgb := gbyte_le hb p
  refine calls_of_W Try.func32 rfl Try.ntmps32 (by simp) ?_
  refine W_seq ?_
  refine W_region ?_
  refine Wl_box (v := .agg #[.int .i64 kd, .int .i64 nn]) (cs := [.int .i64 kd, .int .i64 nn]) rfl rfl ?_
  intro B1 w1 hB1 hU1 hzz1 hb1
  have hzw1 := hU1.size
  replace hs := hs.upd0 hU1
  replace HU := HU.trans0 hU1
  refine Wl_v (r_as (v := .int .u64 0) rfl) ?_
  refine Wl_v (r_as (v := .slice none 0 0) rfl) ?_
  refine Wl_v (r_as (v := .int .i64 0) rfl) ?_
  refine Wl_v (r_as (v := .int .i64 0) rfl) ?_
  refine Wl_nil ?_
  refine W_seq ?_
  refine W_seq ?_
  refine W_region ?_
  refine Wl_v (r_fld Try.underlying56 rfl Try.sizeOf3 rfl rfl) ?_
  refine Wl_load (v := .int .i64 kd) Try.isAgg3 rfl hb1 rfl ?_
  refine Wl_nil ?_
  refine W_block ?_
  refine W_seq ?_
  refine W_region ?_
  refine Wl_v (r_eq rfl rfl) ?_
  refine Wl_v (r_as (v := .bool (decide (kd = 1))) rfl) ?_
  refine Wl_nil ?_
  by_cases q1 : kd = 1
  · rw [decide_eq_true q1]
    refine W_cond_t rfl ?_
    refine W_seq ?_
    refine W_region ?_
    refine Wl_v (r_mv (v := .slice a n c) rfl) ?_
    refine Wl_v (r_mv (v := .int .i64 ((p : Nat) : Int)) rfl) ?_
    refine Wl_call (r_call3 rfl Try.call34 rfl rfl rfl) (rbytes_spec _ hs hb (by omega) (by omega)) ?_
    rintro v w2 ⟨a2, m2, c2, rfl, hB2, hm_2, hU2⟩
    have hzw2 := hU2.size
    replace hs := hs.upd0 hU2
    replace HU := HU.trans0 hU2
    replace hb1 := hb1.upd0 hU2
    have hl_hB2 := ilen hB2
    have hc_hB2 := hB2.cap.1
    refine Wl_v (r_mv (v := .tuple #[.slice a2 m2 c2, .int .i64 (((gbytes bs p 1).2.1 : Nat) : Int), .int .i64 ((gbytes bs p 1).2.2)]) rfl) ?_
    refine Wl_v (r_ext (v := .slice a2 m2 c2) rfl rfl) ?_
    refine Wl_v (r_ext (v := .int .i64 (((gbytes bs p 1).2.1 : Nat) : Int)) rfl rfl) ?_
    refine Wl_v (r_ext (v := .int .i64 ((gbytes bs p 1).2.2)) rfl rfl) ?_
    refine Wl_v (r_as (v := .slice a2 m2 c2) rfl) ?_
    refine Wl_v (r_as (v := .int .i64 (((gbytes bs p 1).2.1 : Nat) : Int)) rfl) ?_
    refine Wl_v (r_as (v := .int .i64 ((gbytes bs p 1).2.2)) rfl) ?_
    refine Wl_nil ?_
    refine W_seq ?_
    refine W_seq ?_
    refine W_region ?_
    refine Wl_v (r_mv (v := .int .i64 ((gbytes bs p 1).2.2)) rfl) ?_
    refine Wl_v (r_ne rfl rfl) ?_
    refine Wl_nil ?_
    by_cases q2 : ((gbytes bs p 1).2.2) ≠ 0
    · rw [decide_eq_true q2]
      refine W_cond_t rfl ?_
      refine W_seq ?_
      refine W_region ?_
      refine Wl_v (r_mv (v := .int .i64 ((p : Nat) : Int)) rfl) ?_
      refine Wl_v (r_mv (v := .int .i64 ((gbytes bs p 1).2.2)) rfl) ?_
      refine Wl_v (r_as (v := .int .u64 0) rfl) ?_
      refine Wl_v (r_as (v := .slice none 0 0) rfl) ?_
      refine Wl_v (r_as (v := .int .i64 ((p : Nat) : Int)) rfl) ?_
      refine Wl_v (r_as (v := .int .i64 ((gbytes bs p 1).2.2)) rfl) ?_
      refine Wl_nil ?_
      refine W_ret ?_
      refine ret_end (v := .tuple #[.int .u64 0, .slice none 0 0, .int .i64 ((p : Nat) : Int), .int .i64 ((gbytes bs p 1).2.2)]) rfl (res4 Try.results32 rfl rfl rfl rfl) ?_
      rw [stp_1 q1, gbyte_of]
      have he := gbytes_one_err q2
      exact ⟨_, rfl, none, 0, 0, (by rw [he.1, he.2]; rfl), (by first | exact Sl.nil _ _ 1 | simpa using Sl.nil _ _ 1), (by first | rfl | omega), HU⟩
    · have hl1 := gbytes_one_len (bs := bs) (p := p) (by omega)
      have hbd := byt_gd (gbytes_byt (p := p) (k := 1) hb) 0
      rw [decide_eq_false q2]
      refine W_cond_f rfl ?_
      refine W_skip ?_
      refine W_seq ?_
      refine W_region ?_
      refine Wl_v (r_mv (v := .slice a2 m2 c2) rfl) ?_
      refine Wl_idxi Try.underlying22 Try.sizeOf5 rfl rfl hB2 (by omega) (by omega) ?_
      intro ib3 io3 hc3
      rw [show (0 : Int).toNat = 0 from rfl] at hc3
      refine Wl_loadc Try.isAgg5 rfl hc3 ?_
      refine Wl_v (r_cvt Try.underlying5 Try.underlying24 rfl (wu64 (by omega) (by omega))) ?_
      refine Wl_v (r_mv (v := .int .i64 (((gbytes bs p 1).2.1 : Nat) : Int)) rfl) ?_
      refine Wl_v (r_as (v := .int .u64 (((gbytes bs p 1).1).getD 0 0)) rfl) ?_
      refine Wl_v (r_as (v := .slice none 0 0) rfl) ?_
      refine Wl_v (r_as (v := .int .i64 (((gbytes bs p 1).2.1 : Nat) : Int)) rfl) ?_
      refine Wl_v (r_as (v := .int .i64 0) rfl) ?_
      refine Wl_nil ?_
      refine W_ret ?_
      refine ret_end (v := .tuple #[.int .u64 (((gbytes bs p 1).1).getD 0 0), .slice none 0 0, .int .i64 (((gbytes bs p 1).2.1 : Nat) : Int), .int .i64 0]) rfl (res4 Try.results32 rfl rfl rfl rfl) ?_
      rw [stp_1 q1, gbyte_of]
      have he : (gbytes bs p 1).2.2 = 0 := by omega
      exact ⟨_, rfl, none, 0, 0, (by rw [he]), (by first | exact Sl.nil _ _ 1 | simpa using Sl.nil _ _ 1), (by first | rfl | omega), HU⟩
  · rw [decide_eq_false q1]
    refine W_cond_f rfl ?_
    refine W_seq ?_
    refine W_region ?_
    refine Wl_v (r_eq rfl rfl) ?_
    refine Wl_v (r_as (v := .bool (decide (kd = 2))) rfl) ?_
    refine Wl_nil ?_
    by_cases q3 : kd = 2
    · rw [decide_eq_true q3]
      refine W_cond_t rfl ?_
      refine W_seq ?_
      refine W_region ?_
      refine Wl_v (r_mv (v := .slice a n c) rfl) ?_
      refine Wl_v (r_mv (v := .int .i64 ((p : Nat) : Int)) rfl) ?_
      refine Wl_call (r_call2 rfl Try.call46 rfl rfl) (rgetword_spec _ hs.any hb (by omega) (by omega)) ?_
      rintro v w4 ⟨rfl, hU4⟩
      have hzw4 := hU4.size
      replace hs := hs.upd0 hU4
      replace HU := HU.trans0 hU4
      replace hb1 := hb1.upd0 hU4
      refine Wl_v (r_mv (v := .tuple #[.int .u32 ((gword bs p).1), .int .i64 (((gword bs p).2.1 : Nat) : Int), .int .i64 ((gword bs p).2.2)]) rfl) ?_
      refine Wl_v (r_ext (v := .int .u32 ((gword bs p).1)) rfl rfl) ?_
      refine Wl_v (r_ext (v := .int .i64 (((gword bs p).2.1 : Nat) : Int)) rfl rfl) ?_
      refine Wl_v (r_ext (v := .int .i64 ((gword bs p).2.2)) rfl rfl) ?_
      refine Wl_v (r_as (v := .int .u32 ((gword bs p).1)) rfl) ?_
      refine Wl_v (r_as (v := .int .i64 (((gword bs p).2.1 : Nat) : Int)) rfl) ?_
      refine Wl_v (r_as (v := .int .i64 ((gword bs p).2.2)) rfl) ?_
      refine Wl_nil ?_
      refine W_seq ?_
      refine W_region ?_
      refine Wl_v (r_mv (v := .int .u32 ((gword bs p).1)) rfl) ?_
      refine Wl_v (r_cvt Try.underlying23 Try.underlying24 rfl (wu64 (by omega) (by omega))) ?_
      refine Wl_v (r_mv (v := .int .i64 (((gword bs p).2.1 : Nat) : Int)) rfl) ?_
      refine Wl_v (r_mv (v := .int .i64 ((gword bs p).2.2)) rfl) ?_
      refine Wl_v (r_as (v := .int .u64 ((gword bs p).1)) rfl) ?_
      refine Wl_v (r_as (v := .slice none 0 0) rfl) ?_
      refine Wl_v (r_as (v := .int .i64 (((gword bs p).2.1 : Nat) : Int)) rfl) ?_
      refine Wl_v (r_as (v := .int .i64 ((gword bs p).2.2)) rfl) ?_
      refine Wl_nil ?_
      refine W_ret ?_
      refine ret_end (v := .tuple #[.int .u64 ((gword bs p).1), .slice none 0 0, .int .i64 (((gword bs p).2.1 : Nat) : Int), .int .i64 ((gword bs p).2.2)]) rfl (res4 Try.results32 rfl rfl rfl rfl) ?_
      rw [stp_2 q3]
      exact ⟨_, rfl, none, 0, 0, (vtup4 (by first | rfl | exact vint (by omega)) rfl (by first | rfl | exact vint (by omega)) (by first | rfl | exact vint (by omega))), (by first | exact Sl.nil _ _ 1 | simpa using Sl.nil _ _ 1), (by first | rfl | omega), HU⟩
    · rw [decide_eq_false q3]
      refine W_cond_f rfl ?_
      refine W_seq ?_
      refine W_region ?_
      refine Wl_v (r_eq rfl rfl) ?_
      refine Wl_v (r_as (v := .bool (decide (kd = 3))) rfl) ?_
      refine Wl_nil ?_
      by_cases q4 : kd = 3
      · rw [decide_eq_true q4]
        refine W_cond_t rfl ?_
        refine W_seq ?_
        refine W_region ?_
        refine Wl_v (r_mv (v := .slice a n c) rfl) ?_
        refine Wl_v (r_mv (v := .int .i64 ((p : Nat) : Int)) rfl) ?_
        refine Wl_call (r_call2 rfl Try.call47 rfl rfl) (rget_spec _ hs.any hb (by omega) (by omega)) ?_
        rintro v w5 ⟨rfl, hU5⟩
        have hzw5 := hU5.size
        replace hs := hs.upd0 hU5
        replace HU := HU.trans0 hU5
        replace hb1 := hb1.upd0 hU5
        refine Wl_v (r_mv (v := .tuple #[.int .u64 ((gvar bs p).1), .int .i64 (((gvar bs p).2.1 : Nat) : Int), .int .i64 ((gvar bs p).2.2)]) rfl) ?_
        refine Wl_v (r_ext (v := .int .u64 ((gvar bs p).1)) rfl rfl) ?_
        refine Wl_v (r_ext (v := .int .i64 (((gvar bs p).2.1 : Nat) : Int)) rfl rfl) ?_
        refine Wl_v (r_ext (v := .int .i64 ((gvar bs p).2.2)) rfl rfl) ?_
        refine Wl_v (r_as (v := .int .u64 ((gvar bs p).1)) rfl) ?_
        refine Wl_v (r_as (v := .int .i64 (((gvar bs p).2.1 : Nat) : Int)) rfl) ?_
        refine Wl_v (r_as (v := .int .i64 ((gvar bs p).2.2)) rfl) ?_
        refine Wl_nil ?_
        refine W_seq ?_
        refine W_region ?_
        refine Wl_v (r_mv (v := .int .u64 ((gvar bs p).1)) rfl) ?_
        refine Wl_v (r_mv (v := .int .i64 (((gvar bs p).2.1 : Nat) : Int)) rfl) ?_
        refine Wl_v (r_mv (v := .int .i64 ((gvar bs p).2.2)) rfl) ?_
        refine Wl_v (r_as (v := .int .u64 ((gvar bs p).1)) rfl) ?_
        refine Wl_v (r_as (v := .slice none 0 0) rfl) ?_
        refine Wl_v (r_as (v := .int .i64 (((gvar bs p).2.1 : Nat) : Int)) rfl) ?_
        refine Wl_v (r_as (v := .int .i64 ((gvar bs p).2.2)) rfl) ?_
        refine Wl_nil ?_
        refine W_ret ?_
        refine ret_end (v := .tuple #[.int .u64 ((gvar bs p).1), .slice none 0 0, .int .i64 (((gvar bs p).2.1 : Nat) : Int), .int .i64 ((gvar bs p).2.2)]) rfl (res4 Try.results32 rfl rfl rfl rfl) ?_
        rw [stp_3 q4]
        exact ⟨_, rfl, none, 0, 0, (vtup4 (by first | rfl | exact vint (by omega)) rfl (by first | rfl | exact vint (by omega)) (by first | rfl | exact vint (by omega))), (by first | exact Sl.nil _ _ 1 | simpa using Sl.nil _ _ 1), (by first | rfl | omega), HU⟩
      · rw [decide_eq_false q4]
        refine W_cond_f rfl ?_
        refine W_seq ?_
        refine W_region ?_
        refine Wl_v (r_eq rfl rfl) ?_
        refine Wl_v (r_as (v := .bool (decide (kd = 4))) rfl) ?_
        refine Wl_nil ?_
        by_cases q5 : kd = 4
        · rw [decide_eq_true q5]
          refine W_cond_t rfl ?_
          refine W_seq ?_
          refine W_region ?_
          refine Wl_v (r_mv (v := .slice a n c) rfl) ?_
          refine Wl_v (r_mv (v := .int .i64 ((p : Nat) : Int)) rfl) ?_
          refine Wl_v (r_fld Try.underlying56 rfl Try.sizeOf3 rfl rfl) ?_
          refine Wl_load (v := .int .i64 nn) Try.isAgg3 rfl hb1 rfl ?_
          refine Wl_call (r_call3 rfl Try.call48 rfl rfl rfl) (rnumber_spec _ hs.any hb (by omega) (by omega) (by omega)) ?_
          rintro v w6 ⟨rfl, hU6⟩
          have hzw6 := hU6.size
          replace hs := hs.upd0 hU6
          replace HU := HU.trans0 hU6
          replace hb1 := hb1.upd0 hU6
          refine Wl_v (r_mv (v := .tuple #[.int .i64 ((gnum bs p nn).1), .int .i64 (((gnum bs p nn).2.1 : Nat) : Int), .int .i64 ((gnum bs p nn).2.2)]) rfl) ?_
          refine Wl_v (r_ext (v := .int .i64 ((gnum bs p nn).1)) rfl rfl) ?_
          refine Wl_v (r_ext (v := .int .i64 (((gnum bs p nn).2.1 : Nat) : Int)) rfl rfl) ?_
          refine Wl_v (r_ext (v := .int .i64 ((gnum bs p nn).2.2)) rfl rfl) ?_
          refine Wl_v (r_as (v := .int .i64 ((gnum bs p nn).1)) rfl) ?_
          refine Wl_v (r_as (v := .int .i64 (((gnum bs p nn).2.1 : Nat) : Int)) rfl) ?_
          refine Wl_v (r_as (v := .int .i64 ((gnum bs p nn).2.2)) rfl) ?_
          refine Wl_nil ?_
          refine W_seq ?_
          refine W_region ?_
          refine Wl_v (r_mv (v := .int .i64 ((gnum bs p nn).1)) rfl) ?_
          refine Wl_v (r_cvt Try.underlying3 Try.underlying24 rfl (wu64 (by omega) (by omega))) ?_
          refine Wl_v (r_mv (v := .int .i64 (((gnum bs p nn).2.1 : Nat) : Int)) rfl) ?_
          refine Wl_v (r_mv (v := .int .i64 ((gnum bs p nn).2.2)) rfl) ?_
          refine Wl_v (r_as (v := .int .u64 ((gnum bs p nn).1)) rfl) ?_
          refine Wl_v (r_as (v := .slice none 0 0) rfl) ?_
          refine Wl_v (r_as (v := .int .i64 (((gnum bs p nn).2.1 : Nat) : Int)) rfl) ?_
          refine Wl_v (r_as (v := .int .i64 ((gnum bs p nn).2.2)) rfl) ?_
          refine Wl_nil ?_
          refine W_ret ?_
          refine ret_end (v := .tuple #[.int .u64 ((gnum bs p nn).1), .slice none 0 0, .int .i64 (((gnum bs p nn).2.1 : Nat) : Int), .int .i64 ((gnum bs p nn).2.2)]) rfl (res4 Try.results32 rfl rfl rfl rfl) ?_
          rw [stp_4 q5]
          exact ⟨_, rfl, none, 0, 0, (vtup4 (by first | rfl | exact vint (by omega)) rfl (by first | rfl | exact vint (by omega)) (by first | rfl | exact vint (by omega))), (by first | exact Sl.nil _ _ 1 | simpa using Sl.nil _ _ 1), (by first | rfl | omega), HU⟩
        · rw [decide_eq_false q5]
          refine W_cond_f rfl ?_
          refine W_seq ?_
          refine W_region ?_
          refine Wl_v (r_eq rfl rfl) ?_
          refine Wl_v (r_as (v := .bool (decide (kd = 5))) rfl) ?_
          refine Wl_nil ?_
          by_cases q6 : kd = 5
          · rw [decide_eq_true q6]
            refine W_cond_t rfl ?_
            refine W_seq ?_
            refine W_region ?_
            refine Wl_v (r_mv (v := .slice a n c) rfl) ?_
            refine Wl_v (r_mv (v := .int .i64 ((p : Nat) : Int)) rfl) ?_
            refine Wl_v (r_fld Try.underlying56 rfl Try.sizeOf3 rfl rfl) ?_
            refine Wl_load (v := .int .i64 nn) Try.isAgg3 rfl hb1 rfl ?_
            refine Wl_call (r_call3 rfl Try.call34 rfl rfl rfl) (rbytes_spec _ hs hb (by omega) (by omega)) ?_
            rintro v w7 ⟨a7, m7, c7, rfl, hB7, hm_7, hU7⟩
            have hzw7 := hU7.size
            replace hs := hs.upd0 hU7
            replace HU := HU.trans0 hU7
            replace hb1 := hb1.upd0 hU7
            have hl_hB7 := ilen hB7
            have hc_hB7 := hB7.cap.1
            refine Wl_v (r_mv (v := .tuple #[.slice a7 m7 c7, .int .i64 (((gbytes bs p nn).2.1 : Nat) : Int), .int .i64 ((gbytes bs p nn).2.2)]) rfl) ?_
            refine Wl_v (r_ext (v := .slice a7 m7 c7) rfl rfl) ?_
            refine Wl_v (r_ext (v := .int .i64 (((gbytes bs p nn).2.1 : Nat) : Int)) rfl rfl) ?_
            refine Wl_v (r_ext (v := .int .i64 ((gbytes bs p nn).2.2)) rfl rfl) ?_
            refine Wl_v (r_as (v := .slice a7 m7 c7) rfl) ?_
            refine Wl_v (r_as (v := .int .i64 (((gbytes bs p nn).2.1 : Nat) : Int)) rfl) ?_
            refine Wl_v (r_as (v := .int .i64 ((gbytes bs p nn).2.2)) rfl) ?_
            refine Wl_nil ?_
            refine W_seq ?_
            refine W_region ?_
            refine Wl_v (r_mv (v := .slice a7 m7 c7) rfl) ?_
            refine Wl_v (r_mv (v := .int .i64 (((gbytes bs p nn).2.1 : Nat) : Int)) rfl) ?_
            refine Wl_v (r_mv (v := .int .i64 ((gbytes bs p nn).2.2)) rfl) ?_
            refine Wl_v (r_as (v := .int .u64 0) rfl) ?_
            refine Wl_v (r_as (v := .slice a7 m7 c7) rfl) ?_
            refine Wl_v (r_as (v := .int .i64 (((gbytes bs p nn).2.1 : Nat) : Int)) rfl) ?_
            refine Wl_v (r_as (v := .int .i64 ((gbytes bs p nn).2.2)) rfl) ?_
            refine Wl_nil ?_
            refine W_ret ?_
            refine ret_end (v := .tuple #[.int .u64 0, .slice a7 m7 c7, .int .i64 (((gbytes bs p nn).2.1 : Nat) : Int), .int .i64 ((gbytes bs p nn).2.2)]) rfl (res4 Try.results32 rfl rfl rfl rfl) ?_
            rw [stp_5 q6]
            exact ⟨_, rfl, a7, m7, c7, (vtup4 (by first | rfl | exact vint (by omega)) rfl (by first | rfl | exact vint (by omega)) (by first | rfl | exact vint (by omega))), (by first | exact hB7.weak (by intro g hg; have h3 : ((R g) ∧ g < w.heap.size) := hg; exact h3.1) | simpa using hB7.weak (by intro g hg; have h3 : ((R g) ∧ g < w.heap.size) := hg; exact h3.1)), (by first | rfl | omega), HU⟩
          · rw [decide_eq_false q6]
            refine W_cond_f rfl ?_
            refine W_skip ?_
            refine W_seq ?_
            refine W_seq ?_
            refine W_region ?_
            refine Wl_v (r_mv (v := .int .i64 ((p : Nat) : Int)) rfl) ?_
            refine Wl_v (r_mv (v := .slice a n c) rfl) ?_
            refine Wl_v (r_len Try.underlying22 rfl) ?_
            refine Wl_v (r_lt rfl rfl) ?_
            refine Wl_nil ?_
            by_cases q7 : ((p : Nat) : Int) < ((n : Nat) : Int)
            · rw [decide_eq_true q7]
              refine W_cond_t rfl ?_
              refine W_seq ?_
              refine W_region ?_
              refine Wl_v (r_mv (v := .int .i64 ((p : Nat) : Int)) rfl) ?_
              refine Wl_v (r_as (v := .int .u64 0) rfl) ?_
              refine Wl_v (r_as (v := .slice none 0 0) rfl) ?_
              refine Wl_v (r_as (v := .int .i64 ((p : Nat) : Int)) rfl) ?_
              refine Wl_v (r_as (v := .int .i64 4) rfl) ?_
              refine Wl_nil ?_
              refine W_ret ?_
              refine ret_end (v := .tuple #[.int .u64 0, .slice none 0 0, .int .i64 ((p : Nat) : Int), .int .i64 4]) rfl (res4 Try.results32 rfl rfl rfl rfl) ?_
              rw [stp_e ⟨q1, q3, q4, q5, q6⟩, if_pos (by omega)]
              exact ⟨_, rfl, none, 0, 0, (vtup4 (by first | rfl | exact vint (by omega)) rfl (by first | rfl | exact vint (by omega)) (by first | rfl | exact vint (by omega))), (by first | exact Sl.nil _ _ 1 | simpa using Sl.nil _ _ 1), (by first | rfl | omega), HU⟩
            · rw [decide_eq_false q7]
              refine W_cond_f rfl ?_
              refine W_skip ?_
              refine W_seq ?_
              refine W_region ?_
              refine Wl_v (r_mv (v := .int .i64 ((p : Nat) : Int)) rfl) ?_
              refine Wl_v (r_as (v := .int .u64 0) rfl) ?_
              refine Wl_v (r_as (v := .slice none 0 0) rfl) ?_
              refine Wl_v (r_as (v := .int .i64 ((p : Nat) : Int)) rfl) ?_
              refine Wl_v (r_as (v := .int .i64 0) rfl) ?_
              refine Wl_nil ?_
              refine W_ret ?_
              refine ret_end (v := .tuple #[.int .u64 0, .slice none 0 0, .int .i64 ((p : Nat) : Int), .int .i64 0]) rfl (res4 Try.results32 rfl rfl rfl rfl) ?_
              rw [stp_e ⟨q1, q3, q4, q5, q6⟩, if_neg (by omega)]
              exact ⟨_, rfl, none, 0, 0, (vtup4 (by first | rfl | exact vint (by omega)) rfl (by first | rfl | exact vint (by omega)) (by first | rfl | exact vint (by omega))), (by first | exact Sl.nil _ _ 1 | simpa using Sl.nil _ _ 1), (by first | rfl | omega), HU⟩

set_option maxRecDepth 100000 in
theorem ask_spec {pb : Nat} {a : Option Addr} {n c p : Nat} {bs : List Int} {kd nn : Int} (w : World) (hp : Blk w pb [.slice a n c, .int .i64 ((p : Nat) : Int)]) (hs : Sl w (fun g => g < w.heap.size ∧ g ≠ pb) 1 (.slice a n c) n (ints .u8 bs)) (hb : Byt bs) (hpn : p ≤ n) (hn : n ≤ 140737488355328) (hnn : -9223372036854775808 ≤ nn ∧ nn ≤ 9223372036854775807) :
    Calls Try.prog 31 #[.pointer (some ⟨pb, 0, none⟩), .agg #[.int .i64 kd, .int .i64 nn]] w (Ret fun v w' => ∃ (a' : Option Addr) (m' : Nat) (c' : Nat), v = .tuple #[.int .u64 ((stp bs p kd nn).1), .slice a' m' c', .int .i64 ((stp bs p kd nn).2.2.2)] ∧ Blk w' pb [.slice a n c, .int .i64 (((stp bs p kd nn).2.2.1 : Nat) : Int)] ∧ Own w' (fun g => w.heap.size ≤ g) 5 1 (.slice a' m' c') m' (ints .u8 ((stp bs p kd nn).2.1)) ∧ (stp bs p kd nn).2.1.length = m' ∧ Upd (Is pb) w w') := by
  have HU : Upd (fun b => b = pb) w w := Upd.refl _ _
  have hbl_hp := hp.lt
  have hl_hs := ilen hs
  have hc_hs := hs.cap.1
  have hgw := gword_le hb p
  have hgn := gnum_props (bs := bs) (p := p) (most := nn) (by omega)
  have hgb := gbyte_le hb p
  refine calls_of_W Try.func31 rfl Try.ntmps31 (by simp) ?_
  refine W_seq ?_
  refine W_region ?_
  refine Wl_box (v := .agg #[.int .i64 kd, .int .i64 nn]) (cs := [.int .i64 kd, .int .i64 nn]) rfl rfl ?_
  intro B1 w1 hB1 hU1 hzz1 hb1
  have hzw1 := hU1.size
  replace hp := hp.upd0 hU1
  replace hs := hs.upd0 hU1
  replace HU := HU.trans0 hU1
  refine Wl_v (r_as (v := .int .u64 0) rfl) ?_
  refine Wl_v (r_as (v := .slice none 0 0) rfl) ?_
  refine Wl_v (r_as (v := .int .i64 0) rfl) ?_
  refine Wl_nil ?_
  refine W_seq ?_
  refine W_seq ?_
  refine W_region ?_
  refine Wl_v (r_fld Try.underlying56 rfl Try.sizeOf3 rfl rfl) ?_
  refine Wl_load (v := .int .i64 kd) Try.isAgg3 rfl hb1 rfl ?_
  refine Wl_nil ?_
  refine W_block ?_
  refine W_seq ?_
  refine W_region ?_
  refine Wl_v (r_eq rfl rfl) ?_
  refine Wl_v (r_as (v := .bool (decide (kd = 1))) rfl) ?_
  refine Wl_nil ?_
  by_cases q1 : kd = 1
  · rw [decide_eq_true q1]
    refine W_cond_t rfl ?_
    refine W_seq ?_
    refine W_region ?_
    refine Wl_v (r_mv (v := .pointer (some ⟨pb, 0, none⟩)) rfl) ?_
    refine Wl_call (r_call1 rfl Try.call40 rfl) (byte_spec _ hp (hs.cur (by intro h1; have h3 : (pb < w.heap.size ∧ pb ≠ pb) := h1; first | omega | simp at h3)) hb (by omega) (by omega)) ?_
    rintro v w2 ⟨rfl, hp2, hU2⟩
    have hzw2 := hU2.size
    replace hs := hs.upd1 hU2 (by intro h1; have h3 : (pb < w.heap.size ∧ pb ≠ pb) := h1; omega)
    replace HU := HU.trans1 hU2 (by show (pb = pb) ∨ w.heap.size ≤ pb; omega)
    replace hb1 := hb1.upd1 hU2 (by omega)
    have hbl_hp2 := hp2.lt
    refine Wl_v (r_mv (v := .tuple #[.int .u8 ((gbyte bs p).1), .int .i64 ((gbyte bs p).2.2)]) rfl) ?_
    refine Wl_v (r_ext (v := .int .u8 ((gbyte bs p).1)) rfl rfl) ?_
    refine Wl_v (r_ext (v := .int .i64 ((gbyte bs p).2.2)) rfl rfl) ?_
    refine Wl_v (r_as (v := .int .u8 ((gbyte bs p).1)) rfl) ?_
    refine Wl_v (r_as (v := .int .i64 ((gbyte bs p).2.2)) rfl) ?_
    refine Wl_nil ?_
    refine W_seq ?_
    refine W_region ?_
    refine Wl_v (r_mv (v := .int .u8 ((gbyte bs p).1)) rfl) ?_
    refine Wl_v (r_cvt Try.underlying5 Try.underlying24 rfl (wu64 (by omega) (by omega))) ?_
    refine Wl_v (r_mv (v := .int .i64 ((gbyte bs p).2.2)) rfl) ?_
    refine Wl_v (r_as (v := .int .u64 ((gbyte bs p).1)) rfl) ?_
    refine Wl_v (r_as (v := .slice none 0 0) rfl) ?_
    refine Wl_v (r_as (v := .int .i64 ((gbyte bs p).2.2)) rfl) ?_
    refine Wl_nil ?_
    refine W_ret ?_
    refine ret_end (v := .tuple #[.int .u64 ((gbyte bs p).1), .slice none 0 0, .int .i64 ((gbyte bs p).2.2)]) rfl (res3 Try.results31 rfl rfl rfl) ?_
    rw [stp_1 q1]
    exact ⟨_, rfl, none, 0, 0, (vtup3 (by first | rfl | exact vint (by omega)) rfl (by first | rfl | exact vint (by omega))), (by first | exact hp2 | simpa using hp2), (by first | exact Own.nil _ _ 5 1 | simpa using Own.nil _ _ 5 1), (by first | rfl | omega), HU⟩
  · rw [decide_eq_false q1]
    refine W_cond_f rfl ?_
    refine W_seq ?_
    refine W_region ?_
    refine Wl_v (r_eq rfl rfl) ?_
    refine Wl_v (r_as (v := .bool (decide (kd = 2))) rfl) ?_
    refine Wl_nil ?_
    by_cases q2 : kd = 2
    · rw [decide_eq_true q2]
      refine W_cond_t rfl ?_
      refine W_seq ?_
      refine W_region ?_
      refine Wl_v (r_mv (v := .pointer (some ⟨pb, 0, none⟩)) rfl) ?_
      refine Wl_call (r_call1 rfl Try.call28 rfl) (cword_spec _ hp (hs.cur (by intro h1; have h3 : (pb < w.heap.size ∧ pb ≠ pb) := h1; first | omega | simp at h3)) hb (by omega) (by omega)) ?_
      rintro v w3 ⟨rfl, hp3, hU3⟩
      have hzw3 := hU3.size
      replace hs := hs.upd1 hU3 (by intro h1; have h3 : (pb < w.heap.size ∧ pb ≠ pb) := h1; omega)
      replace HU := HU.trans1 hU3 (by show (pb = pb) ∨ w.heap.size ≤ pb; omega)
      replace hb1 := hb1.upd1 hU3 (by omega)
      have hbl_hp3 := hp3.lt
      refine Wl_v (r_mv (v := .tuple #[.int .u32 ((gword bs p).1), .int .i64 ((gword bs p).2.2)]) rfl) ?_
      refine Wl_v (r_ext (v := .int .u32 ((gword bs p).1)) rfl rfl) ?_
      refine Wl_v (r_ext (v := .int .i64 ((gword bs p).2.2)) rfl rfl) ?_
      refine Wl_v (r_as (v := .int .u32 ((gword bs p).1)) rfl) ?_
      refine Wl_v (r_as (v := .int .i64 ((gword bs p).2.2)) rfl) ?_
      refine Wl_nil ?_
      refine W_seq ?_
      refine W_region ?_
      refine Wl_v (r_mv (v := .int .u32 ((gword bs p).1)) rfl) ?_
      refine Wl_v (r_cvt Try.underlying23 Try.underlying24 rfl (wu64 (by omega) (by omega))) ?_
      refine Wl_v (r_mv (v := .int .i64 ((gword bs p).2.2)) rfl) ?_
      refine Wl_v (r_as (v := .int .u64 ((gword bs p).1)) rfl) ?_
      refine Wl_v (r_as (v := .slice none 0 0) rfl) ?_
      refine Wl_v (r_as (v := .int .i64 ((gword bs p).2.2)) rfl) ?_
      refine Wl_nil ?_
      refine W_ret ?_
      refine ret_end (v := .tuple #[.int .u64 ((gword bs p).1), .slice none 0 0, .int .i64 ((gword bs p).2.2)]) rfl (res3 Try.results31 rfl rfl rfl) ?_
      rw [stp_2 q2]
      exact ⟨_, rfl, none, 0, 0, (vtup3 (by first | rfl | exact vint (by omega)) rfl (by first | rfl | exact vint (by omega))), (by first | exact hp3 | simpa using hp3), (by first | exact Own.nil _ _ 5 1 | simpa using Own.nil _ _ 5 1), (by first | rfl | omega), HU⟩
    · rw [decide_eq_false q2]
      refine W_cond_f rfl ?_
      refine W_seq ?_
      refine W_region ?_
      refine Wl_v (r_eq rfl rfl) ?_
      refine Wl_v (r_as (v := .bool (decide (kd = 3))) rfl) ?_
      refine Wl_nil ?_
      by_cases q3 : kd = 3
      · rw [decide_eq_true q3]
        refine W_cond_t rfl ?_
        refine W_seq ?_
        refine W_region ?_
        refine Wl_v (r_mv (v := .pointer (some ⟨pb, 0, none⟩)) rfl) ?_
        refine Wl_call (r_call1 rfl Try.call22 rfl) (cvarint_spec _ hp (hs.cur (by intro h1; have h3 : (pb < w.heap.size ∧ pb ≠ pb) := h1; first | omega | simp at h3)) hb (by omega) (by omega)) ?_
        rintro v w4 ⟨rfl, hp4, hU4⟩
        have hzw4 := hU4.size
        replace hs := hs.upd1 hU4 (by intro h1; have h3 : (pb < w.heap.size ∧ pb ≠ pb) := h1; omega)
        replace HU := HU.trans1 hU4 (by show (pb = pb) ∨ w.heap.size ≤ pb; omega)
        replace hb1 := hb1.upd1 hU4 (by omega)
        have hbl_hp4 := hp4.lt
        refine Wl_v (r_mv (v := .tuple #[.int .u64 ((gvar bs p).1), .int .i64 ((gvar bs p).2.2)]) rfl) ?_
        refine Wl_v (r_ext (v := .int .u64 ((gvar bs p).1)) rfl rfl) ?_
        refine Wl_v (r_ext (v := .int .i64 ((gvar bs p).2.2)) rfl rfl) ?_
        refine Wl_v (r_as (v := .int .u64 ((gvar bs p).1)) rfl) ?_
        refine Wl_v (r_as (v := .int .i64 ((gvar bs p).2.2)) rfl) ?_
        refine Wl_nil ?_
        refine W_seq ?_
        refine W_region ?_
        refine Wl_v (r_mv (v := .int .u64 ((gvar bs p).1)) rfl) ?_
        refine Wl_v (r_mv (v := .int .i64 ((gvar bs p).2.2)) rfl) ?_
        refine Wl_v (r_as (v := .int .u64 ((gvar bs p).1)) rfl) ?_
        refine Wl_v (r_as (v := .slice none 0 0) rfl) ?_
        refine Wl_v (r_as (v := .int .i64 ((gvar bs p).2.2)) rfl) ?_
        refine Wl_nil ?_
        refine W_ret ?_
        refine ret_end (v := .tuple #[.int .u64 ((gvar bs p).1), .slice none 0 0, .int .i64 ((gvar bs p).2.2)]) rfl (res3 Try.results31 rfl rfl rfl) ?_
        rw [stp_3 q3]
        exact ⟨_, rfl, none, 0, 0, (vtup3 (by first | rfl | exact vint (by omega)) rfl (by first | rfl | exact vint (by omega))), (by first | exact hp4 | simpa using hp4), (by first | exact Own.nil _ _ 5 1 | simpa using Own.nil _ _ 5 1), (by first | rfl | omega), HU⟩
      · rw [decide_eq_false q3]
        refine W_cond_f rfl ?_
        refine W_seq ?_
        refine W_region ?_
        refine Wl_v (r_eq rfl rfl) ?_
        refine Wl_v (r_as (v := .bool (decide (kd = 4))) rfl) ?_
        refine Wl_nil ?_
        by_cases q4 : kd = 4
        · rw [decide_eq_true q4]
          refine W_cond_t rfl ?_
          refine W_seq ?_
          refine W_region ?_
          refine Wl_v (r_mv (v := .pointer (some ⟨pb, 0, none⟩)) rfl) ?_
          refine Wl_v (r_fld Try.underlying56 rfl Try.sizeOf3 rfl rfl) ?_
          refine Wl_load (v := .int .i64 nn) Try.isAgg3 rfl hb1 rfl ?_
          refine Wl_call (r_call2 rfl Try.call37 rfl rfl) (cnumber_spec _ hp (hs.cur (by intro h1; have h3 : (pb < w.heap.size ∧ pb ≠ pb) := h1; first | omega | simp at h3)) hb (by omega) (by omega) (by omega)) ?_
          rintro v w5 ⟨rfl, hp5, hU5⟩
          have hzw5 := hU5.size
          replace hs := hs.upd1 hU5 (by intro h1; have h3 : (pb < w.heap.size ∧ pb ≠ pb) := h1; omega)
          replace HU := HU.trans1 hU5 (by show (pb = pb) ∨ w.heap.size ≤ pb; omega)
          replace hb1 := hb1.upd1 hU5 (by omega)
          have hbl_hp5 := hp5.lt
          refine Wl_v (r_mv (v := .tuple #[.int .i64 ((gnum bs p nn).1), .int .i64 ((gnum bs p nn).2.2)]) rfl) ?_
          refine Wl_v (r_ext (v := .int .i64 ((gnum bs p nn).1)) rfl rfl) ?_
          refine Wl_v (r_ext (v := .int .i64 ((gnum bs p nn).2.2)) rfl rfl) ?_
          refine Wl_v (r_as (v := .int .i64 ((gnum bs p nn).1)) rfl) ?_
          refine Wl_v (r_as (v := .int .i64 ((gnum bs p nn).2.2)) rfl) ?_
          refine Wl_nil ?_
          refine W_seq ?_
          refine W_region ?_
          refine Wl_v (r_mv (v := .int .i64 ((gnum bs p nn).1)) rfl) ?_
          refine Wl_v (r_cvt Try.underlying3 Try.underlying24 rfl (wu64 (by omega) (by omega))) ?_
          refine Wl_v (r_mv (v := .int .i64 ((gnum bs p nn).2.2)) rfl) ?_
          refine Wl_v (r_as (v := .int .u64 ((gnum bs p nn).1)) rfl) ?_
          refine Wl_v (r_as (v := .slice none 0 0) rfl) ?_
          refine Wl_v (r_as (v := .int .i64 ((gnum bs p nn).2.2)) rfl) ?_
          refine Wl_nil ?_
          refine W_ret ?_
          refine ret_end (v := .tuple #[.int .u64 ((gnum bs p nn).1), .slice none 0 0, .int .i64 ((gnum bs p nn).2.2)]) rfl (res3 Try.results31 rfl rfl rfl) ?_
          rw [stp_4 q4]
          exact ⟨_, rfl, none, 0, 0, (vtup3 (by first | rfl | exact vint (by omega)) rfl (by first | rfl | exact vint (by omega))), (by first | exact hp5 | simpa using hp5), (by first | exact Own.nil _ _ 5 1 | simpa using Own.nil _ _ 5 1), (by first | rfl | omega), HU⟩
        · rw [decide_eq_false q4]
          refine W_cond_f rfl ?_
          refine W_seq ?_
          refine W_region ?_
          refine Wl_v (r_eq rfl rfl) ?_
          refine Wl_v (r_as (v := .bool (decide (kd = 5))) rfl) ?_
          refine Wl_nil ?_
          by_cases q5 : kd = 5
          · rw [decide_eq_true q5]
            refine W_cond_t rfl ?_
            refine W_seq ?_
            refine W_region ?_
            refine Wl_v (r_mv (v := .pointer (some ⟨pb, 0, none⟩)) rfl) ?_
            refine Wl_v (r_fld Try.underlying56 rfl Try.sizeOf3 rfl rfl) ?_
            refine Wl_load (v := .int .i64 nn) Try.isAgg3 rfl hb1 rfl ?_
            refine Wl_call (r_call2 rfl Try.call26 rfl rfl) (bytes_spec _ hp (hs.cur (by intro h1; have h3 : (pb < w.heap.size ∧ pb ≠ pb) := h1; first | omega | simp at h3)) hb (by omega) (by omega)) ?_
            rintro v w6 ⟨a6, m6, c6, rfl, hp6, hO6, hm_6, hU6⟩
            have hzw6 := hU6.size
            replace hs := hs.upd1 hU6 (by intro h1; have h3 : (pb < w.heap.size ∧ pb ≠ pb) := h1; omega)
            replace HU := HU.trans1 hU6 (by show (pb = pb) ∨ w.heap.size ≤ pb; omega)
            replace hb1 := hb1.upd1 hU6 (by omega)
            have hbl_hp6 := hp6.lt
            replace hO6 := hO6.tight
            have hl_hO6 := ilen hO6.sl
            have hc_hO6 := hO6.sl.cap.1
            refine Wl_v (r_mv (v := .tuple #[.slice a6 m6 c6, .int .i64 ((gbytes bs p nn).2.2)]) rfl) ?_
            refine Wl_v (r_ext (v := .slice a6 m6 c6) rfl rfl) ?_
            refine Wl_v (r_ext (v := .int .i64 ((gbytes bs p nn).2.2)) rfl rfl) ?_
            refine Wl_v (r_as (v := .slice a6 m6 c6) rfl) ?_
            refine Wl_v (r_as (v := .int .i64 ((gbytes bs p nn).2.2)) rfl) ?_
            refine Wl_nil ?_
            refine W_seq ?_
            refine W_region ?_
            refine Wl_v (r_mv (v := .slice a6 m6 c6) rfl) ?_
            refine Wl_v (r_mv (v := .int .i64 ((gbytes bs p nn).2.2)) rfl) ?_
            refine Wl_v (r_as (v := .int .u64 0) rfl) ?_
            refine Wl_v (r_as (v := .slice a6 m6 c6) rfl) ?_
            refine Wl_v (r_as (v := .int .i64 ((gbytes bs p nn).2.2)) rfl) ?_
            refine Wl_nil ?_
            refine W_ret ?_
            refine ret_end (v := .tuple #[.int .u64 0, .slice a6 m6 c6, .int .i64 ((gbytes bs p nn).2.2)]) rfl (res3 Try.results31 rfl rfl rfl) ?_
            rw [stp_5 q5]
            exact ⟨_, rfl, a6, m6, c6, (vtup3 (by first | rfl | exact vint (by omega)) rfl (by first | rfl | exact vint (by omega))), (by first | exact hp6 | simpa using hp6), (by first | exact hO6.weak (by intro g hg; have h3 : ((w1.heap.size ≤ g) ∧ g < w6.heap.size) := hg; show w.heap.size ≤ g; omega) | simpa using hO6.weak (by intro g hg; have h3 : ((w1.heap.size ≤ g) ∧ g < w6.heap.size) := hg; show w.heap.size ≤ g; omega)), (by first | rfl | omega), HU⟩
          · rw [decide_eq_false q5]
            refine W_cond_f rfl ?_
            refine W_skip ?_
            refine W_seq ?_
            refine W_region ?_
            refine Wl_v (r_mv (v := .pointer (some ⟨pb, 0, none⟩)) rfl) ?_
            refine Wl_call (r_call1 rfl Try.call30 rfl) (end_spec _ hp (hs.cur (by intro h1; have h3 : (pb < w.heap.size ∧ pb ≠ pb) := h1; first | omega | simp at h3)) hb (by omega) (by omega)) ?_
            rintro v w7 ⟨rfl, hU7⟩
            have hzw7 := hU7.size
            replace hp := hp.upd0 hU7
            replace hs := hs.upd0 hU7
            replace HU := HU.trans0 hU7
            replace hb1 := hb1.upd0 hU7
            refine Wl_v (r_as (v := .int .u64 0) rfl) ?_
            refine Wl_v (r_as (v := .slice none 0 0) rfl) ?_
            refine Wl_v (r_as (v := .int .i64 (if p < n then 4 else 0)) rfl) ?_
            refine Wl_nil ?_
            refine W_ret ?_
            refine ret_end (v := .tuple #[.int .u64 0, .slice none 0 0, .int .i64 (if p < n then 4 else 0)]) rfl (res3 Try.results31 rfl rfl rfl) ?_
            rw [stp_e ⟨q1, q2, q3, q4, q5⟩]
            rw [hl_hs]
            exact ⟨_, rfl, none, 0, 0, (vtup3 (by first | rfl | exact vint (by omega)) rfl (by first | rfl | exact vint (by omega))), (by first | exact hp | simpa using hp), (by first | exact Own.nil _ _ 5 1 | simpa using Own.nil _ _ 5 1), (by first | rfl | omega), HU⟩

theorem reads_spec {a : Option Addr} {n c : Nat} {bs : List Int} {R : Nat → Prop} (w : World) (hs : Sl w R 1 (.slice a n c) n (ints .u8 bs)) (hb : Byt bs) (hn : n ≤ 140737488355328) :
    Calls Try.prog 23 #[.slice a n c] w (Ret fun v w' => v = .int .i64 ((gvar bs 0).2.2) ∧ Upd No w w') := by
  have HU : Upd (fun b => False) w w := Upd.refl _ _
  have hl_hs := ilen hs
  have hc_hs := hs.cap.1
  replace hs := hs.tight
  refine calls_of_W Try.func23 rfl Try.ntmps23 (by simp) ?_
  refine W_seq ?_
  refine W_region ?_
  refine Wl_v (r_as (v := .int .i64 0) rfl) ?_
  refine Wl_nil ?_
  refine W_seq ?_
  refine W_region ?_
  refine Wl_v (r_mv (v := .slice a n c) rfl) ?_
  refine Wl_call (r_call1 rfl Try.call21 rfl) (new_spec _ hs.any (by omega)) ?_
  rintro v w1 ⟨pb1, a1, c1, rfl, hp1, hO1, hpg_1, hU1⟩
  have hzw1 := hU1.size
  replace hs := hs.upd0 hU1
  replace HU := HU.trans0 hU1
  have hbl_hp1 := hp1.lt
  replace hO1 := hO1.tight
  have hl_hO1 := ilen hO1.sl
  have hc_hO1 := hO1.sl.cap.1
  refine Wl_call (r_call1 rfl Try.call22 rfl) (cvarint_spec (p := 0) _ hp1 (hO1.sl.cur (by intro h1; have h3 : ((w.heap.size ≤ pb1 ∧ pb1 ≠ pb1) ∧ pb1 < w1.heap.size) := h1; first | omega | simp at h3)) hb (by omega) (by omega)) ?_
  rintro v w2 ⟨rfl, hp2, hU2⟩
  have hzw2 := hU2.size
  replace hs := hs.upd1 hU2 (by intro h1; have h3 : ((R pb1) ∧ pb1 < w.heap.size) := h1; omega)
  replace HU := HU.trans1 hU2 (by show (False) ∨ w.heap.size ≤ pb1; omega)
  replace hO1 := hO1.upd1 hU2 (by intro h1; have h3 : ((w.heap.size ≤ pb1 ∧ pb1 ≠ pb1) ∧ pb1 < w1.heap.size) := h1; omega)
  have hbl_hp2 := hp2.lt
  refine Wl_v (r_mv (v := .tuple #[.int .u64 ((gvar bs 0).1), .int .i64 ((gvar bs 0).2.2)]) rfl) ?_
  refine Wl_v (r_ext (v := .int .u64 ((gvar bs 0).1)) rfl rfl) ?_
  refine Wl_v (r_ext (v := .int .i64 ((gvar bs 0).2.2)) rfl rfl) ?_
  refine Wl_v (r_as (v := .int .u64 ((gvar bs 0).1)) rfl) ?_
  refine Wl_v (r_as (v := .int .i64 ((gvar bs 0).2.2)) rfl) ?_
  refine Wl_nil ?_
  refine W_seq ?_
  refine W_region ?_
  refine Wl_v (r_mv (v := .int .i64 ((gvar bs 0).2.2)) rfl) ?_
  refine Wl_v (r_as (v := .int .i64 ((gvar bs 0).2.2)) rfl) ?_
  refine Wl_nil ?_
  refine W_ret ?_
  refine ret_end (v := .int .i64 ((gvar bs 0).2.2)) rfl (res1 Try.results23 rfl) ?_
  exact ⟨_, rfl, rfl, HU⟩

set_option maxRecDepth 100000 in
theorem known_spec  (w : World)  :
    Calls Try.prog 19 #[] w (Ret fun v w' => v = .bool true ∧ Upd No w w') := by
  have HU : Upd (fun b => False) w w := Upd.refl _ _
  refine calls_of_W Try.func19 rfl Try.ntmps19 (by simp) ?_
  refine W_seq ?_
  refine W_region ?_
  refine Wl_v (r_as (v := .bool false) rfl) ?_
  refine Wl_nil ?_
  refine W_seq ?_
  refine W_region ?_
  refine Wl_call (r_call2 rfl Try.call17 rfl rfl) (putvarint_spec (bs := []) _ (Sl.nil _ _ _) (by omega) (by omega) (by omega)) ?_
  rintro v w1 ⟨a1, c1, rfl, hO1, hU1⟩
  have hzw1 := hU1.size
  replace HU := HU.trans0 hU1
  replace hO1 := hO1.tight
  have hl_hO1 := ilen hO1.sl
  have hc_hO1 := hO1.sl.cap.1
  refine Wl_v (r_mv (v := .tuple #[.slice a1 (0 + (vi 300).length) c1, .int .i64 0]) rfl) ?_
  refine Wl_v (r_ext (v := .slice a1 (0 + (vi 300).length) c1) rfl rfl) ?_
  refine Wl_v (r_ext (v := .int .i64 0) rfl rfl) ?_
  refine Wl_v (r_as (v := .slice a1 (0 + (vi 300).length) c1) rfl) ?_
  refine Wl_v (r_as (v := .int .i64 0) rfl) ?_
  refine Wl_nil ?_
  refine W_seq ?_
  refine W_region ?_
  refine Wl_lit (pv := [(0, .int .u8 10)]) (cs := [.int .u8 10]) Try.underlying22 Try.sizeOf5 Try.zeroValue5 (by decide) (by decide) (by simp only [List.map_toArray, List.map_cons, List.map_nil] <;> rfl) (by kernel_rfl) rfl (by decide) ?_
  intro B2 w2 hB2 hU2 hzz2 hs2
  have hzw2 := hU2.size
  replace HU := HU.trans0 hU2
  replace hO1 := hO1.upd0 hU2
  replace hs2 : Own w2 (Is B2) 5 1 (.slice (some ⟨B2, 0, none⟩) 1 1) 1 (ints .u8 [10]) := hs2
  refine Wl_call (r_call1 rfl Try.call21 rfl) (new_spec _ hs2.sl.any (by omega)) ?_
  rintro v w3 ⟨pb3, a3, c3, rfl, hp3, hO3, hpg_3, hU3⟩
  have hzw3 := hU3.size
  replace HU := HU.trans0 hU3
  replace hO1 := hO1.upd0 hU3
  replace hs2 := hs2.upd0 hU3
  have hbl_hp3 := hp3.lt
  replace hO3 := hO3.tight
  have hl_hO3 := ilen hO3.sl
  have hc_hO3 := hO3.sl.cap.1
  refine Wl_call (r_call2 rfl Try.call37 rfl rfl) (cnumber_spec (p := 0) _ hp3 (hO3.sl.cur (by intro h1; have h3 : ((w2.heap.size ≤ pb3 ∧ pb3 ≠ pb3) ∧ pb3 < w3.heap.size) := h1; first | omega | simp at h3)) (by intro x hx; simp at hx; omega) (by omega) (by omega) (by omega)) ?_
  rintro v w4 ⟨rfl, hp4, hU4⟩
  have hzw4 := hU4.size
  replace HU := HU.trans1 hU4 (by show (False) ∨ w.heap.size ≤ pb3; omega)
  replace hO1 := hO1.upd1 hU4 (by intro h1; have h3 : ((w.heap.size ≤ pb3) ∧ pb3 < w1.heap.size) := h1; omega)
  replace hs2 := hs2.upd1 hU4 (by intro h1; have h3 : pb3 = B2 := h1; omega)
  replace hO3 := hO3.upd1 hU4 (by intro h1; have h3 : ((w2.heap.size ≤ pb3 ∧ pb3 ≠ pb3) ∧ pb3 < w3.heap.size) := h1; omega)
  have hbl_hp4 := hp4.lt
  refine Wl_v (r_mv (v := .tuple #[.int .i64 ((gnum [10] 0 9).1), .int .i64 ((gnum [10] 0 9).2.2)]) rfl) ?_
  refine Wl_v (r_ext (v := .int .i64 ((gnum [10] 0 9).1)) rfl rfl) ?_
  refine Wl_v (r_ext (v := .int .i64 ((gnum [10] 0 9).2.2)) rfl rfl) ?_
  refine Wl_v (r_as (v := .int .i64 ((gnum [10] 0 9).1)) rfl) ?_
  refine Wl_v (r_as (v := .int .i64 ((gnum [10] 0 9).2.2)) rfl) ?_
  refine Wl_nil ?_
  refine W_seq ?_
  refine W_region ?_
  refine Wl_v (r_mv (v := .int .i64 0) rfl) ?_
  refine Wl_v (v := .bool true) (r_eq (a := 0) (b := 0) rfl rfl) ?_
  refine Wl_v (r_mv (v := .bool true) rfl) ?_
  refine Wl_guard_t rfl ?_
  refine Wl_v (r_mv (v := .slice a1 (0 + (vi 300).length) c1) rfl) ?_
  refine Wl_guard_t rfl ?_
  refine Wl_lit (pv := [(0, .int .u8 172), (1, .int .u8 2)]) (cs := [.int .u8 172, .int .u8 2]) Try.underlying22 Try.sizeOf5 Try.zeroValue5 (by decide) (by decide) (by simp only [List.map_toArray, List.map_cons, List.map_nil] <;> rfl) (by kernel_rfl) rfl (by decide) ?_
  intro B5 w5 hB5 hU5 hzz5 hs5
  have hzw5 := hU5.size
  replace HU := HU.trans0 hU5
  replace hO1 := hO1.upd0 hU5
  replace hs2 := hs2.upd0 hU5
  replace hO3 := hO3.upd0 hU5
  replace hp4 := hp4.upd0 hU5
  replace hs5 : Own w5 (Is B5) 5 1 (.slice (some ⟨B5, 0, none⟩) 2 2) 2 (ints .u8 [172, 2]) := hs5
  refine Wl_guard_t rfl ?_
  refine Wl_call (r_call2 rfl Try.call13 rfl rfl) (same_spec _ hO1.sl.any hs5.sl.any (byt_app byt_nil (vi_byt (by omega))) (by intro x hx; simp at hx; omega)) ?_
  rintro v w6 ⟨rfl, hU6⟩
  have hzw6 := hU6.size
  replace HU := HU.trans0 hU6
  replace hO1 := hO1.upd0 hU6
  replace hs2 := hs2.upd0 hU6
  replace hO3 := hO3.upd0 hU6
  replace hp4 := hp4.upd0 hU6
  replace hs5 := hs5.upd0 hU6
  refine Wl_v (r_pick_t (v := .bool (decide (([] ++ vi 300) = [172, 2]))) rfl rfl) ?_
  refine Wl_v (r_mv (v := .bool (decide (([] ++ vi 300) = [172, 2]))) rfl) ?_
  have q1 : ([] ++ vi 300) = [172, 2] := (by decide)
  rw [decide_eq_true q1]
  refine Wl_guard_t rfl ?_
  refine Wl_call (r_call2 rfl Try.call14 rfl rfl) (putword_spec (bs := []) _ (Sl.nil _ _ _) (by omega) (by omega) (by omega)) ?_
  rintro v w7 ⟨a7, c7, rfl, hO7, hU7⟩
  have hzw7 := hU7.size
  replace HU := HU.trans0 hU7
  replace hO1 := hO1.upd0 hU7
  replace hs2 := hs2.upd0 hU7
  replace hO3 := hO3.upd0 hU7
  replace hp4 := hp4.upd0 hU7
  replace hs5 := hs5.upd0 hU7
  replace hO7 := hO7.tight
  have hl_hO7 := ilen hO7.sl
  have hc_hO7 := hO7.sl.cap.1
  refine Wl_guard_t rfl ?_
  refine Wl_lit (pv := [(0, .int .u8 1), (1, .int .u8 0), (2, .int .u8 0), (3, .int .u8 0)]) (cs := [.int .u8 1, .int .u8 0, .int .u8 0, .int .u8 0]) Try.underlying22 Try.sizeOf5 Try.zeroValue5 (by decide) (by decide) (by simp only [List.map_toArray, List.map_cons, List.map_nil] <;> rfl) (by kernel_rfl) rfl (by decide) ?_
  intro B8 w8 hB8 hU8 hzz8 hs8
  have hzw8 := hU8.size
  replace HU := HU.trans0 hU8
  replace hO1 := hO1.upd0 hU8
  replace hs2 := hs2.upd0 hU8
  replace hO3 := hO3.upd0 hU8
  replace hp4 := hp4.upd0 hU8
  replace hs5 := hs5.upd0 hU8
  replace hO7 := hO7.upd0 hU8
  replace hs8 : Own w8 (Is B8) 5 1 (.slice (some ⟨B8, 0, none⟩) 4 4) 4 (ints .u8 [1, 0, 0, 0]) := hs8
  refine Wl_guard_t rfl ?_
  refine Wl_call (r_call2 rfl Try.call13 rfl rfl) (same_spec _ hO7.sl.any hs8.sl.any (byt_app byt_nil (word_byt (by omega) (by omega))) (by intro x hx; simp at hx; omega)) ?_
  rintro v w9 ⟨rfl, hU9⟩
  have hzw9 := hU9.size
  replace HU := HU.trans0 hU9
  replace hO1 := hO1.upd0 hU9
  replace hs2 := hs2.upd0 hU9
  replace hO3 := hO3.upd0 hU9
  replace hp4 := hp4.upd0 hU9
  replace hs5 := hs5.upd0 hU9
  replace hO7 := hO7.upd0 hU9
  replace hs8 := hs8.upd0 hU9
  refine Wl_v (r_pick_t (v := .bool (decide (([] ++ word 1) = [1, 0, 0, 0]))) rfl rfl) ?_
  refine Wl_v (r_mv (v := .bool (decide (([] ++ word 1) = [1, 0, 0, 0]))) rfl) ?_
  have q2 : ([] ++ word 1) = [1, 0, 0, 0] := (by decide)
  rw [decide_eq_true q2]
  refine Wl_guard_t rfl ?_
  refine Wl_call (r_call1 rfl Try.call18 rfl) (size_spec _ (by omega) (by omega)) ?_
  rintro v w10 ⟨rfl, hU10⟩
  have hzw10 := hU10.size
  replace HU := HU.trans0 hU10
  replace hO1 := hO1.upd0 hU10
  replace hs2 := hs2.upd0 hU10
  replace hO3 := hO3.upd0 hU10
  replace hp4 := hp4.upd0 hU10
  replace hs5 := hs5.upd0 hU10
  replace hO7 := hO7.upd0 hU10
  replace hs8 := hs8.upd0 hU10
  refine Wl_guard_t rfl ?_
  refine Wl_v (r_eq rfl rfl) ?_
  refine Wl_v (r_pick_t (v := .bool (decide ((((vi 127).length : Nat) : Int) = 1))) rfl rfl) ?_
  refine Wl_v (r_mv (v := .bool (decide ((((vi 127).length : Nat) : Int) = 1))) rfl) ?_
  have q3 : (((vi 127).length : Nat) : Int) = 1 := (by decide)
  rw [decide_eq_true q3]
  refine Wl_guard_t rfl ?_
  refine Wl_call (r_call1 rfl Try.call18 rfl) (size_spec _ (by omega) (by omega)) ?_
  rintro v w11 ⟨rfl, hU11⟩
  have hzw11 := hU11.size
  replace HU := HU.trans0 hU11
  replace hO1 := hO1.upd0 hU11
  replace hs2 := hs2.upd0 hU11
  replace hO3 := hO3.upd0 hU11
  replace hp4 := hp4.upd0 hU11
  replace hs5 := hs5.upd0 hU11
  replace hO7 := hO7.upd0 hU11
  replace hs8 := hs8.upd0 hU11
  refine Wl_guard_t rfl ?_
  refine Wl_v (r_eq rfl rfl) ?_
  refine Wl_v (r_pick_t (v := .bool (decide ((((vi 128).length : Nat) : Int) = 2))) rfl rfl) ?_
  refine Wl_v (r_mv (v := .bool (decide ((((vi 128).length : Nat) : Int) = 2))) rfl) ?_
  have q4 : (((vi 128).length : Nat) : Int) = 2 := (by decide)
  rw [decide_eq_true q4]
  refine Wl_guard_t rfl ?_
  refine Wl_lit (pv := [(0, .int .u8 128), (1, .int .u8 0)]) (cs := [.int .u8 128, .int .u8 0]) Try.underlying22 Try.sizeOf5 Try.zeroValue5 (by decide) (by decide) (by simp only [List.map_toArray, List.map_cons, List.map_nil] <;> rfl) (by kernel_rfl) rfl (by decide) ?_
  intro B12 w12 hB12 hU12 hzz12 hs12
  have hzw12 := hU12.size
  replace HU := HU.trans0 hU12
  replace hO1 := hO1.upd0 hU12
  replace hs2 := hs2.upd0 hU12
  replace hO3 := hO3.upd0 hU12
  replace hp4 := hp4.upd0 hU12
  replace hs5 := hs5.upd0 hU12
  replace hO7 := hO7.upd0 hU12
  replace hs8 := hs8.upd0 hU12
  replace hs12 : Own w12 (Is B12) 5 1 (.slice (some ⟨B12, 0, none⟩) 2 2) 2 (ints .u8 [128, 0]) := hs12
  refine Wl_guard_t rfl ?_
  refine Wl_call (r_call1 rfl Try.call23 rfl) (reads_spec _ hs12.sl (by intro x hx; simp at hx; omega) (by omega)) ?_
  rintro v w13 ⟨rfl, hU13⟩
  have hzw13 := hU13.size
  replace HU := HU.trans0 hU13
  replace hO1 := hO1.upd0 hU13
  replace hs2 := hs2.upd0 hU13
  replace hO3 := hO3.upd0 hU13
  replace hp4 := hp4.upd0 hU13
  replace hs5 := hs5.upd0 hU13
  replace hO7 := hO7.upd0 hU13
  replace hs8 := hs8.upd0 hU13
  replace hs12 := hs12.upd0 hU13
  refine Wl_guard_t rfl ?_
  refine Wl_v (r_eq rfl rfl) ?_
  refine Wl_v (r_pick_t (v := .bool (decide (((gvar [128, 0] 0).2.2) = 5))) rfl rfl) ?_
  refine Wl_v (r_mv (v := .bool (decide (((gvar [128, 0] 0).2.2) = 5))) rfl) ?_
  have q5 : ((gvar [128, 0] 0).2.2) = 5 := (by decide)
  rw [decide_eq_true q5]
  refine Wl_guard_t rfl ?_
  refine Wl_lit (pv := [(0, .int .u8 128)]) (cs := [.int .u8 128]) Try.underlying22 Try.sizeOf5 Try.zeroValue5 (by decide) (by decide) (by simp only [List.map_toArray, List.map_cons, List.map_nil] <;> rfl) (by kernel_rfl) rfl (by decide) ?_
  intro B14 w14 hB14 hU14 hzz14 hs14
  have hzw14 := hU14.size
  replace HU := HU.trans0 hU14
  replace hO1 := hO1.upd0 hU14
  replace hs2 := hs2.upd0 hU14
  replace hO3 := hO3.upd0 hU14
  replace hp4 := hp4.upd0 hU14
  replace hs5 := hs5.upd0 hU14
  replace hO7 := hO7.upd0 hU14
  replace hs8 := hs8.upd0 hU14
  replace hs12 := hs12.upd0 hU14
  replace hs14 : Own w14 (Is B14) 5 1 (.slice (some ⟨B14, 0, none⟩) 1 1) 1 (ints .u8 [128]) := hs14
  refine Wl_guard_t rfl ?_
  refine Wl_call (r_call1 rfl Try.call23 rfl) (reads_spec _ hs14.sl (by intro x hx; simp at hx; omega) (by omega)) ?_
  rintro v w15 ⟨rfl, hU15⟩
  have hzw15 := hU15.size
  replace HU := HU.trans0 hU15
  replace hO1 := hO1.upd0 hU15
  replace hs2 := hs2.upd0 hU15
  replace hO3 := hO3.upd0 hU15
  replace hp4 := hp4.upd0 hU15
  replace hs5 := hs5.upd0 hU15
  replace hO7 := hO7.upd0 hU15
  replace hs8 := hs8.upd0 hU15
  replace hs12 := hs12.upd0 hU15
  replace hs14 := hs14.upd0 hU15
  refine Wl_guard_t rfl ?_
  refine Wl_v (r_eq rfl rfl) ?_
  refine Wl_v (r_pick_t (v := .bool (decide (((gvar [128] 0).2.2) = 3))) rfl rfl) ?_
  refine Wl_v (r_mv (v := .bool (decide (((gvar [128] 0).2.2) = 3))) rfl) ?_
  have q6 : ((gvar [128] 0).2.2) = 3 := (by decide)
  rw [decide_eq_true q6]
  refine Wl_guard_t rfl ?_
  refine Wl_lit (pv := [(0, .int .u8 128), (1, .int .u8 128), (2, .int .u8 128), (3, .int .u8 128), (4, .int .u8 128), (5, .int .u8 128), (6, .int .u8 128), (7, .int .u8 128), (8, .int .u8 128)]) (cs := [.int .u8 128, .int .u8 128, .int .u8 128, .int .u8 128, .int .u8 128, .int .u8 128, .int .u8 128, .int .u8 128, .int .u8 128]) Try.underlying22 Try.sizeOf5 Try.zeroValue5 (by decide) (by decide) (by simp only [List.map_toArray, List.map_cons, List.map_nil] <;> rfl) (by kernel_rfl) rfl (by decide) ?_
  intro B16 w16 hB16 hU16 hzz16 hs16
  have hzw16 := hU16.size
  replace HU := HU.trans0 hU16
  replace hO1 := hO1.upd0 hU16
  replace hs2 := hs2.upd0 hU16
  replace hO3 := hO3.upd0 hU16
  replace hp4 := hp4.upd0 hU16
  replace hs5 := hs5.upd0 hU16
  replace hO7 := hO7.upd0 hU16
  replace hs8 := hs8.upd0 hU16
  replace hs12 := hs12.upd0 hU16
  replace hs14 := hs14.upd0 hU16
  replace hs16 : Own w16 (Is B16) 5 1 (.slice (some ⟨B16, 0, none⟩) 9 9) 9 (ints .u8 [128, 128, 128, 128, 128, 128, 128, 128, 128]) := hs16
  refine Wl_guard_t rfl ?_
  refine Wl_call (r_call1 rfl Try.call23 rfl) (reads_spec _ hs16.sl (by intro x hx; simp at hx; omega) (by omega)) ?_
  rintro v w17 ⟨rfl, hU17⟩
  have hzw17 := hU17.size
  replace HU := HU.trans0 hU17
  replace hO1 := hO1.upd0 hU17
  replace hs2 := hs2.upd0 hU17
  replace hO3 := hO3.upd0 hU17
  replace hp4 := hp4.upd0 hU17
  replace hs5 := hs5.upd0 hU17
  replace hO7 := hO7.upd0 hU17
  replace hs8 := hs8.upd0 hU17
  replace hs12 := hs12.upd0 hU17
  replace hs14 := hs14.upd0 hU17
  replace hs16 := hs16.upd0 hU17
  refine Wl_guard_t rfl ?_
  refine Wl_v (r_eq rfl rfl) ?_
  refine Wl_v (r_pick_t (v := .bool (decide (((gvar [128, 128, 128, 128, 128, 128, 128, 128, 128] 0).2.2) = 18))) rfl rfl) ?_
  refine Wl_v (r_mv (v := .bool (decide (((gvar [128, 128, 128, 128, 128, 128, 128, 128, 128] 0).2.2) = 18))) rfl) ?_
  have q7 : ((gvar [128, 128, 128, 128, 128, 128, 128, 128, 128] 0).2.2) = 18 := (by decide)
  rw [decide_eq_true q7]
  refine Wl_guard_t rfl ?_
  refine Wl_v (r_mv (v := .int .i64 ((gnum [10] 0 9).2.2)) rfl) ?_
  refine Wl_guard_t rfl ?_
  refine Wl_v (r_eq rfl rfl) ?_
  refine Wl_v (r_pick_t (v := .bool (decide (((gnum [10] 0 9).2.2) = 18))) rfl rfl) ?_
  refine Wl_v (r_as (v := .bool (decide (((gnum [10] 0 9).2.2) = 18))) rfl) ?_
  refine Wl_nil ?_
  refine W_ret ?_
  refine ret_end (v := .bool (decide (((gnum [10] 0 9).2.2) = 18))) rfl (res1 Try.results19 rfl) ?_
  exact ⟨_, rfl, (by rw [decide_eq_true (show ((gnum [10] 0 9).2.2) = 18 from (by decide))]), HU⟩

end Go.Proofs.Ytigojafhogjnfaa
