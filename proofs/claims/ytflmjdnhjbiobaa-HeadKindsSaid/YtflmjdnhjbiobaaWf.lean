/-
  Walks, printed by a small program of this project (gen.py).
-/
import Derived.Test.YtflmjdnhjbiobaaWe
import Derived.Test.YtflmjdnhjbiobaaPc
set_option linter.unusedVariables false
set_option linter.unusedSimpArgs false
namespace Go.Proofs.Ytflmjdnhjbiobaa
open Go.Fw

set_option maxRecDepth 100000 in
theorem byte_clo {Bc : Nat} {pb : Nat} {a : Option Addr} {n c p : Nat} {bs : List Int} (w : World) (hc : Blk w Bc [.pointer (some ⟨pb, 0, none⟩)]) (hBc : Bc ≠ pb) (hp : Blk w pb [.slice a n c, .int .i64 ((p : Nat) : Int)]) (hs : Sl w (fun g => g < w.heap.size ∧ g ≠ pb) 1 (.slice a n c) n (ints .u8 bs)) (hb : Byt bs) (hpn : p ≤ n) (hn : n ≤ 140737488355328) :
    Calls Try.prog 59 #[.pointer (some ⟨Bc, 0, none⟩)] w (Ret fun v w' => ∃ x er, v = .tuple #[x, .int .i64 er] ∧ x.cells = #[x] ∧ x.oneCell' = true ∧ ∃ at1, Blk w' pb [.slice a n c, .int .i64 at1] ∧ Upd (Is pb) w w' ∧ x = .int .u8 (gbyte bs p).1 ∧ er = (gbyte bs p).2.2 ∧ at1 = (((gbyte bs p).2.1 : Nat) : Int)) := by
  have HU : Upd (fun b => b = pb) w w := Upd.refl _ _
  have hl := ilen hs
  have hcap := hs.cap.1
  have hpl := hp.lt
  refine calls_of_W Try.func59 rfl Try.ntmps59 (by simp) ?_
  refine W_seq ?_
  refine W_region ?_
  refine Wl_v (r_as (v := .int .u8 0) rfl) ?_
  refine Wl_v (r_as (v := .int .i64 0) rfl) ?_
  refine Wl_nil ?_
  refine W_seq ?_
  refine W_seq ?_
  refine W_region ?_
  refine Wl_load (v := .pointer (some ⟨pb, 0, none⟩)) Try.isAgg41 rfl hc rfl ?_
  refine Wl_call (r_call1 rfl Try.call42 rfl) (left_spec _ hp (by omega) (by omega) (by omega)) ?_
  rintro v w1 ⟨rfl, hU1⟩
  have hzw1 := hU1.size
  replace hp := hp.upd0 hU1
  replace hs := hs.upd0 hU1
  replace hc := hc.upd0 hU1
  replace HU := HU.trans0 hU1
  refine Wl_v (r_eq rfl rfl) ?_
  refine Wl_nil ?_
  by_cases q1 : (((n : Nat) : Int) - ((p : Nat) : Int)) = 0
  · rw [decide_eq_true q1]
    refine W_cond_t rfl ?_
    refine W_seq ?_
    refine W_region ?_
    refine Wl_v (r_as (v := .int .u8 0) rfl) ?_
    refine Wl_v (r_as (v := .int .i64 3) rfl) ?_
    refine Wl_nil ?_
    refine W_ret ?_
    refine ret_end (v := .tuple #[.int .u8 0, .int .i64 3]) rfl (res2 Try.results59 rfl rfl) ?_
    rw [gbyte, if_neg (by omega)]
    exact ⟨_, rfl, _, _, rfl, rfl, rfl, _, hp, HU, by first | rfl | exact vint (by dsimp only; omega), by first | rfl | (dsimp only; omega), by first | rfl | (dsimp only; omega)⟩
  · obtain ⟨ib, io, ha, hib, hcell⟩ := hs.iat (i := p) (by omega)
    replace hib : ib < w.heap.size ∧ ib ≠ pb := hib
    rw [decide_eq_false q1]
    refine W_cond_f rfl ?_
    refine W_skip ?_
    refine W_seq ?_
    refine W_region ?_
    refine Wl_load (v := .pointer (some ⟨pb, 0, none⟩)) Try.isAgg41 rfl hc rfl ?_
    refine Wl_v (r_nil rfl) ?_
    refine Wl_v (r_fld Try.underlying61 rfl Try.sizeOf3 rfl rfl) ?_
    refine Wl_load (v := .int .i64 ((p : Nat) : Int)) Try.isAgg3 rfl hp rfl ?_
    refine Wl_v (r_add rfl rfl (wi64 (by omega) (by omega))) ?_
    refine Wl_v (r_nil rfl) ?_
    refine Wl_v (r_fld Try.underlying61 rfl Try.sizeOf3 rfl rfl) ?_
    refine Wl_store (v := .int .i64 (((p : Nat) : Int) + 1)) (cs' := [.slice a n c, .int .i64 (((p : Nat) : Int) + 1)]) Try.sizeOf3 rfl rfl rfl rfl hp rfl rfl ?_
    intro w2 hU2 hzz2 hpn
    replace hp := hpn; clear hpn
    have hzw2 := hU2.size
    replace hs := hs.upd1 hU2 (by intro h1; have h3 : (pb < w.heap.size ∧ pb ≠ pb) := h1; omega)
    replace hc := hc.upd1 hU2 (by omega)
    replace HU := HU.trans1 hU2 (by show (pb = pb) ∨ w.heap.size ≤ pb; omega)
    replace hcell := cell_upd1 hU2 hcell (by show ib ≠ pb; omega)
    refine Wl_nil ?_
    refine W_seq ?_
    refine W_drawt rfl (l0 := #[false, false, false, false, false, false, false, false, false, false, false, false, false]) (by kernel_rfl) ?_
    refine Wt_take (i := 0) (listed' := #[true, false, false, false, false, false, false, false, false, false, false, false, false]) (by kernel_rfl) rfl (by kernel_rfl) (by kernel_rfl) (by kernel_rfl) (by kernel_rfl) (YI_v (v := .pointer (some ⟨pb, 0, none⟩)) rfl (fun w' hw' => r_load Try.isAgg41 rfl (by rw [(hc.upd0 hw').cell]; rfl))) ?_
    refine Wt_take (i := 1) (listed' := #[true, true, false, false, false, false, false, false, false, false, false, false, false]) (by kernel_rfl) rfl (by kernel_rfl) (by kernel_rfl) (by kernel_rfl) (by kernel_rfl) (YI_v (v := .pointer (some ⟨pb, 0, none⟩)) rfl (fun w' hw' => r_nil rfl)) ?_
    refine Wt_take (i := 2) (listed' := #[true, true, true, false, false, false, false, false, false, false, false, false, false]) (by kernel_rfl) rfl (by kernel_rfl) (by kernel_rfl) (by kernel_rfl) (by kernel_rfl) (YI_v (v := .pointer (some ⟨pb, 0, none⟩)) rfl (fun w' hw' => r_fld Try.underlying61 rfl Try.sizeOf35 rfl rfl)) ?_
    refine Wt_take (i := 3) (listed' := #[true, true, true, true, false, false, false, false, false, false, false, false, false]) (by kernel_rfl) rfl (by kernel_rfl) (by kernel_rfl) (by kernel_rfl) (by kernel_rfl) (YI_v (v := .slice a n c) rfl (fun w' hw' => r_load Try.isAgg35 rfl (by rw [(hp.upd0 hw').cell]; rfl))) ?_
    refine Wt_take (i := 4) (listed' := #[true, true, true, true, true, false, false, false, false, false, false, false, false]) (by kernel_rfl) rfl (by kernel_rfl) (by kernel_rfl) (by kernel_rfl) (by kernel_rfl) (YI_v (v := .pointer (some ⟨pb, 0, none⟩)) rfl (fun w' hw' => r_load Try.isAgg41 rfl (by rw [(hc.upd0 hw').cell]; rfl))) ?_
    refine Wt_take (i := 5) (listed' := #[true, true, true, true, true, true, false, false, false, false, false, false, false]) (by kernel_rfl) rfl (by kernel_rfl) (by kernel_rfl) (by kernel_rfl) (by kernel_rfl) (YI_v (v := .pointer (some ⟨pb, 0, none⟩)) rfl (fun w' hw' => r_nil rfl)) ?_
    refine Wt_take (i := 6) (listed' := #[true, true, true, true, true, true, true, false, false, false, false, false, false]) (by kernel_rfl) rfl (by kernel_rfl) (by kernel_rfl) (by kernel_rfl) (by kernel_rfl) (YI_v (v := .pointer (some ⟨pb, 1, none⟩)) rfl (fun w' hw' => r_fld Try.underlying61 rfl Try.sizeOf3 rfl rfl)) ?_
    refine Wt_take (i := 7) (listed' := #[true, true, true, true, true, true, true, true, false, false, false, false, false]) (by kernel_rfl) rfl (by kernel_rfl) (by kernel_rfl) (by kernel_rfl) (by kernel_rfl) (YI_v (v := .int .i64 (((p : Nat) : Int) + 1)) rfl (fun w' hw' => r_load Try.isAgg3 rfl (by rw [(hp.upd0 hw').cell]; rfl))) ?_
    refine Wt_take (i := 8) (listed' := #[true, true, true, true, true, true, true, true, true, false, false, false, false]) (by kernel_rfl) rfl (by kernel_rfl) (by kernel_rfl) (by kernel_rfl) (by kernel_rfl) (YI_v (v := .int .i64 ((((p : Nat) : Int) + 1) - 1)) rfl (fun w' hw' => r_sub rfl rfl (wi64 (by omega) (by omega)))) ?_
    refine Wt_take (i := 9) (listed' := #[true, true, true, true, true, true, true, true, true, true, false, false, false]) (by kernel_rfl) rfl (by kernel_rfl) (by kernel_rfl) (by kernel_rfl) (by kernel_rfl) (YI_v (v := .pointer (some ⟨ib, io + p, none⟩)) rfl (fun w' hw' => r_idx (b := ib) (off := io) (m := n) (c := c) (o' := io + p) Try.underlying35 Try.sizeOf5 (by rw [← ha]; rfl) rfl (by omega) (by omega) (by omega))) ?_
    refine Wt_take (i := 10) (listed' := #[true, true, true, true, true, true, true, true, true, true, true, false, false]) (by kernel_rfl) rfl (by kernel_rfl) (by kernel_rfl) (by kernel_rfl) (by kernel_rfl) (YI_v (v := .int .u8 (bs.getD p 0)) rfl (fun w' hw' => r_load Try.isAgg5 rfl (hw'.cellk hcell))) ?_
    refine Wt_take (i := 11) (listed' := #[true, true, true, true, true, true, true, true, true, true, true, true, false]) (by kernel_rfl) rfl (by kernel_rfl) (by kernel_rfl) (by kernel_rfl) (by kernel_rfl) (YI_v (v := .int .u8 (bs.getD p 0)) rfl (fun w' hw' => r_as (v := .int .u8 (bs.getD p 0)) rfl)) ?_
    refine Wt_take (i := 12) (listed' := #[true, true, true, true, true, true, true, true, true, true, true, true, true]) (by kernel_rfl) rfl (by kernel_rfl) (by kernel_rfl) (by kernel_rfl) (by kernel_rfl) (YI_v (v := .int .i64 0) rfl (fun w' hw' => r_as (v := .int .i64 0) rfl)) ?_
    intro w3 hU3
    have hzw3 := hU3.size
    replace hp := hp.upd0 hU3
    replace hs := hs.upd0 hU3
    replace hc := hc.upd0 hU3
    replace HU := HU.trans0 hU3
    replace hcell := cell_upd0 hU3 hcell
    refine Wa_done (by kernel_rfl) ?_
    refine W_ret ?_
    refine ret_end (v := .tuple #[.int .u8 (bs.getD p 0), .int .i64 0]) rfl (res2 Try.results59 rfl rfl) ?_
    rw [gbyte, if_pos (by omega)]
    exact ⟨_, rfl, _, _, rfl, rfl, rfl, _, hp, HU, by first | rfl | exact vint (by dsimp only; omega), by first | rfl | (dsimp only; omega), by first | rfl | (dsimp only; omega)⟩

set_option maxRecDepth 100000 in
theorem byte_spec {pb : Nat} {a : Option Addr} {n c p : Nat} {bs : List Int} (w : World) (hp : Blk w pb [.slice a n c, .int .i64 ((p : Nat) : Int)]) (hs : Sl w (fun g => g < w.heap.size ∧ g ≠ pb) 1 (.slice a n c) n (ints .u8 bs)) (hb : Byt bs) (hpn : p ≤ n) (hn : n ≤ 140737488355328) :
    Calls Try.prog 45 #[.pointer (some ⟨pb, 0, none⟩)] w (Ret fun v w' => v = .tuple #[.int .u8 (gbyte bs p).1, .int .i64 (gbyte bs p).2.2] ∧ Blk w' pb [.slice a n c, .int .i64 (((gbyte bs p).2.1 : Nat) : Int)] ∧ Upd (Is pb) w w') := by
  have HU : Upd (fun b => b = pb) w w := Upd.refl _ _
  have hl := ilen hs
  have hcap := hs.cap.1
  have hpl := hp.lt
  refine calls_of_W Try.func45 rfl Try.ntmps45 (by simp) ?_
  refine W_seq ?_
  refine W_region ?_
  refine Wl_box (v := .pointer (some ⟨pb, 0, none⟩)) (cs := [.pointer (some ⟨pb, 0, none⟩)]) rfl rfl ?_
  intro B1 w1 hB1 hU1 hzz1 hb1
  have hzw1 := hU1.size
  replace hp := hp.upd0 hU1
  replace hs := hs.upd0 hU1
  replace HU := HU.trans0 hU1
  refine Wl_v (r_as (v := .int .u8 0) rfl) ?_
  refine Wl_v (r_as (v := .int .i64 0) rfl) ?_
  refine Wl_nil ?_
  refine W_seq ?_
  refine W_region ?_
  refine Wl_load (v := .pointer (some ⟨pb, 0, none⟩)) Try.isAgg41 rfl hb1 rfl ?_
  refine Wl_v (r_mkf1 (v0 := .pointer (some ⟨B1, 0, none⟩)) rfl) ?_
  refine Wl_call (r_call2 rfl Try.call58 rfl rfl) (readBy_spec (Φ := fun x er at1 _ _ => x = .int .u8 (gbyte bs p).1 ∧ er = (gbyte bs p).2.2 ∧ at1 = (((gbyte bs p).2.1 : Nat) : Int)) _ hp Try.call59 (fun w1 hN => (byte_clo w1 (hb1.upd0 hN) (by omega) (hp.upd0 hN) ((hs.upd0 hN).cur (by intro h1; have h3 : (pb < w.heap.size ∧ pb ≠ pb) := h1; omega)) hb hpn hn))) ?_
  rintro v w2 ⟨x, er, at1, wa, wb, rfl, hpn2, hN, ⟨rfl, rfl, rfl⟩, _, hU2⟩
  have hzw2 := hU2.size
  replace hs := hs.upd1 hU2 (by intro h1; have h3 : (pb < w.heap.size ∧ pb ≠ pb) := h1; omega)
  replace HU := HU.trans1 hU2 (by show (pb = pb) ∨ w.heap.size ≤ pb; omega)
  replace hb1 := hb1.upd1 hU2 (by omega)
  refine Wl_v (r_ext (v := if (gbyte bs p).2.2 = 0 then .int .u8 (gbyte bs p).1 else .int .u8 0) rfl rfl) ?_
  refine Wl_v (r_ext (v := .int .i64 ((gbyte bs p).2.2)) rfl rfl) ?_
  refine Wl_v (r_as (v := if (gbyte bs p).2.2 = 0 then .int .u8 (gbyte bs p).1 else .int .u8 0) rfl) ?_
  refine Wl_v (r_as (v := .int .i64 ((gbyte bs p).2.2)) rfl) ?_
  refine Wl_nil ?_
  refine W_ret ?_
  refine ret_end (v := .tuple #[if (gbyte bs p).2.2 = 0 then .int .u8 (gbyte bs p).1 else .int .u8 0, .int .i64 ((gbyte bs p).2.2)]) rfl (res2 Try.results45 rfl rfl) ?_
  have he : (gbyte bs p).2.2 ≠ 0 → (gbyte bs p).1 = 0 ∧ (gbyte bs p).2.1 = p := gbyte_err
  refine ⟨_, rfl, ?_, ?_, HU⟩
  · by_cases h : (gbyte bs p).2.2 = 0
    · rw [if_pos h]
    · rw [if_neg h, (he h).1]
  · by_cases h : (gbyte bs p).2.2 = 0
    · simpa [h] using hpn2
    · rw [(he h).2]; simpa [h] using hpn2

set_option maxRecDepth 100000 in
theorem bytes_clo {Bk : Nat} {k : Int} {Bc : Nat} {pb : Nat} {a : Option Addr} {n c p : Nat} {bs : List Int} (w : World) (hk : Blk w Bk [.int .i64 k]) (hBk : Bk ≠ pb) (hc : Blk w Bc [.pointer (some ⟨pb, 0, none⟩)]) (hBc : Bc ≠ pb) (hp : Blk w pb [.slice a n c, .int .i64 ((p : Nat) : Int)]) (hs : Sl w (fun g => g < w.heap.size ∧ g ≠ pb) 1 (.slice a n c) n (ints .u8 bs)) (hb : Byt bs) (hpn : p ≤ n) (hn : n ≤ 140737488355328) :
    Calls Try.prog 41 #[.pointer (some ⟨Bk, 0, none⟩), .pointer (some ⟨Bc, 0, none⟩)] w (Ret fun v w' => ∃ x er, v = .tuple #[x, .int .i64 er] ∧ x.cells = #[x] ∧ x.oneCell' = true ∧ ∃ at1, Blk w' pb [.slice a n c, .int .i64 at1] ∧ Upd (Is pb) w w' ∧ ∃ a' m' c', x = .slice a' m' c' ∧ Own w' (Ge w.heap.size) 5 1 (.slice a' m' c') m' (ints .u8 (gbytes bs p k).1) ∧ (gbytes bs p k).1.length = m' ∧ er = (gbytes bs p k).2.2 ∧ at1 = (((gbytes bs p k).2.1 : Nat) : Int)) := by
  have HU : Upd (fun b => b = pb) w w := Upd.refl _ _
  have hl := ilen hs
  have hcap := hs.cap.1
  have hpl := hp.lt
  refine calls_of_W Try.func41 rfl Try.ntmps41 (by simp) ?_
  refine W_seq ?_
  refine W_region ?_
  refine Wl_v (r_as (v := .slice none 0 0) rfl) ?_
  refine Wl_v (r_as (v := .int .i64 0) rfl) ?_
  refine Wl_nil ?_
  refine W_seq ?_
  refine W_block ?_
  refine W_seq ?_
  refine W_region ?_
  refine Wl_load (v := .int .i64 k) Try.isAgg3 rfl hk rfl ?_
  refine Wl_v (r_lt rfl rfl) ?_
  refine Wl_v (r_as (v := .bool (decide (k < 0))) rfl) ?_
  refine Wl_nil ?_
  by_cases q1 : k < 0
  · rw [decide_eq_true q1]
    refine W_cond_t rfl ?_
    refine W_seq ?_
    refine W_region ?_
    refine Wl_v (r_as (v := .slice none 0 0) rfl) ?_
    refine Wl_v (r_as (v := .int .i64 2) rfl) ?_
    refine Wl_nil ?_
    refine W_ret ?_
    refine ret_end (v := .tuple #[.slice none 0 0, .int .i64 2]) rfl (res2 Try.results41 rfl rfl) ?_
    rw [gbytes_neg (by omega)]
    exact ⟨_, rfl, _, _, rfl, rfl, rfl, _, hp, HU, none, 0, 0, rfl, Own.nil _ _ _ _, rfl, rfl, rfl⟩
  · rw [decide_eq_false q1]
    refine W_cond_f rfl ?_
    refine W_seq ?_
    refine W_drawt rfl (l0 := #[false, false, false, false, false]) (by kernel_rfl) ?_
    refine Wt_take (i := 0) (listed' := #[true, false, false, false, false]) (by kernel_rfl) rfl (by kernel_rfl) (by kernel_rfl) (by kernel_rfl) (by kernel_rfl) (YI_v (v := .int .i64 k) rfl (fun w' hw' => r_load Try.isAgg3 rfl (by rw [(hk.upd0 hw').cell]; rfl))) ?_
    refine Wt_take (i := 1) (listed' := #[true, true, false, false, false]) (by kernel_rfl) rfl (by kernel_rfl) (by kernel_rfl) (by kernel_rfl) (by kernel_rfl) (YI_v (v := .pointer (some ⟨pb, 0, none⟩)) rfl (fun w' hw' => r_load Try.isAgg41 rfl (by rw [(hc.upd0 hw').cell]; rfl))) ?_
    intro w1 hU1
    have hzw1 := hU1.size
    replace hp := hp.upd0 hU1
    replace hs := hs.upd0 hU1
    replace hc := hc.upd0 hU1
    replace hk := hk.upd0 hU1
    replace HU := HU.trans0 hU1
    refine Wa_one (i := 2) (listed' := #[true, true, true, false, false]) (by kernel_rfl) rfl (by kernel_rfl) ?_
    refine Ws_of_Wl ?_
    have hW : Upd No w w1 := hU1
    refine Wl_call (r_call1 rfl Try.call42 rfl) (left_spec _ hp (by omega) (by omega) (by omega)) ?_
    rintro v w2 ⟨rfl, hU2⟩
    have hzw2 := hU2.size
    replace hp := hp.upd0 hU2
    replace hs := hs.upd0 hU2
    replace hc := hc.upd0 hU2
    replace hk := hk.upd0 hU2
    replace HU := HU.trans0 hU2
    try replace hW := hW.trans0 hU2
    refine Wl_nil ?_
    intro w3 hS3
    have hX : Upd No w w3 := hW.trans0 hS3.upd
    refine ⟨fun _ => ⟨hX, ?_⟩, fun h => absurd h (by rw [show barOp _ 2 = false from by kernel_rfl]; simp)⟩
    have hU3 := hS3.upd
    have hzw3 := hU3.size
    replace hp := hp.upd0 hU3
    replace hs := hs.upd0 hU3
    replace hc := hc.upd0 hU3
    replace hk := hk.upd0 hU3
    replace HU := HU.trans0 hU3
    try replace hW := hW.trans0 hU3
    refine Wt_base hX ?_
    refine Wt_take (i := 3) (listed' := #[true, true, true, true, false]) (by kernel_rfl) rfl (by kernel_rfl) (by kernel_rfl) (by kernel_rfl) (by kernel_rfl) (YI_v (v := .bool (decide ((((n : Nat) : Int) - ((p : Nat) : Int)) < k))) rfl (fun w' hw' => r_gt rfl rfl)) ?_
    refine Wt_take (i := 4) (listed' := #[true, true, true, true, true]) (by kernel_rfl) rfl (by kernel_rfl) (by kernel_rfl) (by kernel_rfl) (by kernel_rfl) (YI_v (v := .bool (decide ((((n : Nat) : Int) - ((p : Nat) : Int)) < k))) rfl (fun w' hw' => r_as (v := .bool (decide ((((n : Nat) : Int) - ((p : Nat) : Int)) < k))) rfl)) ?_
    intro w4 hU4
    have hzw4 := hU4.size
    replace hp := hp.upd0 hU4
    replace hs := hs.upd0 hU4
    replace hc := hc.upd0 hU4
    replace hk := hk.upd0 hU4
    replace HU := HU.trans0 hU4
    try replace hW := hW.trans0 hU4
    refine Wa_done (by kernel_rfl) ?_
    by_cases q2 : (((n : Nat) : Int) - ((p : Nat) : Int)) < k
    · rw [decide_eq_true q2]
      refine W_cond_t rfl ?_
      refine W_seq ?_
      refine W_region ?_
      refine Wl_v (r_as (v := .slice none 0 0) rfl) ?_
      refine Wl_v (r_as (v := .int .i64 3) rfl) ?_
      refine Wl_nil ?_
      refine W_ret ?_
      refine ret_end (v := .tuple #[.slice none 0 0, .int .i64 3]) rfl (res2 Try.results41 rfl rfl) ?_
      rw [gbytes_long (by omega) (by omega)]
      exact ⟨_, rfl, _, _, rfl, rfl, rfl, _, hp, HU, none, 0, 0, rfl, Own.nil _ _ _ _, rfl, rfl, rfl⟩
    · rw [decide_eq_false q2]
      refine W_cond_f rfl ?_
      refine W_skip ?_
      refine W_seq ?_
      refine W_drawt rfl (l0 := #[false, false, false, false, false, false, false, false, false]) (by kernel_rfl) ?_
      refine Wt_take (i := 0) (listed' := #[true, false, false, false, false, false, false, false, false]) (by kernel_rfl) rfl (by kernel_rfl) (by kernel_rfl) (by kernel_rfl) (by kernel_rfl) (YI_v (v := .pointer (some ⟨pb, 0, none⟩)) rfl (fun w' hw' => r_load Try.isAgg41 rfl (by rw [(hc.upd0 hw').cell]; rfl))) ?_
      refine Wt_take (i := 1) (listed' := #[true, true, false, false, false, false, false, false, false]) (by kernel_rfl) rfl (by kernel_rfl) (by kernel_rfl) (by kernel_rfl) (by kernel_rfl) (YI_v (v := .pointer (some ⟨pb, 0, none⟩)) rfl (fun w' hw' => r_nil rfl)) ?_
      refine Wt_take (i := 2) (listed' := #[true, true, true, false, false, false, false, false, false]) (by kernel_rfl) rfl (by kernel_rfl) (by kernel_rfl) (by kernel_rfl) (by kernel_rfl) (YI_v (v := .pointer (some ⟨pb, 1, none⟩)) rfl (fun w' hw' => r_fld Try.underlying61 rfl Try.sizeOf3 rfl rfl)) ?_
      refine Wt_take (i := 3) (listed' := #[true, true, true, true, false, false, false, false, false]) (by kernel_rfl) rfl (by kernel_rfl) (by kernel_rfl) (by kernel_rfl) (by kernel_rfl) (YI_v (v := .int .i64 ((p : Nat) : Int)) rfl (fun w' hw' => r_load Try.isAgg3 rfl (by rw [(hp.upd0 hw').cell]; rfl))) ?_
      refine Wt_take (i := 4) (listed' := #[true, true, true, true, true, false, false, false, false]) (by kernel_rfl) rfl (by kernel_rfl) (by kernel_rfl) (by kernel_rfl) (by kernel_rfl) (YI_v (v := .int .i64 k) rfl (fun w' hw' => r_load Try.isAgg3 rfl (by rw [(hk.upd0 hw').cell]; rfl))) ?_
      refine Wt_take (i := 5) (listed' := #[true, true, true, true, true, true, false, false, false]) (by kernel_rfl) rfl (by kernel_rfl) (by kernel_rfl) (by kernel_rfl) (by kernel_rfl) (YI_v (v := .int .i64 (((p : Nat) : Int) + k)) rfl (fun w' hw' => r_add rfl rfl (wi64 (by omega) (by omega)))) ?_
      refine Wt_take (i := 6) (listed' := #[true, true, true, true, true, true, true, false, false]) (by kernel_rfl) rfl (by kernel_rfl) (by kernel_rfl) (by kernel_rfl) (by kernel_rfl) (YI_v (v := .pointer (some ⟨pb, 0, none⟩)) rfl (fun w' hw' => r_nil rfl)) ?_
      refine Wt_take (i := 7) (listed' := #[true, true, true, true, true, true, true, true, false]) (by kernel_rfl) rfl (by kernel_rfl) (by kernel_rfl) (by kernel_rfl) (by kernel_rfl) (YI_v (v := .pointer (some ⟨pb, 1, none⟩)) rfl (fun w' hw' => r_fld Try.underlying61 rfl Try.sizeOf3 rfl rfl)) ?_
      intro w5 hU5
      have hzw5 := hU5.size
      replace hp := hp.upd0 hU5
      replace hs := hs.upd0 hU5
      replace hc := hc.upd0 hU5
      replace hk := hk.upd0 hU5
      replace HU := HU.trans0 hU5
      try replace hW := hW.trans0 hU5
      refine Wa_one (i := 8) (listed' := #[true, true, true, true, true, true, true, true, true]) (by kernel_rfl) rfl (by kernel_rfl) ?_
      refine Ws_of_Wl ?_
      have hW : Upd No w4 w5 := hU5
      refine Wl_store (v := .int .i64 (((p : Nat) : Int) + k)) (cs' := [.slice a n c, .int .i64 (((p : Nat) : Int) + k)]) Try.sizeOf3 rfl rfl rfl rfl hp rfl rfl ?_
      intro w6 hU6 hzz6 hpn
      replace hp := hpn; clear hpn
      have hzw6 := hU6.size
      replace hs := hs.upd1 hU6 (by intro h1; have h3 : (pb < w.heap.size ∧ pb ≠ pb) := h1; omega)
      replace hc := hc.upd1 hU6 (by omega)
      replace hk := hk.upd1 hU6 (by omega)
      replace HU := HU.trans1 hU6 (by show (pb = pb) ∨ w.heap.size ≤ pb; omega)
      refine Wl_nil ?_
      intro w7 hS7
      refine ⟨fun h => absurd h (by rw [show barOp _ 8 = true from by kernel_rfl]; simp), fun _ => ⟨Upd No w7, ?_⟩⟩
      have hU7 := hS7.upd
      have hzw7 := hU7.size
      replace hp := hp.upd0 hU7
      replace hs := hs.upd0 hU7
      replace hc := hc.upd0 hU7
      replace hk := hk.upd0 hU7
      replace HU := HU.trans0 hU7
      try replace hW := hW.trans0 hU7
      refine Wa_done (by kernel_rfl) ?_
      refine W_seq ?_
      refine W_drawt rfl (l0 := #[false, false, false, false, false, false, false, false, false, false, false, false, false, false, false, false, false, false]) (by kernel_rfl) ?_
      refine Wt_take (i := 0) (listed' := #[true, false, false, false, false, false, false, false, false, false, false, false, false, false, false, false, false, false]) (by kernel_rfl) rfl (by kernel_rfl) (by kernel_rfl) (by kernel_rfl) (by kernel_rfl) (YI_v (v := .pointer (some ⟨pb, 0, none⟩)) rfl (fun w' hw' => r_load Try.isAgg41 rfl (by rw [(hc.upd0 hw').cell]; rfl))) ?_
      refine Wt_take (i := 1) (listed' := #[true, true, false, false, false, false, false, false, false, false, false, false, false, false, false, false, false, false]) (by kernel_rfl) rfl (by kernel_rfl) (by kernel_rfl) (by kernel_rfl) (by kernel_rfl) (YI_v (v := .pointer (some ⟨pb, 0, none⟩)) rfl (fun w' hw' => r_nil rfl)) ?_
      refine Wt_take (i := 2) (listed' := #[true, true, true, false, false, false, false, false, false, false, false, false, false, false, false, false, false, false]) (by kernel_rfl) rfl (by kernel_rfl) (by kernel_rfl) (by kernel_rfl) (by kernel_rfl) (YI_v (v := .pointer (some ⟨pb, 0, none⟩)) rfl (fun w' hw' => r_fld Try.underlying61 rfl Try.sizeOf35 rfl rfl)) ?_
      refine Wt_take (i := 3) (listed' := #[true, true, true, true, false, false, false, false, false, false, false, false, false, false, false, false, false, false]) (by kernel_rfl) rfl (by kernel_rfl) (by kernel_rfl) (by kernel_rfl) (by kernel_rfl) (YI_v (v := .slice a n c) rfl (fun w' hw' => r_load Try.isAgg35 rfl (by rw [(hp.upd0 hw').cell]; rfl))) ?_
      refine Wt_take (i := 4) (listed' := #[true, true, true, true, true, false, false, false, false, false, false, false, false, false, false, false, false, false]) (by kernel_rfl) rfl (by kernel_rfl) (by kernel_rfl) (by kernel_rfl) (by kernel_rfl) (YI_v (v := .pointer (some ⟨pb, 0, none⟩)) rfl (fun w' hw' => r_load Try.isAgg41 rfl (by rw [(hc.upd0 hw').cell]; rfl))) ?_
      refine Wt_take (i := 5) (listed' := #[true, true, true, true, true, true, false, false, false, false, false, false, false, false, false, false, false, false]) (by kernel_rfl) rfl (by kernel_rfl) (by kernel_rfl) (by kernel_rfl) (by kernel_rfl) (YI_v (v := .pointer (some ⟨pb, 0, none⟩)) rfl (fun w' hw' => r_nil rfl)) ?_
      refine Wt_take (i := 6) (listed' := #[true, true, true, true, true, true, true, false, false, false, false, false, false, false, false, false, false, false]) (by kernel_rfl) rfl (by kernel_rfl) (by kernel_rfl) (by kernel_rfl) (by kernel_rfl) (YI_v (v := .pointer (some ⟨pb, 1, none⟩)) rfl (fun w' hw' => r_fld Try.underlying61 rfl Try.sizeOf3 rfl rfl)) ?_
      refine Wt_take (i := 7) (listed' := #[true, true, true, true, true, true, true, true, false, false, false, false, false, false, false, false, false, false]) (by kernel_rfl) rfl (by kernel_rfl) (by kernel_rfl) (by kernel_rfl) (by kernel_rfl) (YI_v (v := .int .i64 (((p : Nat) : Int) + k)) rfl (fun w' hw' => r_load Try.isAgg3 rfl (by rw [(hp.upd0 hw').cell]; rfl))) ?_
      refine Wt_take (i := 8) (listed' := #[true, true, true, true, true, true, true, true, true, false, false, false, false, false, false, false, false, false]) (by kernel_rfl) rfl (by kernel_rfl) (by kernel_rfl) (by kernel_rfl) (by kernel_rfl) (YI_v (v := .int .i64 k) rfl (fun w' hw' => r_load Try.isAgg3 rfl (by rw [(hk.upd0 hw').cell]; rfl))) ?_
      refine Wt_take (i := 9) (listed' := #[true, true, true, true, true, true, true, true, true, true, false, false, false, false, false, false, false, false]) (by kernel_rfl) rfl (by kernel_rfl) (by kernel_rfl) (by kernel_rfl) (by kernel_rfl) (YI_v (v := .int .i64 ((((p : Nat) : Int) + k) - k)) rfl (fun w' hw' => r_sub rfl rfl (wi64 (by omega) (by omega)))) ?_
      refine Wt_take (i := 10) (listed' := #[true, true, true, true, true, true, true, true, true, true, true, false, false, false, false, false, false, false]) (by kernel_rfl) rfl (by kernel_rfl) (by kernel_rfl) (by kernel_rfl) (by kernel_rfl) (YI_v (v := .pointer (some ⟨pb, 0, none⟩)) rfl (fun w' hw' => r_load Try.isAgg41 rfl (by rw [(hc.upd0 hw').cell]; rfl))) ?_
      refine Wt_take (i := 11) (listed' := #[true, true, true, true, true, true, true, true, true, true, true, true, false, false, false, false, false, false]) (by kernel_rfl) rfl (by kernel_rfl) (by kernel_rfl) (by kernel_rfl) (by kernel_rfl) (YI_v (v := .pointer (some ⟨pb, 0, none⟩)) rfl (fun w' hw' => r_nil rfl)) ?_
      refine Wt_take (i := 12) (listed' := #[true, true, true, true, true, true, true, true, true, true, true, true, true, false, false, false, false, false]) (by kernel_rfl) rfl (by kernel_rfl) (by kernel_rfl) (by kernel_rfl) (by kernel_rfl) (YI_v (v := .pointer (some ⟨pb, 1, none⟩)) rfl (fun w' hw' => r_fld Try.underlying61 rfl Try.sizeOf3 rfl rfl)) ?_
      refine Wt_take (i := 13) (listed' := #[true, true, true, true, true, true, true, true, true, true, true, true, true, true, false, false, false, false]) (by kernel_rfl) rfl (by kernel_rfl) (by kernel_rfl) (by kernel_rfl) (by kernel_rfl) (YI_v (v := .int .i64 (((p : Nat) : Int) + k)) rfl (fun w' hw' => r_load Try.isAgg3 rfl (by rw [(hp.upd0 hw').cell]; rfl))) ?_
      refine Wt_take (i := 14) (listed' := #[true, true, true, true, true, true, true, true, true, true, true, true, true, true, true, false, false, false]) (by kernel_rfl) rfl (by kernel_rfl) (by kernel_rfl) (by kernel_rfl) (by kernel_rfl) (YI_v (v := .slice (if c = p then a else a.map (·.add (p * 1))) k.toNat (c - p)) rfl (fun w' hw' => r_slicen (l' := p) (h' := p + k.toNat) (n' := k.toNat) Try.underlying35 Try.sizeOf5 rfl rfl rfl (by omega) (by omega) (by omega) (by omega) (by omega))) ?_
      intro w8 hU8
      have hzw8 := hU8.size
      replace hp := hp.upd0 hU8
      replace hs := hs.upd0 hU8
      replace hc := hc.upd0 hU8
      replace hk := hk.upd0 hU8
      replace HU := HU.trans0 hU8
      try replace hW := hW.trans0 hU8
      refine Wa_one (i := 15) (listed' := #[true, true, true, true, true, true, true, true, true, true, true, true, true, true, true, true, false, false]) (by kernel_rfl) rfl (by kernel_rfl) ?_
      refine Ws_of_Wl ?_
      have hW : Upd No w7 w8 := hU8
      refine Wl_call (r_call1 rfl Try.call39 rfl) (clone_spec _ (hs.cutn (l := p) (n := k.toNat) (by omega)).any one_ints (by omega)) ?_
      rintro v w9 ⟨a_hO, c_hO, rfl, hO, hU9⟩
      have hzw9 := hU9.size
      replace hp := hp.upd0 hU9
      replace hs := hs.upd0 hU9
      replace hc := hc.upd0 hU9
      replace hk := hk.upd0 hU9
      replace HU := HU.trans0 hU9
      try replace hW := hW.trans0 hU9
      replace hO := hO.tight
      refine Wl_nil ?_
      intro w10 hS10
      refine ⟨fun h => absurd h (by rw [show barOp _ 15 = true from by kernel_rfl]; simp), fun _ => ⟨Upd No w10, ?_⟩⟩
      have hU10 := hS10.upd
      have hzw10 := hU10.size
      replace hp := hp.upd0 hU10
      replace hs := hs.upd0 hU10
      replace hc := hc.upd0 hU10
      replace hk := hk.upd0 hU10
      replace HU := HU.trans0 hU10
      replace hO := hO.upd0 hU10
      try replace hW := hW.trans0 hU10
      refine Wt_base (Upd.refl _ _) ?_
      refine Wt_take (i := 16) (listed' := #[true, true, true, true, true, true, true, true, true, true, true, true, true, true, true, true, true, false]) (by kernel_rfl) rfl (by kernel_rfl) (by kernel_rfl) (by kernel_rfl) (by kernel_rfl) (YI_v (v := .slice a_hO k.toNat c_hO) rfl (fun w' hw' => r_as (v := .slice a_hO k.toNat c_hO) rfl)) ?_
      refine Wt_take (i := 17) (listed' := #[true, true, true, true, true, true, true, true, true, true, true, true, true, true, true, true, true, true]) (by kernel_rfl) rfl (by kernel_rfl) (by kernel_rfl) (by kernel_rfl) (by kernel_rfl) (YI_v (v := .int .i64 0) rfl (fun w' hw' => r_as (v := .int .i64 0) rfl)) ?_
      intro w11 hU11
      have hzw11 := hU11.size
      replace hp := hp.upd0 hU11
      replace hs := hs.upd0 hU11
      replace hc := hc.upd0 hU11
      replace hk := hk.upd0 hU11
      replace HU := HU.trans0 hU11
      replace hO := hO.upd0 hU11
      try replace hW := hW.trans0 hU11
      refine Wa_done (by kernel_rfl) ?_
      refine W_ret ?_
      refine ret_end (v := .tuple #[.slice a_hO k.toNat c_hO, .int .i64 0]) rfl (res2 Try.results41 rfl rfl) ?_
      rw [gbytes_ok (by omega) (by omega)]
      exact ⟨_, rfl, _, _, rfl, rfl, rfl, _, hp, HU, _, _, _, rfl, hO.weak (R' := Ge w.heap.size) (by intro g hg; have h3 : ((w8.heap.size ≤ g) ∧ g < w9.heap.size) := hg; show _ ≤ _; omega), by dsimp only; rw [List.length_take, List.length_drop]; omega, rfl, by dsimp only; omega⟩

set_option maxRecDepth 100000 in
theorem bytes_spec {pb : Nat} {a : Option Addr} {n c p : Nat} {bs : List Int} {k : Int} (w : World) (hp : Blk w pb [.slice a n c, .int .i64 ((p : Nat) : Int)]) (hs : Sl w (fun g => g < w.heap.size ∧ g ≠ pb) 1 (.slice a n c) n (ints .u8 bs)) (hb : Byt bs) (hpn : p ≤ n) (hn : n ≤ 140737488355328) :
    Calls Try.prog 25 #[.pointer (some ⟨pb, 0, none⟩), .int .i64 k] w (Ret fun v w' => ∃ a' m' c', v = .tuple #[.slice a' m' c', .int .i64 (gbytes bs p k).2.2] ∧ Blk w' pb [.slice a n c, .int .i64 (((gbytes bs p k).2.1 : Nat) : Int)] ∧ Own w' (Ge w.heap.size) 5 1 (.slice a' m' c') m' (ints .u8 (gbytes bs p k).1) ∧ (gbytes bs p k).1.length = m' ∧ Upd (Is pb) w w') := by
  have HU : Upd (fun b => b = pb) w w := Upd.refl _ _
  have hl := ilen hs
  have hcap := hs.cap.1
  have hpl := hp.lt
  refine calls_of_W Try.func25 rfl Try.ntmps25 (by simp) ?_
  refine W_seq ?_
  refine W_region ?_
  refine Wl_box (v := .pointer (some ⟨pb, 0, none⟩)) (cs := [.pointer (some ⟨pb, 0, none⟩)]) rfl rfl ?_
  intro B1 w1 hB1 hU1 hzz1 hb1
  have hzw1 := hU1.size
  replace hp := hp.upd0 hU1
  replace hs := hs.upd0 hU1
  replace HU := HU.trans0 hU1
  refine Wl_box (v := .int .i64 k) (cs := [.int .i64 k]) rfl rfl ?_
  intro B2 w2 hB2 hU2 hzz2 hb2
  have hzw2 := hU2.size
  replace hp := hp.upd0 hU2
  replace hs := hs.upd0 hU2
  replace HU := HU.trans0 hU2
  replace hb1 := hb1.upd0 hU2
  refine Wl_v (r_as (v := .slice none 0 0) rfl) ?_
  refine Wl_v (r_as (v := .int .i64 0) rfl) ?_
  refine Wl_nil ?_
  refine W_seq ?_
  refine W_region ?_
  refine Wl_load (v := .pointer (some ⟨pb, 0, none⟩)) Try.isAgg41 rfl hb1 rfl ?_
  refine Wl_v (r_mkf2 (v0 := .pointer (some ⟨B2, 0, none⟩)) (v1 := .pointer (some ⟨B1, 0, none⟩)) rfl rfl) ?_
  refine Wl_call (r_call2 rfl Try.call40 rfl rfl) (readBs_spec (Φ := fun x er at1 w1 w2 => ∃ a' m' c', x = .slice a' m' c' ∧ Own w2 (Ge w1.heap.size) 5 1 (.slice a' m' c') m' (ints .u8 (gbytes bs p k).1) ∧ (gbytes bs p k).1.length = m' ∧ er = (gbytes bs p k).2.2 ∧ at1 = (((gbytes bs p k).2.1 : Nat) : Int)) _ hp Try.call41 (fun w1 hN => bytes_clo w1 (hb2.upd0 hN) (by omega) (hb1.upd0 hN) (by omega) (hp.upd0 hN) ((hs.upd0 hN).cur (by intro h1; have h3 : (pb < w.heap.size ∧ pb ≠ pb) := h1; omega)) hb hpn hn)) ?_
  rintro v w3 ⟨x, er, at1, wa, wb, rfl, hpn2, hN, ⟨a', m', c', rfl, hO, hlen, rfl, rfl⟩, hX, hU3⟩
  have hNs := hN.size
  replace hO := hO.upd hX (by intro x h1 h2; have h3 : wa.heap.size ≤ x := h1; have h4 : x = pb ∨ (w2.heap.size ≤ x ∧ x < wa.heap.size) := h2; omega)
  have hzw3 := hU3.size
  replace hs := hs.upd1 hU3 (by intro h1; have h3 : (pb < w.heap.size ∧ pb ≠ pb) := h1; omega)
  replace HU := HU.trans1 hU3 (by show (pb = pb) ∨ w.heap.size ≤ pb; omega)
  replace hb1 := hb1.upd1 hU3 (by omega)
  replace hb2 := hb2.upd1 hU3 (by omega)
  refine Wl_v (r_ext (v := if (gbytes bs p k).2.2 = 0 then .slice a' m' c' else .slice none 0 0) rfl rfl) ?_
  refine Wl_v (r_ext (v := .int .i64 ((gbytes bs p k).2.2)) rfl rfl) ?_
  refine Wl_v (r_as (v := if (gbytes bs p k).2.2 = 0 then .slice a' m' c' else .slice none 0 0) rfl) ?_
  refine Wl_v (r_as (v := .int .i64 ((gbytes bs p k).2.2)) rfl) ?_
  refine Wl_nil ?_
  refine W_ret ?_
  refine ret_end (v := .tuple #[if (gbytes bs p k).2.2 = 0 then .slice a' m' c' else .slice none 0 0, .int .i64 ((gbytes bs p k).2.2)]) rfl (res2 Try.results25 rfl rfl) ?_
  by_cases h : (gbytes bs p k).2.2 = 0
  · refine ⟨_, rfl, a', m', c', by rw [if_pos h], by simpa [h] using hpn2, hO.weak (R' := Ge w.heap.size) (by intro g hg; have h3 : wa.heap.size ≤ g := hg; show _ ≤ _; omega), hlen, HU⟩
  · have he := gbytes_err h
    rw [he.1] at hlen
    refine ⟨_, rfl, none, 0, 0, by rw [if_neg h], by rw [he.2]; simpa [h] using hpn2, ?_, ?_, HU⟩
    · rw [he.1]; exact Own.nil _ _ _ _
    · rw [he.1]; rfl

end Go.Proofs.Ytflmjdnhjbiobaa
