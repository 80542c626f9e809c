/-
  Walks, printed by a small program of this project (gen.py).
-/
import Derived.Test.YtflmjdnhjbiobaaWd
set_option linter.unusedVariables false
set_option linter.unusedSimpArgs false
namespace Go.Proofs.Ytflmjdnhjbiobaa
open Go.Fw

set_option maxRecDepth 100000 in
theorem peek_spec {pb : Nat} {a : Option Addr} {n c p : Nat} {bs : List Int} {k : Int} {t : Nat} (w : World) (hp : Blk w pb [.slice a n c, .int .i64 ((p : Nat) : Int)]) (hs : Sl w (fun g => g < w.heap.size ∧ g ≠ pb) 1 (.slice a n c) n (ints .u8 bs)) (hb : Byt bs) (hpn : p ≤ n) (hn : n ≤ 140737488355328) (ht : ((t : Nat) : Int) = min (max k 0) (((n : Nat) : Int) - ((p : Nat) : Int))) :
    Calls Try.prog 43 #[.pointer (some ⟨pb, 0, none⟩), .int .i64 k] w (Ret fun v w' => ∃ a' c', v = .slice a' t c' ∧ Own w' (Ge w.heap.size) 5 1 (.slice a' t c') t (ints .u8 ((bs.drop p).take t)) ∧ Upd No w w') := by
  have HU : Upd (fun b => False) w w := Upd.refl _ _
  have hl := ilen hs
  have hcap := hs.cap.1
  have hpl := hp.lt
  refine calls_of_W Try.func43 rfl Try.ntmps43 (by simp) ?_
  refine W_seq ?_
  refine W_region ?_
  refine Wl_v (r_as (v := .slice none 0 0) rfl) ?_
  refine Wl_nil ?_
  refine W_seq ?_
  refine W_seq ?_
  refine W_region ?_
  refine Wl_v (r_mv (v := .pointer (some ⟨pb, 0, none⟩)) rfl) ?_
  refine Wl_v (r_eqpn_s Try.underlying41 rfl rfl) ?_
  refine Wl_nil ?_
  refine W_cond_f rfl ?_
  refine W_skip ?_
  refine W_seq ?_
  refine W_region ?_
  refine Wl_v (r_mv (v := .int .i64 k) rfl) ?_
  refine Wl_v (r_max rfl rfl) ?_
  refine Wl_v (r_mv (v := .pointer (some ⟨pb, 0, none⟩)) rfl) ?_
  refine Wl_call (r_call1 rfl Try.call42 rfl) (left_spec _ hp (by omega) (by omega) (by omega)) ?_
  rintro v w1 ⟨rfl, hU1⟩
  have hzw1 := hU1.size
  replace hp := hp.upd0 hU1
  replace hs := hs.upd0 hU1
  replace HU := HU.trans0 hU1
  refine Wl_v (r_min rfl rfl) ?_
  refine Wl_v (r_as (v := .int .i64 (min (max k 0) (((n : Nat) : Int) - ((p : Nat) : Int)))) rfl) ?_
  rw [← ht]
  refine Wl_nil ?_
  refine W_seq ?_
  refine W_drawt rfl (l0 := #[false, false, false, false, false, false, false, false, false, false, false, false, false, false, false, false, false]) (by kernel_rfl) ?_
  refine Wt_take (i := 0) (listed' := #[true, false, false, false, false, false, false, false, false, false, false, false, false, false, false, false, false]) (by kernel_rfl) rfl (by kernel_rfl) (by kernel_rfl) (by kernel_rfl) (by kernel_rfl) (YI_v (v := .pointer (some ⟨pb, 0, none⟩)) rfl (fun w' hw' => r_mv (v := .pointer (some ⟨pb, 0, none⟩)) rfl)) ?_
  refine Wt_take (i := 1) (listed' := #[true, true, false, false, false, false, false, false, false, false, false, false, false, false, false, false, false]) (by kernel_rfl) rfl (by kernel_rfl) (by kernel_rfl) (by kernel_rfl) (by kernel_rfl) (YI_v (v := .pointer (some ⟨pb, 0, none⟩)) rfl (fun w' hw' => r_nil rfl)) ?_
  refine Wt_take (i := 2) (listed' := #[true, true, true, false, false, false, false, false, false, false, false, false, false, false, false, false, false]) (by kernel_rfl) rfl (by kernel_rfl) (by kernel_rfl) (by kernel_rfl) (by kernel_rfl) (YI_v (v := .pointer (some ⟨pb, 0, none⟩)) rfl (fun w' hw' => r_fld Try.underlying61 rfl Try.sizeOf35 rfl rfl)) ?_
  refine Wt_take (i := 3) (listed' := #[true, true, true, true, false, false, false, false, false, false, false, false, false, false, false, false, false]) (by kernel_rfl) rfl (by kernel_rfl) (by kernel_rfl) (by kernel_rfl) (by kernel_rfl) (YI_v (v := .slice a n c) rfl (fun w' hw' => r_load Try.isAgg35 rfl (by rw [(hp.upd0 hw').cell]; rfl))) ?_
  refine Wt_take (i := 4) (listed' := #[true, true, true, true, true, false, false, false, false, false, false, false, false, false, false, false, false]) (by kernel_rfl) rfl (by kernel_rfl) (by kernel_rfl) (by kernel_rfl) (by kernel_rfl) (YI_v (v := .pointer (some ⟨pb, 0, none⟩)) rfl (fun w' hw' => r_mv (v := .pointer (some ⟨pb, 0, none⟩)) rfl)) ?_
  refine Wt_take (i := 5) (listed' := #[true, true, true, true, true, true, false, false, false, false, false, false, false, false, false, false, false]) (by kernel_rfl) rfl (by kernel_rfl) (by kernel_rfl) (by kernel_rfl) (by kernel_rfl) (YI_v (v := .pointer (some ⟨pb, 0, none⟩)) rfl (fun w' hw' => r_nil rfl)) ?_
  refine Wt_take (i := 6) (listed' := #[true, true, true, true, true, true, true, false, false, false, false, false, false, false, false, false, false]) (by kernel_rfl) rfl (by kernel_rfl) (by kernel_rfl) (by kernel_rfl) (by kernel_rfl) (YI_v (v := .pointer (some ⟨pb, 1, none⟩)) rfl (fun w' hw' => r_fld Try.underlying61 rfl Try.sizeOf3 rfl rfl)) ?_
  refine Wt_take (i := 7) (listed' := #[true, true, true, true, true, true, true, true, false, false, false, false, false, false, false, false, false]) (by kernel_rfl) rfl (by kernel_rfl) (by kernel_rfl) (by kernel_rfl) (by kernel_rfl) (YI_v (v := .int .i64 ((p : Nat) : Int)) rfl (fun w' hw' => r_load Try.isAgg3 rfl (by rw [(hp.upd0 hw').cell]; rfl))) ?_
  refine Wt_take (i := 8) (listed' := #[true, true, true, true, true, true, true, true, true, false, false, false, false, false, false, false, false]) (by kernel_rfl) rfl (by kernel_rfl) (by kernel_rfl) (by kernel_rfl) (by kernel_rfl) (YI_v (v := .pointer (some ⟨pb, 0, none⟩)) rfl (fun w' hw' => r_mv (v := .pointer (some ⟨pb, 0, none⟩)) rfl)) ?_
  refine Wt_take (i := 9) (listed' := #[true, true, true, true, true, true, true, true, true, true, false, false, false, false, false, false, false]) (by kernel_rfl) rfl (by kernel_rfl) (by kernel_rfl) (by kernel_rfl) (by kernel_rfl) (YI_v (v := .pointer (some ⟨pb, 0, none⟩)) rfl (fun w' hw' => r_nil rfl)) ?_
  refine Wt_take (i := 10) (listed' := #[true, true, true, true, true, true, true, true, true, true, true, false, false, false, false, false, false]) (by kernel_rfl) rfl (by kernel_rfl) (by kernel_rfl) (by kernel_rfl) (by kernel_rfl) (YI_v (v := .pointer (some ⟨pb, 1, none⟩)) rfl (fun w' hw' => r_fld Try.underlying61 rfl Try.sizeOf3 rfl rfl)) ?_
  refine Wt_take (i := 11) (listed' := #[true, true, true, true, true, true, true, true, true, true, true, true, false, false, false, false, false]) (by kernel_rfl) rfl (by kernel_rfl) (by kernel_rfl) (by kernel_rfl) (by kernel_rfl) (YI_v (v := .int .i64 ((p : Nat) : Int)) rfl (fun w' hw' => r_load Try.isAgg3 rfl (by rw [(hp.upd0 hw').cell]; rfl))) ?_
  refine Wt_take (i := 12) (listed' := #[true, true, true, true, true, true, true, true, true, true, true, true, true, false, false, false, false]) (by kernel_rfl) rfl (by kernel_rfl) (by kernel_rfl) (by kernel_rfl) (by kernel_rfl) (YI_v (v := .int .i64 ((t : Nat) : Int)) rfl (fun w' hw' => r_mv (v := .int .i64 ((t : Nat) : Int)) rfl)) ?_
  refine Wt_take (i := 13) (listed' := #[true, true, true, true, true, true, true, true, true, true, true, true, true, true, false, false, false]) (by kernel_rfl) rfl (by kernel_rfl) (by kernel_rfl) (by kernel_rfl) (by kernel_rfl) (YI_v (v := .int .i64 (((p : Nat) : Int) + ((t : Nat) : Int))) rfl (fun w' hw' => r_add rfl rfl (wi64 (by omega) (by omega)))) ?_
  refine Wt_take (i := 14) (listed' := #[true, true, true, true, true, true, true, true, true, true, true, true, true, true, true, false, false]) (by kernel_rfl) rfl (by kernel_rfl) (by kernel_rfl) (by kernel_rfl) (by kernel_rfl) (YI_v (v := .slice (if c = p then a else a.map (·.add (p * 1))) t (c - p)) rfl (fun w' hw' => r_slicen (l' := p) (h' := p + t) (n' := t) Try.underlying35 Try.sizeOf5 rfl rfl rfl (by omega) (by omega) (by omega) (by omega) (by omega))) ?_
  intro w2 hU2
  have hzw2 := hU2.size
  replace hp := hp.upd0 hU2
  replace hs := hs.upd0 hU2
  replace HU := HU.trans0 hU2
  refine Wa_one (i := 15) (listed' := #[true, true, true, true, true, true, true, true, true, true, true, true, true, true, true, true, false]) (by kernel_rfl) rfl (by kernel_rfl) ?_
  refine Ws_of_Wl ?_
  have hW : Upd No w1 w2 := hU2
  refine Wl_call (r_call1 rfl Try.call39 rfl) (clone_spec _ (hs.cutn (l := p) (n := t) (by omega)).any one_ints (by omega)) ?_
  rintro v w3 ⟨a_hO, c_hO, rfl, hO, hU3⟩
  have hzw3 := hU3.size
  replace hp := hp.upd0 hU3
  replace hs := hs.upd0 hU3
  replace HU := HU.trans0 hU3
  try replace hW := hW.trans0 hU3
  replace hO := hO.tight
  refine Wl_nil ?_
  intro w4 hS4
  refine ⟨fun h => absurd h (by rw [show barOp _ 15 = true from by kernel_rfl]; simp), fun _ => ⟨Upd No w4, ?_⟩⟩
  have hU4 := hS4.upd
  have hzw4 := hU4.size
  replace hp := hp.upd0 hU4
  replace hs := hs.upd0 hU4
  replace HU := HU.trans0 hU4
  replace hO := hO.upd0 hU4
  try replace hW := hW.trans0 hU4
  refine Wt_base (Upd.refl _ _) ?_
  refine Wt_take (i := 16) (listed' := #[true, true, true, true, true, true, true, true, true, true, true, true, true, true, true, true, true]) (by kernel_rfl) rfl (by kernel_rfl) (by kernel_rfl) (by kernel_rfl) (by kernel_rfl) (YI_v (v := .slice a_hO t c_hO) rfl (fun w' hw' => r_as (v := .slice a_hO t c_hO) rfl)) ?_
  intro w5 hU5
  have hzw5 := hU5.size
  replace hp := hp.upd0 hU5
  replace hs := hs.upd0 hU5
  replace HU := HU.trans0 hU5
  replace hO := hO.upd0 hU5
  try replace hW := hW.trans0 hU5
  refine Wa_done (by kernel_rfl) ?_
  refine W_ret ?_
  refine ret_end (v := .slice a_hO t c_hO) rfl (res1 Try.results43 rfl) ?_
  exact ⟨_, rfl, _, _, rfl, hO.weak (R' := Ge w.heap.size) (by intro g hg; have h3 : ((w2.heap.size ≤ g) ∧ g < w3.heap.size) := hg; show _ ≤ _; omega), HU⟩

set_option maxRecDepth 100000 in
theorem peek_nil {k : Int} (w : World)  :
    Calls Try.prog 43 #[.pointer none, .int .i64 k] w (Ret fun v w' => v = .slice none 0 0 ∧ Upd No w w') := by
  have HU : Upd (fun b => False) w w := Upd.refl _ _
  refine calls_of_W Try.func43 rfl Try.ntmps43 (by simp) ?_
  refine W_seq ?_
  refine W_region ?_
  refine Wl_v (r_as (v := .slice none 0 0) rfl) ?_
  refine Wl_nil ?_
  refine W_seq ?_
  refine W_seq ?_
  refine W_region ?_
  refine Wl_v (r_mv (v := .pointer none) rfl) ?_
  refine Wl_v (r_eqpn_n Try.underlying41 rfl rfl) ?_
  refine Wl_nil ?_
  refine W_cond_t rfl ?_
  refine W_seq ?_
  refine W_region ?_
  refine Wl_v (r_as (v := .slice none 0 0) rfl) ?_
  refine Wl_nil ?_
  refine W_ret ?_
  refine ret_end (v := .slice none 0 0) rfl (res1 Try.results43 rfl) ?_
  exact ⟨_, rfl, rfl, HU⟩

set_option maxRecDepth 100000 in
theorem left_nil  (w : World)  :
    Calls Try.prog 42 #[.pointer none] w (Ret fun v w' => v = .int .i64 0 ∧ Upd No w w') := by
  have HU : Upd (fun b => False) w w := Upd.refl _ _
  refine calls_of_W Try.func42 rfl Try.ntmps42 (by simp) ?_
  refine W_seq ?_
  refine W_region ?_
  refine Wl_v (r_as (v := .int .i64 0) rfl) ?_
  refine Wl_nil ?_
  refine W_seq ?_
  refine W_seq ?_
  refine W_region ?_
  refine Wl_v (r_mv (v := .pointer none) rfl) ?_
  refine Wl_v (r_eqpn_n Try.underlying41 rfl rfl) ?_
  refine Wl_nil ?_
  refine W_cond_t rfl ?_
  refine W_seq ?_
  refine W_region ?_
  refine Wl_v (r_as (v := .int .i64 0) rfl) ?_
  refine Wl_nil ?_
  refine W_ret ?_
  refine ret_end (v := .int .i64 0) rfl (res1 Try.results42 rfl) ?_
  exact ⟨_, rfl, rfl, HU⟩

end Go.Proofs.Ytflmjdnhjbiobaa
