/-
  Walks, printed by a small program of this project (gen.py).
-/
import Derived.Test.YtflmjdnhjbiobaaRows
import Derived.Test.YtflmjdnhjbiobaaFd
set_option linter.unusedVariables false
set_option linter.unusedSimpArgs false
namespace Go.Proofs.Ytflmjdnhjbiobaa
open Go.Fw

set_option maxRecDepth 100000 in
theorem clone_spec {a : Option Addr} {n c : Nat} {cs : List Value} (w : World) (hs : Sl w (fun g => g < w.heap.size) 1 (.slice a n c) n cs) (one : ∀ u ∈ cs, u.oneCell' = true) (hn : n ≤ 140737488355328) :
    Calls Try.prog 39 #[.slice a n c] w (Ret fun v w' => ∃ a' c', v = .slice a' n c' ∧ Own w' (Ge w.heap.size) 5 1 (.slice a' n c') n cs ∧ Upd No w w') := by
  have HU : Upd (fun b => False) w w := Upd.refl _ _
  refine calls_of_W Try.func39 rfl Try.ntmps39 (by simp) ?_
  refine W_seq ?_
  refine W_region ?_
  refine Wl_v (r_as (v := .slice none 0 0) rfl) ?_
  refine Wl_nil ?_
  refine W_seq ?_
  refine W_seq ?_
  refine W_region ?_
  refine Wl_v (r_mv (v := .slice a n c) rfl) ?_
  refine Wl_v (r_eqsn Try.underlying35 rfl rfl) ?_
  refine Wl_nil ?_
  by_cases q1 : a = none
  · rw [decide_eq_true q1]
    refine W_cond_t rfl ?_
    refine W_seq ?_
    refine W_region ?_
    refine Wl_v (r_as (v := .slice none 0 0) rfl) ?_
    refine Wl_nil ?_
    refine W_ret ?_
    refine ret_end (v := .slice none 0 0) rfl (res1 Try.results39 rfl) ?_
    obtain ⟨h0, h1⟩ := Sl.none_len (q1 ▸ hs)
    subst h0 h1
    exact ⟨_, rfl, none, 0, rfl, Own.nil _ _ _ _, HU⟩
  · rw [decide_eq_false q1]
    refine W_cond_f rfl ?_
    refine W_skip ?_
    refine W_seq ?_
    refine W_region ?_
    refine Wl_lit0 Try.underlying35 Try.sizeOf5 ?_
    intro B1 w1 hB1 hU1 hzz1 hs1
    have hzw1 := hU1.size
    replace hs := hs.upd0 hU1
    replace HU := HU.trans0 hU1
    refine Wl_v (r_mv (v := .slice a n c) rfl) ?_
    refine Wl_append Try.underlying35 (ti := Try.t5) (z := .int .u8 0) (sz := 1) (by' := 1) rfl rfl rfl rfl rfl (by decide) rfl hs1 rfl hs one (by simp only [maxLen]; omega) (by omega) ?_
    clear hs1
    intro a2 c2 w2 hU2 hzz2 ho
    have hzw2 := hU2.size
    replace hs := hs.upd hU2 (by intro x h1 h2; have h3 : x < w.heap.size := h1; have h4 : x = B1 := h2; omega)
    replace HU := HU.trans hU2 (by intro x hx; have hx2 : x = B1 := hx; show (False) ∨ w.heap.size ≤ x; omega)
    refine Wl_v (r_as (v := .slice a2 (0 + n) c2) rfl) ?_
    refine Wl_nil ?_
    refine W_ret ?_
    refine ret_end (v := .slice a2 (0 + n) c2) rfl (res1 Try.results39 rfl) ?_
    exact ⟨_, rfl, a2, c2, by simp, by simpa using ho.weak (R' := Ge w.heap.size) (by intro g hg; have h3 : ((g = B1) ∨ g = w1.heap.size) := hg; show _ ≤ _; omega), HU⟩

set_option maxRecDepth 100000 in
theorem same_spec {a b : Option Addr} {n m c d : Nat} {xs ys : List Int}  (w : World) (hx : Sl w (fun g => g < w.heap.size) 1 (.slice a n c) n (ints .u8 xs)) (hy : Sl w (fun g => g < w.heap.size) 1 (.slice b m d) m (ints .u8 ys)) (bx : Byt xs) (by' : Byt ys) :
    Calls Try.prog 21 #[.slice a n c, .slice b m d] w (Ret fun v w' => v = .bool (decide (xs = ys)) ∧ Upd No w w') := by
  have HU : Upd (fun b => False) w w := Upd.refl _ _
  refine calls_of_W Try.func21 rfl Try.ntmps21 (by simp) ?_
  refine W_seq ?_
  refine W_region ?_
  refine Wl_v (r_as (v := .bool false) rfl) ?_
  refine Wl_nil ?_
  refine W_seq ?_
  refine W_region ?_
  refine Wl_v (r_mv (v := .slice a n c) rfl) ?_
  refine Wl_bstr Try.underlying35 Try.underlying5 Try.underlying9 rfl hx ?_
  refine Wl_v (r_mv (v := .slice b m d) rfl) ?_
  refine Wl_bstr Try.underlying35 Try.underlying5 Try.underlying9 rfl hy ?_
  refine Wl_v (r_eqstr bx by' rfl rfl) ?_
  refine Wl_v (r_as (v := .bool (decide (xs = ys))) rfl) ?_
  refine Wl_nil ?_
  refine W_ret ?_
  refine ret_end (v := .bool (decide (xs = ys))) rfl (res1 Try.results21 rfl) ?_
  exact ⟨_, rfl, rfl, HU⟩

set_option maxRecDepth 100000 in
theorem at_spec {pb : Nat} {a : Option Addr} {n c : Nat} {at0 : Int} (w : World) (hp : Blk w pb [.slice a n c, .int .i64 at0]) (h0 : 0 ≤ at0) (h1 : at0 ≤ n) (hn : n ≤ 9223372036854775807) :
    Calls Try.prog 28 #[.pointer (some ⟨pb, 0, none⟩)] w (Ret fun v w' => v = .int .i64 at0 ∧ Upd No w w') := by
  have HU : Upd (fun b => False) w w := Upd.refl _ _
  refine calls_of_W Try.func28 rfl Try.ntmps28 (by simp) ?_
  refine W_seq ?_
  refine W_region ?_
  refine Wl_v (r_as (v := .int .i64 0) rfl) ?_
  refine Wl_nil ?_
  refine W_seq ?_
  refine W_seq ?_
  refine W_region ?_
  refine Wl_v (r_mv (v := .pointer (some ⟨pb, 0, none⟩)) rfl) ?_
  refine Wl_v (r_eqpn_s Try.underlying41 rfl rfl) ?_
  refine Wl_nil ?_
  refine W_cond_f rfl ?_
  refine W_skip ?_
  refine W_seq ?_
  refine W_region ?_
  refine Wl_v (r_mv (v := .pointer (some ⟨pb, 0, none⟩)) rfl) ?_
  refine Wl_v (r_nil rfl) ?_
  refine Wl_v (r_fld Try.underlying61 rfl Try.sizeOf3 rfl rfl) ?_
  refine Wl_load (v := .int .i64 at0) Try.isAgg3 rfl hp rfl ?_
  refine Wl_v (r_as (v := .int .i64 at0) rfl) ?_
  refine Wl_nil ?_
  refine W_ret ?_
  refine ret_end (v := .int .i64 at0) rfl (res1 Try.results28 rfl) ?_
  exact ⟨_, rfl, rfl, HU⟩

set_option maxRecDepth 100000 in
theorem at_nil  (w : World)  :
    Calls Try.prog 28 #[.pointer none] w (Ret fun v w' => v = .int .i64 0 ∧ Upd No w w') := by
  have HU : Upd (fun b => False) w w := Upd.refl _ _
  refine calls_of_W Try.func28 rfl Try.ntmps28 (by simp) ?_
  refine W_seq ?_
  refine W_region ?_
  refine Wl_v (r_as (v := .int .i64 0) rfl) ?_
  refine Wl_nil ?_
  refine W_seq ?_
  refine W_seq ?_
  refine W_region ?_
  refine Wl_v (r_mv (v := .pointer none) rfl) ?_
  refine Wl_v (r_eqpn_n Try.underlying41 rfl rfl) ?_
  refine Wl_nil ?_
  refine W_cond_t rfl ?_
  refine W_seq ?_
  refine W_region ?_
  refine Wl_v (r_as (v := .int .i64 0) rfl) ?_
  refine Wl_nil ?_
  refine W_ret ?_
  refine ret_end (v := .int .i64 0) rfl (res1 Try.results28 rfl) ?_
  exact ⟨_, rfl, rfl, HU⟩

set_option maxRecDepth 100000 in
theorem left_spec {pb : Nat} {a : Option Addr} {n c : Nat} {at0 : Int} (w : World) (hp : Blk w pb [.slice a n c, .int .i64 at0]) (h0 : 0 ≤ at0) (h1 : at0 ≤ n) (hn : n ≤ 9223372036854775807) :
    Calls Try.prog 42 #[.pointer (some ⟨pb, 0, none⟩)] w (Ret fun v w' => v = .int .i64 (n - at0) ∧ Upd No w w') := by
  have HU : Upd (fun b => False) w w := Upd.refl _ _
  refine calls_of_W Try.func42 rfl Try.ntmps42 (by simp) ?_
  refine W_seq ?_
  refine W_region ?_
  refine Wl_v (r_as (v := .int .i64 0) rfl) ?_
  refine Wl_nil ?_
  refine W_seq ?_
  refine W_seq ?_
  refine W_region ?_
  refine Wl_v (r_mv (v := .pointer (some ⟨pb, 0, none⟩)) rfl) ?_
  refine Wl_v (r_eqpn_s Try.underlying41 rfl rfl) ?_
  refine Wl_nil ?_
  refine W_cond_f rfl ?_
  refine W_skip ?_
  refine W_seq ?_
  refine W_drawt rfl (l0 := #[false, false, false, false, false, false, false, false, false, false, false]) (by kernel_rfl) ?_
  refine Wt_take (i := 0) (listed' := #[true, false, false, false, false, false, false, false, false, false, false]) (by kernel_rfl) rfl (by kernel_rfl) (by kernel_rfl) (by kernel_rfl) (by kernel_rfl) (YI_v (v := .pointer (some ⟨pb, 0, none⟩)) rfl (fun w' hw' => r_mv (v := .pointer (some ⟨pb, 0, none⟩)) rfl)) ?_
  refine Wt_take (i := 1) (listed' := #[true, true, false, false, false, false, false, false, false, false, false]) (by kernel_rfl) rfl (by kernel_rfl) (by kernel_rfl) (by kernel_rfl) (by kernel_rfl) (YI_v (v := .pointer (some ⟨pb, 0, none⟩)) rfl (fun w' hw' => r_nil rfl)) ?_
  refine Wt_take (i := 2) (listed' := #[true, true, true, false, false, false, false, false, false, false, false]) (by kernel_rfl) rfl (by kernel_rfl) (by kernel_rfl) (by kernel_rfl) (by kernel_rfl) (YI_v (v := .pointer (some ⟨pb, 0, none⟩)) rfl (fun w' hw' => r_fld Try.underlying61 rfl Try.sizeOf35 rfl rfl)) ?_
  refine Wt_take (i := 3) (listed' := #[true, true, true, true, false, false, false, false, false, false, false]) (by kernel_rfl) rfl (by kernel_rfl) (by kernel_rfl) (by kernel_rfl) (by kernel_rfl) (YI_v (v := .slice a n c) rfl (fun w' hw' => r_load Try.isAgg35 rfl (by rw [(hp.upd0 hw').cell]; rfl))) ?_
  refine Wt_take (i := 4) (listed' := #[true, true, true, true, true, false, false, false, false, false, false]) (by kernel_rfl) rfl (by kernel_rfl) (by kernel_rfl) (by kernel_rfl) (by kernel_rfl) (YI_v (v := .int .i64 ((n : Nat) : Int)) rfl (fun w' hw' => r_len Try.underlying35 rfl)) ?_
  refine Wt_take (i := 5) (listed' := #[true, true, true, true, true, true, false, false, false, false, false]) (by kernel_rfl) rfl (by kernel_rfl) (by kernel_rfl) (by kernel_rfl) (by kernel_rfl) (YI_v (v := .pointer (some ⟨pb, 0, none⟩)) rfl (fun w' hw' => r_mv (v := .pointer (some ⟨pb, 0, none⟩)) rfl)) ?_
  refine Wt_take (i := 6) (listed' := #[true, true, true, true, true, true, true, false, false, false, false]) (by kernel_rfl) rfl (by kernel_rfl) (by kernel_rfl) (by kernel_rfl) (by kernel_rfl) (YI_v (v := .pointer (some ⟨pb, 0, none⟩)) rfl (fun w' hw' => r_nil rfl)) ?_
  refine Wt_take (i := 7) (listed' := #[true, true, true, true, true, true, true, true, false, false, false]) (by kernel_rfl) rfl (by kernel_rfl) (by kernel_rfl) (by kernel_rfl) (by kernel_rfl) (YI_v (v := .pointer (some ⟨pb, 1, none⟩)) rfl (fun w' hw' => r_fld Try.underlying61 rfl Try.sizeOf3 rfl rfl)) ?_
  refine Wt_take (i := 8) (listed' := #[true, true, true, true, true, true, true, true, true, false, false]) (by kernel_rfl) rfl (by kernel_rfl) (by kernel_rfl) (by kernel_rfl) (by kernel_rfl) (YI_v (v := .int .i64 at0) rfl (fun w' hw' => r_load Try.isAgg3 rfl (by rw [(hp.upd0 hw').cell]; rfl))) ?_
  refine Wt_take (i := 9) (listed' := #[true, true, true, true, true, true, true, true, true, true, false]) (by kernel_rfl) rfl (by kernel_rfl) (by kernel_rfl) (by kernel_rfl) (by kernel_rfl) (YI_v (v := .int .i64 (((n : Nat) : Int) - at0)) rfl (fun w' hw' => r_sub rfl rfl (wi64 (by omega) (by omega)))) ?_
  refine Wt_take (i := 10) (listed' := #[true, true, true, true, true, true, true, true, true, true, true]) (by kernel_rfl) rfl (by kernel_rfl) (by kernel_rfl) (by kernel_rfl) (by kernel_rfl) (YI_v (v := .int .i64 (((n : Nat) : Int) - at0)) rfl (fun w' hw' => r_as (v := .int .i64 (((n : Nat) : Int) - at0)) rfl)) ?_
  intro w1 hU1
  have hzw1 := hU1.size
  replace hp := hp.upd0 hU1
  replace HU := HU.trans0 hU1
  refine Wa_done (by kernel_rfl) ?_
  refine W_ret ?_
  refine ret_end (v := .int .i64 (((n : Nat) : Int) - at0)) rfl (res1 Try.results42 rfl) ?_
  exact ⟨_, rfl, rfl, HU⟩

set_option maxRecDepth 100000 in
theorem readdU64_ok {be bf bx bc pb : Nat} {x s : Value} {er at0 at1 : Int} (u : FrameMode) (w : World) (he : Blk w be [.int .i64 er]) (hf : Blk w bf [.int .i64 at0]) (hx : Blk w bx [x]) (hc : Blk w bc [.pointer (some ⟨pb, 0, none⟩)]) (hp : Blk w pb [s, .int .i64 at1]) (d1 : pb ≠ be ∧ pb ≠ bf ∧ pb ≠ bx ∧ pb ≠ bc ∧ bx ≠ be ∧ bx ≠ bf ∧ bx ≠ bc) (hq : er = 0) :
    CD Try.prog 70 #[.pointer (some ⟨be, 0, none⟩), .pointer (some ⟨bf, 0, none⟩), .pointer (some ⟨bx, 0, none⟩), .pointer (some ⟨bc, 0, none⟩)] u w (fun e u' w' => u' = u ∧ Ret (fun v w' => v = .tuple #[] ∧ Upd (fun b => False) w w') e w') := by
  have HU : Upd (fun b => False) w w := Upd.refl _ _
  refine CD_of_W Try.func70 rfl Try.ntmps70 (by simp) ?_
  refine W_seq ?_
  refine W_region ?_
  refine Wl_load (v := .int .i64 er) Try.isAgg22 rfl he rfl ?_
  refine Wl_v (r_ne rfl rfl) ?_
  refine Wl_nil ?_
  have q1 : ¬ (er ≠ 0) := (by simp [hq])
  rw [decide_eq_false q1]
  refine W_cond_f rfl ?_
  refine W_skip ?_
  refine cd_nrm (v := .tuple #[]) (res0 Try.results70) ?_
  exact ⟨_, rfl, rfl, HU⟩

set_option maxRecDepth 100000 in
theorem readdU64_err {be bf bx bc pb : Nat} {x s : Value} {er at0 at1 : Int} (u : FrameMode) (w : World) (he : Blk w be [.int .i64 er]) (hf : Blk w bf [.int .i64 at0]) (hx : Blk w bx [x]) (hc : Blk w bc [.pointer (some ⟨pb, 0, none⟩)]) (hp : Blk w pb [s, .int .i64 at1]) (d1 : pb ≠ be ∧ pb ≠ bf ∧ pb ≠ bx ∧ pb ≠ bc ∧ bx ≠ be ∧ bx ≠ bf ∧ bx ≠ bc) (hq : er ≠ 0) :
    CD Try.prog 70 #[.pointer (some ⟨be, 0, none⟩), .pointer (some ⟨bf, 0, none⟩), .pointer (some ⟨bx, 0, none⟩), .pointer (some ⟨bc, 0, none⟩)] u w (fun e u' w' => u' = u ∧ Ret (fun v w' => v = .tuple #[] ∧ Blk w' be [.int .i64 er] ∧ Blk w' bx [.int .u64 0] ∧ Blk w' pb [s, .int .i64 at0] ∧ Upd (fun b => b = pb ∨ b = bx) w w') e w') := by
  have HU : Upd (fun b => b = pb ∨ b = bx) w w := Upd.refl _ _
  refine CD_of_W Try.func70 rfl Try.ntmps70 (by simp) ?_
  refine W_seq ?_
  refine W_region ?_
  refine Wl_load (v := .int .i64 er) Try.isAgg22 rfl he rfl ?_
  refine Wl_v (r_ne rfl rfl) ?_
  refine Wl_nil ?_
  have q1 : er ≠ 0 := hq
  rw [decide_eq_true q1]
  refine W_cond_t rfl ?_
  refine W_seq ?_
  refine W_region ?_
  refine Wl_v (r_as (v := .int .u64 0) rfl) ?_
  refine Wl_nil ?_
  refine W_region ?_
  refine Wl_load (v := .pointer (some ⟨pb, 0, none⟩)) Try.isAgg41 rfl hc rfl ?_
  refine Wl_v (r_mv (v := .int .u64 0) rfl) ?_
  refine Wl_load (v := .int .i64 at0) Try.isAgg3 rfl hf rfl ?_
  refine Wl_store (v := .int .u64 0) (cs' := [.int .u64 0]) Try.sizeOf68 rfl rfl rfl rfl hx rfl rfl ?_
  intro w1 hU1 hzz1 hxn
  replace hx := hxn; clear hxn
  have hzw1 := hU1.size
  replace he := he.upd1 hU1 (by omega)
  replace hf := hf.upd1 hU1 (by omega)
  replace hc := hc.upd1 hU1 (by omega)
  replace hp := hp.upd1 hU1 (by omega)
  replace HU := HU.trans1 hU1 (by show (bx = pb ∨ bx = bx) ∨ w.heap.size ≤ bx; omega)
  refine Wl_v (r_nil rfl) ?_
  refine Wl_v (r_fld Try.underlying61 rfl Try.sizeOf3 rfl rfl) ?_
  refine Wl_store (v := .int .i64 at0) (cs' := [s, .int .i64 at0]) Try.sizeOf3 rfl rfl rfl rfl hp rfl rfl ?_
  intro w2 hU2 hzz2 hpn
  replace hp := hpn; clear hpn
  have hzw2 := hU2.size
  replace he := he.upd1 hU2 (by omega)
  replace hf := hf.upd1 hU2 (by omega)
  replace hx := hx.upd1 hU2 (by omega)
  replace hc := hc.upd1 hU2 (by omega)
  replace HU := HU.trans1 hU2 (by show (pb = pb ∨ pb = bx) ∨ w.heap.size ≤ pb; omega)
  refine Wl_nil ?_
  refine cd_nrm (v := .tuple #[]) (res0 Try.results70) ?_
  exact ⟨_, rfl, rfl, he, hx, hp, HU⟩

set_option maxRecDepth 100000 in
theorem readU64_nil {gv : Value} (w : World)  :
    Calls Try.prog 63 #[.pointer none, gv] w (Ret fun v w' => v = .tuple #[.int .u64 0, .int .i64 1] ∧ Upd No w w') := by
  have HU : Upd (fun b => False) w w := Upd.refl _ _
  refine calls_of_W Try.func63 rfl Try.ntmps63 (by simp) ?_
  refine W_seq ?_
  refine W_region ?_
  refine Wl_box (v := .pointer none) (cs := [.pointer none]) rfl rfl ?_
  intro B1 w1 hB1 hU1 hzz1 hb1
  have hzw1 := hU1.size
  replace HU := HU.trans0 hU1
  refine Wl_alloc (cs := [.int .u64 0]) Try.zeroValue68 rfl ?_
  intro B2 w2 hB2 hU2 hzz2 hb2
  have hzw2 := hU2.size
  replace HU := HU.trans0 hU2
  replace hb1 := hb1.upd0 hU2
  refine Wl_alloc (cs := [.int .i64 0]) Try.zeroValue22 rfl ?_
  intro B3 w3 hB3 hU3 hzz3 hb3
  have hzw3 := hU3.size
  replace HU := HU.trans0 hU3
  replace hb1 := hb1.upd0 hU3
  replace hb2 := hb2.upd0 hU3
  refine Wl_nil ?_
  refine W_seq ?_
  refine W_seq ?_
  refine W_region ?_
  refine Wl_load (v := .pointer none) Try.isAgg41 rfl hb1 rfl ?_
  refine Wl_v (r_eqpn_n Try.underlying41 rfl rfl) ?_
  refine Wl_nil ?_
  refine W_cond_t rfl ?_
  refine W_seq ?_
  refine W_region ?_
  refine Wl_load (v := .int .u64 0) Try.isAgg68 rfl hb2 rfl ?_
  refine Wl_store (v := .int .u64 0) (cs' := [.int .u64 0]) Try.sizeOf68 rfl rfl rfl rfl hb2 rfl rfl ?_
  intro w4 hU4 hzz4 hb2n
  replace hb2 := hb2n; clear hb2n
  have hzw4 := hU4.size
  replace HU := HU.trans1 hU4 (by show (False) ∨ w.heap.size ≤ B2; omega)
  replace hb1 := hb1.upd1 hU4 (by omega)
  replace hb3 := hb3.upd1 hU4 (by omega)
  refine Wl_store (v := .int .i64 1) (cs' := [.int .i64 1]) Try.sizeOf22 rfl rfl rfl rfl hb3 rfl rfl ?_
  intro w5 hU5 hzz5 hb3n
  replace hb3 := hb3n; clear hb3n
  have hzw5 := hU5.size
  replace HU := HU.trans1 hU5 (by show (False) ∨ w.heap.size ≤ B3; omega)
  replace hb1 := hb1.upd1 hU5 (by omega)
  replace hb2 := hb2.upd1 hU5 (by omega)
  refine Wl_nil ?_
  refine W_ret ?_
  refine ret_end (v := .tuple #[.int .u64 0, .int .i64 1]) rfl (resc2 Try.results63 rfl rfl Try.isAgg68 Try.isAgg22 hb2 hb3) ?_
  exact ⟨_, rfl, rfl, HU⟩

set_option maxRecDepth 100000 in
theorem readU64_spec {pb gf : Nat} {caps : Array Value} {s : Value} {at0 : Int} {Φ : Value → Int → Int → World → World → Prop} (w : World) (hp : Blk w pb [s, .int .i64 at0]) (hgf : ∀ ar w, (callFunc gf ar).run Try.prog w = .ok (.enter gf ar) w) (hget : ∀ w1, Upd No w w1 → Calls Try.prog gf caps w1 (Ret fun v w2 => ∃ x er, v = .tuple #[x, .int .i64 er] ∧ x.cells = #[x] ∧ x.oneCell' = true ∧ ∃ at1, Blk w2 pb [s, .int .i64 at1] ∧ Upd (Is pb) w1 w2 ∧ Φ x er at1 w1 w2)) :
    Calls Try.prog 63 #[.pointer (some ⟨pb, 0, none⟩), .func (.func gf) #[] caps] w (Ret fun v w' => ∃ x er at1 w1 w2, v = .tuple #[if er = 0 then x else .int .u64 0, .int .i64 er] ∧ Blk w' pb [s, .int .i64 (if er = 0 then at1 else at0)] ∧ Upd No w w1 ∧ Φ x er at1 w1 w2 ∧ Upd (fun b => b = pb ∨ (w.heap.size ≤ b ∧ b < w1.heap.size)) w2 w' ∧ Upd (Is pb) w w') := by
  have HU : Upd (fun b => b = pb) w w := Upd.refl _ _
  have HN : Upd No w w := Upd.refl _ _
  have hpl := hp.lt
  refine calls_of_W Try.func63 rfl Try.ntmps63 (by simp) ?_
  refine W_seq ?_
  refine W_region ?_
  refine Wl_box (v := .pointer (some ⟨pb, 0, none⟩)) (cs := [.pointer (some ⟨pb, 0, none⟩)]) rfl rfl ?_
  intro B1 w1 hB1 hU1 hzz1 hb1
  have hzw1 := hU1.size
  replace hp := hp.upd0 hU1
  replace HN := HN.trans0 hU1
  replace HU := HU.trans0 hU1
  refine Wl_alloc (cs := [.int .u64 0]) Try.zeroValue68 rfl ?_
  intro B2 w2 hB2 hU2 hzz2 hb2
  have hzw2 := hU2.size
  replace hp := hp.upd0 hU2
  replace HN := HN.trans0 hU2
  replace HU := HU.trans0 hU2
  replace hb1 := hb1.upd0 hU2
  refine Wl_alloc (cs := [.int .i64 0]) Try.zeroValue22 rfl ?_
  intro B3 w3 hB3 hU3 hzz3 hb3
  have hzw3 := hU3.size
  replace hp := hp.upd0 hU3
  replace HN := HN.trans0 hU3
  replace HU := HU.trans0 hU3
  replace hb1 := hb1.upd0 hU3
  replace hb2 := hb2.upd0 hU3
  refine Wl_nil ?_
  refine W_seq ?_
  refine W_seq ?_
  refine W_region ?_
  refine Wl_load (v := .pointer (some ⟨pb, 0, none⟩)) Try.isAgg41 rfl hb1 rfl ?_
  refine Wl_v (r_eqpn_s Try.underlying41 rfl rfl) ?_
  refine Wl_nil ?_
  refine W_cond_f rfl ?_
  refine W_skip ?_
  refine W_seq ?_
  refine W_region ?_
  refine Wl_load (v := .pointer (some ⟨pb, 0, none⟩)) Try.isAgg41 rfl hb1 rfl ?_
  refine Wl_v (r_nil rfl) ?_
  refine Wl_v (r_fld Try.underlying61 rfl Try.sizeOf3 rfl rfl) ?_
  refine Wl_load (v := .int .i64 at0) Try.isAgg3 rfl hp rfl ?_
  refine Wl_alloc (cs := [.int .i64 0]) Try.zeroValue3 rfl ?_
  intro B4 w4 hB4 hU4 hzz4 hb4
  have hzw4 := hU4.size
  replace hp := hp.upd0 hU4
  replace HN := HN.trans0 hU4
  replace HU := HU.trans0 hU4
  replace hb1 := hb1.upd0 hU4
  replace hb2 := hb2.upd0 hU4
  replace hb3 := hb3.upd0 hU4
  refine Wl_store (v := .int .i64 at0) (cs' := [.int .i64 at0]) Try.sizeOf3 rfl rfl rfl rfl hb4 rfl rfl ?_
  intro w5 hU5 hzz5 hb4n
  replace hb4 := hb4n; clear hb4n
  have hzw5 := hU5.size
  replace hp := hp.upd1 hU5 (by omega)
  replace HN := HN.trans1 hU5 (by show (False) ∨ w.heap.size ≤ B4; omega)
  replace HU := HU.trans1 hU5 (by show (B4 = pb) ∨ w.heap.size ≤ B4; omega)
  replace hb1 := hb1.upd1 hU5 (by omega)
  replace hb2 := hb2.upd1 hU5 (by omega)
  replace hb3 := hb3.upd1 hU5 (by omega)
  refine Wl_nil ?_
  refine W_seq ?_
  refine W_region ?_
  refine Wl_v (r_mkf4 (v0 := .pointer (some ⟨B3, 0, none⟩)) (v1 := .pointer (some ⟨B4, 0, none⟩)) (v2 := .pointer (some ⟨B2, 0, none⟩)) (v3 := .pointer (some ⟨B1, 0, none⟩)) rfl rfl rfl rfl) ?_
  refine Wl_defer rfl ?_
  refine Wl_nil ?_
  refine W_seq ?_
  refine W_region ?_
  refine Wl_v (r_mv (v := .func (.func gf) #[] caps) rfl) ?_
  refine Wl_call (r_clos0 hgf rfl (by simp)) (hget w5 HN) ?_
  rintro v w6 ⟨x, er, rfl, hx1, hx2, at1, hpn, hU6, hΦ⟩
  have HP : Upd No w w5 := HN
  replace hp := hpn
  clear hpn
  have hzw6 := hU6.size
  replace HU := HU.trans1 hU6 (by show (pb = pb) ∨ w.heap.size ≤ pb; omega)
  replace hb1 := hb1.upd1 hU6 (by omega)
  replace hb2 := hb2.upd1 hU6 (by omega)
  replace hb3 := hb3.upd1 hU6 (by omega)
  replace hb4 := hb4.upd1 hU6 (by omega)
  have HX : Upd (fun b => b = pb ∨ (w.heap.size ≤ b ∧ b < w5.heap.size)) w6 w6 := Upd.refl _ _
  refine Wl_v (r_ext (v := x) rfl rfl) ?_
  refine Wl_v (r_ext (v := .int .i64 er) rfl rfl) ?_
  refine Wl_store (v := x) (cs' := [x]) Try.sizeOf68 rfl rfl hx1 hx2 hb2 rfl rfl ?_
  intro w7 hU7 hzz7 hb2n
  replace hb2 := hb2n; clear hb2n
  have hzw7 := hU7.size
  replace hp := hp.upd1 hU7 (by omega)
  replace HU := HU.trans1 hU7 (by show (B2 = pb) ∨ w.heap.size ≤ B2; omega)
  replace hb1 := hb1.upd1 hU7 (by omega)
  replace hb3 := hb3.upd1 hU7 (by omega)
  replace hb4 := hb4.upd1 hU7 (by omega)
  replace HX := HX.trans1 hU7 (by show (B2 = pb ∨ (w.heap.size ≤ B2 ∧ B2 < w5.heap.size)) ∨ w6.heap.size ≤ B2; omega)
  refine Wl_store (v := .int .i64 er) (cs' := [.int .i64 er]) Try.sizeOf22 rfl rfl rfl rfl hb3 rfl rfl ?_
  intro w8 hU8 hzz8 hb3n
  replace hb3 := hb3n; clear hb3n
  have hzw8 := hU8.size
  replace hp := hp.upd1 hU8 (by omega)
  replace HU := HU.trans1 hU8 (by show (B3 = pb) ∨ w.heap.size ≤ B3; omega)
  replace hb1 := hb1.upd1 hU8 (by omega)
  replace hb2 := hb2.upd1 hU8 (by omega)
  replace hb4 := hb4.upd1 hU8 (by omega)
  replace HX := HX.trans1 hU8 (by show (B3 = pb ∨ (w.heap.size ≤ B3 ∧ B3 < w5.heap.size)) ∨ w6.heap.size ≤ B3; omega)
  refine Wl_nil ?_
  refine W_ret ?_
  refine ret_ds rfl ?_
  by_cases hq : er = 0
  · refine lv_call (by simp) Try.call70 rfl (readdU64_ok _ _ hb3 hb4 hb2 hb1 hp (by omega) hq) ?_
    rintro e1 u1 w9 ⟨rfl, v1, rfl, rfl, hU9⟩
    have hzw9 := hU9.size
    replace hp := hp.upd0 hU9
    replace HU := HU.trans0 hU9
    replace hb1 := hb1.upd0 hU9
    replace hb2 := hb2.upd0 hU9
    replace hb3 := hb3.upd0 hU9
    replace hb4 := hb4.upd0 hU9
    replace HX := HX.trans0 hU9
    refine lv_nil (v := .tuple #[x, .int .i64 er]) (resc2 Try.results63 rfl rfl Try.isAgg68 Try.isAgg22 hb2 hb3) ?_
    exact ⟨_, rfl, x, er, at1, w5, w6, by simp [hq], by simpa [hq] using hp, HP, hΦ, HX, HU⟩
  · refine lv_call (by simp) Try.call70 rfl (readdU64_err _ _ hb3 hb4 hb2 hb1 hp (by omega) hq) ?_
    rintro e1 u1 w9 ⟨rfl, v1, rfl, rfl, hee, hxx, hpp, hU9⟩
    have hzw9 := hU9.size
    replace HU := HU.trans hU9 (by intro x hx; have hx2 : x = pb ∨ x = B2 := hx; show (x = pb) ∨ w.heap.size ≤ x; omega)
    replace hb1 := hb1.upd hU9 (by intro hx; have hx2 : B1 = pb ∨ B1 = B2 := hx; omega)
    replace hb4 := hb4.upd hU9 (by intro hx; have hx2 : B4 = pb ∨ B4 = B2 := hx; omega)
    replace HX := HX.trans hU9 (by intro x hx; have hx2 : x = pb ∨ x = B2 := hx; show (x = pb ∨ (w.heap.size ≤ x ∧ x < w5.heap.size)) ∨ w6.heap.size ≤ x; omega)
    refine lv_nil (v := .tuple #[.int .u64 0, .int .i64 er]) (resc2 Try.results63 rfl rfl Try.isAgg68 Try.isAgg22 hxx hee) ?_
    exact ⟨_, rfl, x, er, at1, w5, w6, by simp [hq], by simpa [hq] using hpp, HP, hΦ, HX, HU⟩

set_option maxRecDepth 100000 in
theorem readdBs_ok {be bf bx bc pb : Nat} {x s : Value} {er at0 at1 : Int} (u : FrameMode) (w : World) (he : Blk w be [.int .i64 er]) (hf : Blk w bf [.int .i64 at0]) (hx : Blk w bx [x]) (hc : Blk w bc [.pointer (some ⟨pb, 0, none⟩)]) (hp : Blk w pb [s, .int .i64 at1]) (d1 : pb ≠ be ∧ pb ≠ bf ∧ pb ≠ bx ∧ pb ≠ bc ∧ bx ≠ be ∧ bx ≠ bf ∧ bx ≠ bc) (hq : er = 0) :
    CD Try.prog 57 #[.pointer (some ⟨be, 0, none⟩), .pointer (some ⟨bf, 0, none⟩), .pointer (some ⟨bx, 0, none⟩), .pointer (some ⟨bc, 0, none⟩)] u w (fun e u' w' => u' = u ∧ Ret (fun v w' => v = .tuple #[] ∧ Upd (fun b => False) w w') e w') := by
  have HU : Upd (fun b => False) w w := Upd.refl _ _
  refine CD_of_W Try.func57 rfl Try.ntmps57 (by simp) ?_
  refine W_seq ?_
  refine W_region ?_
  refine Wl_load (v := .int .i64 er) Try.isAgg22 rfl he rfl ?_
  refine Wl_v (r_ne rfl rfl) ?_
  refine Wl_nil ?_
  have q1 : ¬ (er ≠ 0) := (by simp [hq])
  rw [decide_eq_false q1]
  refine W_cond_f rfl ?_
  refine W_skip ?_
  refine cd_nrm (v := .tuple #[]) (res0 Try.results57) ?_
  exact ⟨_, rfl, rfl, HU⟩

set_option maxRecDepth 100000 in
theorem readdBs_err {be bf bx bc pb : Nat} {x s : Value} {er at0 at1 : Int} (u : FrameMode) (w : World) (he : Blk w be [.int .i64 er]) (hf : Blk w bf [.int .i64 at0]) (hx : Blk w bx [x]) (hc : Blk w bc [.pointer (some ⟨pb, 0, none⟩)]) (hp : Blk w pb [s, .int .i64 at1]) (d1 : pb ≠ be ∧ pb ≠ bf ∧ pb ≠ bx ∧ pb ≠ bc ∧ bx ≠ be ∧ bx ≠ bf ∧ bx ≠ bc) (hq : er ≠ 0) :
    CD Try.prog 57 #[.pointer (some ⟨be, 0, none⟩), .pointer (some ⟨bf, 0, none⟩), .pointer (some ⟨bx, 0, none⟩), .pointer (some ⟨bc, 0, none⟩)] u w (fun e u' w' => u' = u ∧ Ret (fun v w' => v = .tuple #[] ∧ Blk w' be [.int .i64 er] ∧ Blk w' bx [.slice none 0 0] ∧ Blk w' pb [s, .int .i64 at0] ∧ Upd (fun b => b = pb ∨ b = bx) w w') e w') := by
  have HU : Upd (fun b => b = pb ∨ b = bx) w w := Upd.refl _ _
  refine CD_of_W Try.func57 rfl Try.ntmps57 (by simp) ?_
  refine W_seq ?_
  refine W_region ?_
  refine Wl_load (v := .int .i64 er) Try.isAgg22 rfl he rfl ?_
  refine Wl_v (r_ne rfl rfl) ?_
  refine Wl_nil ?_
  have q1 : er ≠ 0 := hq
  rw [decide_eq_true q1]
  refine W_cond_t rfl ?_
  refine W_seq ?_
  refine W_region ?_
  refine Wl_v (r_as (v := .slice none 0 0) rfl) ?_
  refine Wl_nil ?_
  refine W_region ?_
  refine Wl_load (v := .pointer (some ⟨pb, 0, none⟩)) Try.isAgg41 rfl hc rfl ?_
  refine Wl_v (r_mv (v := .slice none 0 0) rfl) ?_
  refine Wl_load (v := .int .i64 at0) Try.isAgg3 rfl hf rfl ?_
  refine Wl_store (v := .slice none 0 0) (cs' := [.slice none 0 0]) Try.sizeOf35 rfl rfl rfl rfl hx rfl rfl ?_
  intro w1 hU1 hzz1 hxn
  replace hx := hxn; clear hxn
  have hzw1 := hU1.size
  replace he := he.upd1 hU1 (by omega)
  replace hf := hf.upd1 hU1 (by omega)
  replace hc := hc.upd1 hU1 (by omega)
  replace hp := hp.upd1 hU1 (by omega)
  replace HU := HU.trans1 hU1 (by show (bx = pb ∨ bx = bx) ∨ w.heap.size ≤ bx; omega)
  refine Wl_v (r_nil rfl) ?_
  refine Wl_v (r_fld Try.underlying61 rfl Try.sizeOf3 rfl rfl) ?_
  refine Wl_store (v := .int .i64 at0) (cs' := [s, .int .i64 at0]) Try.sizeOf3 rfl rfl rfl rfl hp rfl rfl ?_
  intro w2 hU2 hzz2 hpn
  replace hp := hpn; clear hpn
  have hzw2 := hU2.size
  replace he := he.upd1 hU2 (by omega)
  replace hf := hf.upd1 hU2 (by omega)
  replace hx := hx.upd1 hU2 (by omega)
  replace hc := hc.upd1 hU2 (by omega)
  replace HU := HU.trans1 hU2 (by show (pb = pb ∨ pb = bx) ∨ w.heap.size ≤ pb; omega)
  refine Wl_nil ?_
  refine cd_nrm (v := .tuple #[]) (res0 Try.results57) ?_
  exact ⟨_, rfl, rfl, he, hx, hp, HU⟩

set_option maxRecDepth 100000 in
theorem readBs_nil {gv : Value} (w : World)  :
    Calls Try.prog 40 #[.pointer none, gv] w (Ret fun v w' => v = .tuple #[.slice none 0 0, .int .i64 1] ∧ Upd No w w') := by
  have HU : Upd (fun b => False) w w := Upd.refl _ _
  refine calls_of_W Try.func40 rfl Try.ntmps40 (by simp) ?_
  refine W_seq ?_
  refine W_region ?_
  refine Wl_box (v := .pointer none) (cs := [.pointer none]) rfl rfl ?_
  intro B1 w1 hB1 hU1 hzz1 hb1
  have hzw1 := hU1.size
  replace HU := HU.trans0 hU1
  refine Wl_alloc (cs := [.slice none 0 0]) Try.zeroValue35 rfl ?_
  intro B2 w2 hB2 hU2 hzz2 hb2
  have hzw2 := hU2.size
  replace HU := HU.trans0 hU2
  replace hb1 := hb1.upd0 hU2
  refine Wl_alloc (cs := [.int .i64 0]) Try.zeroValue22 rfl ?_
  intro B3 w3 hB3 hU3 hzz3 hb3
  have hzw3 := hU3.size
  replace HU := HU.trans0 hU3
  replace hb1 := hb1.upd0 hU3
  replace hb2 := hb2.upd0 hU3
  refine Wl_nil ?_
  refine W_seq ?_
  refine W_seq ?_
  refine W_region ?_
  refine Wl_load (v := .pointer none) Try.isAgg41 rfl hb1 rfl ?_
  refine Wl_v (r_eqpn_n Try.underlying41 rfl rfl) ?_
  refine Wl_nil ?_
  refine W_cond_t rfl ?_
  refine W_seq ?_
  refine W_region ?_
  refine Wl_load (v := .slice none 0 0) Try.isAgg35 rfl hb2 rfl ?_
  refine Wl_store (v := .slice none 0 0) (cs' := [.slice none 0 0]) Try.sizeOf35 rfl rfl rfl rfl hb2 rfl rfl ?_
  intro w4 hU4 hzz4 hb2n
  replace hb2 := hb2n; clear hb2n
  have hzw4 := hU4.size
  replace HU := HU.trans1 hU4 (by show (False) ∨ w.heap.size ≤ B2; omega)
  replace hb1 := hb1.upd1 hU4 (by omega)
  replace hb3 := hb3.upd1 hU4 (by omega)
  refine Wl_store (v := .int .i64 1) (cs' := [.int .i64 1]) Try.sizeOf22 rfl rfl rfl rfl hb3 rfl rfl ?_
  intro w5 hU5 hzz5 hb3n
  replace hb3 := hb3n; clear hb3n
  have hzw5 := hU5.size
  replace HU := HU.trans1 hU5 (by show (False) ∨ w.heap.size ≤ B3; omega)
  replace hb1 := hb1.upd1 hU5 (by omega)
  replace hb2 := hb2.upd1 hU5 (by omega)
  refine Wl_nil ?_
  refine W_ret ?_
  refine ret_end (v := .tuple #[.slice none 0 0, .int .i64 1]) rfl (resc2 Try.results40 rfl rfl Try.isAgg35 Try.isAgg22 hb2 hb3) ?_
  exact ⟨_, rfl, rfl, HU⟩

set_option maxRecDepth 100000 in
theorem readBs_spec {pb gf : Nat} {caps : Array Value} {s : Value} {at0 : Int} {Φ : Value → Int → Int → World → World → Prop} (w : World) (hp : Blk w pb [s, .int .i64 at0]) (hgf : ∀ ar w, (callFunc gf ar).run Try.prog w = .ok (.enter gf ar) w) (hget : ∀ w1, Upd No w w1 → Calls Try.prog gf caps w1 (Ret fun v w2 => ∃ x er, v = .tuple #[x, .int .i64 er] ∧ x.cells = #[x] ∧ x.oneCell' = true ∧ ∃ at1, Blk w2 pb [s, .int .i64 at1] ∧ Upd (Is pb) w1 w2 ∧ Φ x er at1 w1 w2)) :
    Calls Try.prog 40 #[.pointer (some ⟨pb, 0, none⟩), .func (.func gf) #[] caps] w (Ret fun v w' => ∃ x er at1 w1 w2, v = .tuple #[if er = 0 then x else .slice none 0 0, .int .i64 er] ∧ Blk w' pb [s, .int .i64 (if er = 0 then at1 else at0)] ∧ Upd No w w1 ∧ Φ x er at1 w1 w2 ∧ Upd (fun b => b = pb ∨ (w.heap.size ≤ b ∧ b < w1.heap.size)) w2 w' ∧ Upd (Is pb) w w') := by
  have HU : Upd (fun b => b = pb) w w := Upd.refl _ _
  have HN : Upd No w w := Upd.refl _ _
  have hpl := hp.lt
  refine calls_of_W Try.func40 rfl Try.ntmps40 (by simp) ?_
  refine W_seq ?_
  refine W_region ?_
  refine Wl_box (v := .pointer (some ⟨pb, 0, none⟩)) (cs := [.pointer (some ⟨pb, 0, none⟩)]) rfl rfl ?_
  intro B1 w1 hB1 hU1 hzz1 hb1
  have hzw1 := hU1.size
  replace hp := hp.upd0 hU1
  replace HN := HN.trans0 hU1
  replace HU := HU.trans0 hU1
  refine Wl_alloc (cs := [.slice none 0 0]) Try.zeroValue35 rfl ?_
  intro B2 w2 hB2 hU2 hzz2 hb2
  have hzw2 := hU2.size
  replace hp := hp.upd0 hU2
  replace HN := HN.trans0 hU2
  replace HU := HU.trans0 hU2
  replace hb1 := hb1.upd0 hU2
  refine Wl_alloc (cs := [.int .i64 0]) Try.zeroValue22 rfl ?_
  intro B3 w3 hB3 hU3 hzz3 hb3
  have hzw3 := hU3.size
  replace hp := hp.upd0 hU3
  replace HN := HN.trans0 hU3
  replace HU := HU.trans0 hU3
  replace hb1 := hb1.upd0 hU3
  replace hb2 := hb2.upd0 hU3
  refine Wl_nil ?_
  refine W_seq ?_
  refine W_seq ?_
  refine W_region ?_
  refine Wl_load (v := .pointer (some ⟨pb, 0, none⟩)) Try.isAgg41 rfl hb1 rfl ?_
  refine Wl_v (r_eqpn_s Try.underlying41 rfl rfl) ?_
  refine Wl_nil ?_
  refine W_cond_f rfl ?_
  refine W_skip ?_
  refine W_seq ?_
  refine W_region ?_
  refine Wl_load (v := .pointer (some ⟨pb, 0, none⟩)) Try.isAgg41 rfl hb1 rfl ?_
  refine Wl_v (r_nil rfl) ?_
  refine Wl_v (r_fld Try.underlying61 rfl Try.sizeOf3 rfl rfl) ?_
  refine Wl_load (v := .int .i64 at0) Try.isAgg3 rfl hp rfl ?_
  refine Wl_alloc (cs := [.int .i64 0]) Try.zeroValue3 rfl ?_
  intro B4 w4 hB4 hU4 hzz4 hb4
  have hzw4 := hU4.size
  replace hp := hp.upd0 hU4
  replace HN := HN.trans0 hU4
  replace HU := HU.trans0 hU4
  replace hb1 := hb1.upd0 hU4
  replace hb2 := hb2.upd0 hU4
  replace hb3 := hb3.upd0 hU4
  refine Wl_store (v := .int .i64 at0) (cs' := [.int .i64 at0]) Try.sizeOf3 rfl rfl rfl rfl hb4 rfl rfl ?_
  intro w5 hU5 hzz5 hb4n
  replace hb4 := hb4n; clear hb4n
  have hzw5 := hU5.size
  replace hp := hp.upd1 hU5 (by omega)
  replace HN := HN.trans1 hU5 (by show (False) ∨ w.heap.size ≤ B4; omega)
  replace HU := HU.trans1 hU5 (by show (B4 = pb) ∨ w.heap.size ≤ B4; omega)
  replace hb1 := hb1.upd1 hU5 (by omega)
  replace hb2 := hb2.upd1 hU5 (by omega)
  replace hb3 := hb3.upd1 hU5 (by omega)
  refine Wl_nil ?_
  refine W_seq ?_
  refine W_region ?_
  refine Wl_v (r_mkf4 (v0 := .pointer (some ⟨B3, 0, none⟩)) (v1 := .pointer (some ⟨B4, 0, none⟩)) (v2 := .pointer (some ⟨B2, 0, none⟩)) (v3 := .pointer (some ⟨B1, 0, none⟩)) rfl rfl rfl rfl) ?_
  refine Wl_defer rfl ?_
  refine Wl_nil ?_
  refine W_seq ?_
  refine W_region ?_
  refine Wl_v (r_mv (v := .func (.func gf) #[] caps) rfl) ?_
  refine Wl_call (r_clos0 hgf rfl (by simp)) (hget w5 HN) ?_
  rintro v w6 ⟨x, er, rfl, hx1, hx2, at1, hpn, hU6, hΦ⟩
  have HP : Upd No w w5 := HN
  replace hp := hpn
  clear hpn
  have hzw6 := hU6.size
  replace HU := HU.trans1 hU6 (by show (pb = pb) ∨ w.heap.size ≤ pb; omega)
  replace hb1 := hb1.upd1 hU6 (by omega)
  replace hb2 := hb2.upd1 hU6 (by omega)
  replace hb3 := hb3.upd1 hU6 (by omega)
  replace hb4 := hb4.upd1 hU6 (by omega)
  have HX : Upd (fun b => b = pb ∨ (w.heap.size ≤ b ∧ b < w5.heap.size)) w6 w6 := Upd.refl _ _
  refine Wl_v (r_ext (v := x) rfl rfl) ?_
  refine Wl_v (r_ext (v := .int .i64 er) rfl rfl) ?_
  refine Wl_store (v := x) (cs' := [x]) Try.sizeOf35 rfl rfl hx1 hx2 hb2 rfl rfl ?_
  intro w7 hU7 hzz7 hb2n
  replace hb2 := hb2n; clear hb2n
  have hzw7 := hU7.size
  replace hp := hp.upd1 hU7 (by omega)
  replace HU := HU.trans1 hU7 (by show (B2 = pb) ∨ w.heap.size ≤ B2; omega)
  replace hb1 := hb1.upd1 hU7 (by omega)
  replace hb3 := hb3.upd1 hU7 (by omega)
  replace hb4 := hb4.upd1 hU7 (by omega)
  replace HX := HX.trans1 hU7 (by show (B2 = pb ∨ (w.heap.size ≤ B2 ∧ B2 < w5.heap.size)) ∨ w6.heap.size ≤ B2; omega)
  refine Wl_store (v := .int .i64 er) (cs' := [.int .i64 er]) Try.sizeOf22 rfl rfl rfl rfl hb3 rfl rfl ?_
  intro w8 hU8 hzz8 hb3n
  replace hb3 := hb3n; clear hb3n
  have hzw8 := hU8.size
  replace hp := hp.upd1 hU8 (by omega)
  replace HU := HU.trans1 hU8 (by show (B3 = pb) ∨ w.heap.size ≤ B3; omega)
  replace hb1 := hb1.upd1 hU8 (by omega)
  replace hb2 := hb2.upd1 hU8 (by omega)
  replace hb4 := hb4.upd1 hU8 (by omega)
  replace HX := HX.trans1 hU8 (by show (B3 = pb ∨ (w.heap.size ≤ B3 ∧ B3 < w5.heap.size)) ∨ w6.heap.size ≤ B3; omega)
  refine Wl_nil ?_
  refine W_ret ?_
  refine ret_ds rfl ?_
  by_cases hq : er = 0
  · refine lv_call (by simp) Try.call57 rfl (readdBs_ok _ _ hb3 hb4 hb2 hb1 hp (by omega) hq) ?_
    rintro e1 u1 w9 ⟨rfl, v1, rfl, rfl, hU9⟩
    have hzw9 := hU9.size
    replace hp := hp.upd0 hU9
    replace HU := HU.trans0 hU9
    replace hb1 := hb1.upd0 hU9
    replace hb2 := hb2.upd0 hU9
    replace hb3 := hb3.upd0 hU9
    replace hb4 := hb4.upd0 hU9
    replace HX := HX.trans0 hU9
    refine lv_nil (v := .tuple #[x, .int .i64 er]) (resc2 Try.results40 rfl rfl Try.isAgg35 Try.isAgg22 hb2 hb3) ?_
    exact ⟨_, rfl, x, er, at1, w5, w6, by simp [hq], by simpa [hq] using hp, HP, hΦ, HX, HU⟩
  · refine lv_call (by simp) Try.call57 rfl (readdBs_err _ _ hb3 hb4 hb2 hb1 hp (by omega) hq) ?_
    rintro e1 u1 w9 ⟨rfl, v1, rfl, rfl, hee, hxx, hpp, hU9⟩
    have hzw9 := hU9.size
    replace HU := HU.trans hU9 (by intro x hx; have hx2 : x = pb ∨ x = B2 := hx; show (x = pb) ∨ w.heap.size ≤ x; omega)
    replace hb1 := hb1.upd hU9 (by intro hx; have hx2 : B1 = pb ∨ B1 = B2 := hx; omega)
    replace hb4 := hb4.upd hU9 (by intro hx; have hx2 : B4 = pb ∨ B4 = B2 := hx; omega)
    replace HX := HX.trans hU9 (by intro x hx; have hx2 : x = pb ∨ x = B2 := hx; show (x = pb ∨ (w.heap.size ≤ x ∧ x < w5.heap.size)) ∨ w6.heap.size ≤ x; omega)
    refine lv_nil (v := .tuple #[.slice none 0 0, .int .i64 er]) (resc2 Try.results40 rfl rfl Try.isAgg35 Try.isAgg22 hxx hee) ?_
    exact ⟨_, rfl, x, er, at1, w5, w6, by simp [hq], by simpa [hq] using hpp, HP, hΦ, HX, HU⟩

set_option maxRecDepth 100000 in
theorem readdU32_ok {be bf bx bc pb : Nat} {x s : Value} {er at0 at1 : Int} (u : FrameMode) (w : World) (he : Blk w be [.int .i64 er]) (hf : Blk w bf [.int .i64 at0]) (hx : Blk w bx [x]) (hc : Blk w bc [.pointer (some ⟨pb, 0, none⟩)]) (hp : Blk w pb [s, .int .i64 at1]) (d1 : pb ≠ be ∧ pb ≠ bf ∧ pb ≠ bx ∧ pb ≠ bc ∧ bx ≠ be ∧ bx ≠ bf ∧ bx ≠ bc) (hq : er = 0) :
    CD Try.prog 68 #[.pointer (some ⟨be, 0, none⟩), .pointer (some ⟨bf, 0, none⟩), .pointer (some ⟨bx, 0, none⟩), .pointer (some ⟨bc, 0, none⟩)] u w (fun e u' w' => u' = u ∧ Ret (fun v w' => v = .tuple #[] ∧ Upd (fun b => False) w w') e w') := by
  have HU : Upd (fun b => False) w w := Upd.refl _ _
  refine CD_of_W Try.func68 rfl Try.ntmps68 (by simp) ?_
  refine W_seq ?_
  refine W_region ?_
  refine Wl_load (v := .int .i64 er) Try.isAgg22 rfl he rfl ?_
  refine Wl_v (r_ne rfl rfl) ?_
  refine Wl_nil ?_
  have q1 : ¬ (er ≠ 0) := (by simp [hq])
  rw [decide_eq_false q1]
  refine W_cond_f rfl ?_
  refine W_skip ?_
  refine cd_nrm (v := .tuple #[]) (res0 Try.results68) ?_
  exact ⟨_, rfl, rfl, HU⟩

set_option maxRecDepth 100000 in
theorem readdU32_err {be bf bx bc pb : Nat} {x s : Value} {er at0 at1 : Int} (u : FrameMode) (w : World) (he : Blk w be [.int .i64 er]) (hf : Blk w bf [.int .i64 at0]) (hx : Blk w bx [x]) (hc : Blk w bc [.pointer (some ⟨pb, 0, none⟩)]) (hp : Blk w pb [s, .int .i64 at1]) (d1 : pb ≠ be ∧ pb ≠ bf ∧ pb ≠ bx ∧ pb ≠ bc ∧ bx ≠ be ∧ bx ≠ bf ∧ bx ≠ bc) (hq : er ≠ 0) :
    CD Try.prog 68 #[.pointer (some ⟨be, 0, none⟩), .pointer (some ⟨bf, 0, none⟩), .pointer (some ⟨bx, 0, none⟩), .pointer (some ⟨bc, 0, none⟩)] u w (fun e u' w' => u' = u ∧ Ret (fun v w' => v = .tuple #[] ∧ Blk w' be [.int .i64 er] ∧ Blk w' bx [.int .u32 0] ∧ Blk w' pb [s, .int .i64 at0] ∧ Upd (fun b => b = pb ∨ b = bx) w w') e w') := by
  have HU : Upd (fun b => b = pb ∨ b = bx) w w := Upd.refl _ _
  refine CD_of_W Try.func68 rfl Try.ntmps68 (by simp) ?_
  refine W_seq ?_
  refine W_region ?_
  refine Wl_load (v := .int .i64 er) Try.isAgg22 rfl he rfl ?_
  refine Wl_v (r_ne rfl rfl) ?_
  refine Wl_nil ?_
  have q1 : er ≠ 0 := hq
  rw [decide_eq_true q1]
  refine W_cond_t rfl ?_
  refine W_seq ?_
  refine W_region ?_
  refine Wl_v (r_as (v := .int .u32 0) rfl) ?_
  refine Wl_nil ?_
  refine W_region ?_
  refine Wl_load (v := .pointer (some ⟨pb, 0, none⟩)) Try.isAgg41 rfl hc rfl ?_
  refine Wl_v (r_mv (v := .int .u32 0) rfl) ?_
  refine Wl_load (v := .int .i64 at0) Try.isAgg3 rfl hf rfl ?_
  refine Wl_store (v := .int .u32 0) (cs' := [.int .u32 0]) Try.sizeOf32 rfl rfl rfl rfl hx rfl rfl ?_
  intro w1 hU1 hzz1 hxn
  replace hx := hxn; clear hxn
  have hzw1 := hU1.size
  replace he := he.upd1 hU1 (by omega)
  replace hf := hf.upd1 hU1 (by omega)
  replace hc := hc.upd1 hU1 (by omega)
  replace hp := hp.upd1 hU1 (by omega)
  replace HU := HU.trans1 hU1 (by show (bx = pb ∨ bx = bx) ∨ w.heap.size ≤ bx; omega)
  refine Wl_v (r_nil rfl) ?_
  refine Wl_v (r_fld Try.underlying61 rfl Try.sizeOf3 rfl rfl) ?_
  refine Wl_store (v := .int .i64 at0) (cs' := [s, .int .i64 at0]) Try.sizeOf3 rfl rfl rfl rfl hp rfl rfl ?_
  intro w2 hU2 hzz2 hpn
  replace hp := hpn; clear hpn
  have hzw2 := hU2.size
  replace he := he.upd1 hU2 (by omega)
  replace hf := hf.upd1 hU2 (by omega)
  replace hx := hx.upd1 hU2 (by omega)
  replace hc := hc.upd1 hU2 (by omega)
  replace HU := HU.trans1 hU2 (by show (pb = pb ∨ pb = bx) ∨ w.heap.size ≤ pb; omega)
  refine Wl_nil ?_
  refine cd_nrm (v := .tuple #[]) (res0 Try.results68) ?_
  exact ⟨_, rfl, rfl, he, hx, hp, HU⟩

set_option maxRecDepth 100000 in
theorem readU32_nil {gv : Value} (w : World)  :
    Calls Try.prog 60 #[.pointer none, gv] w (Ret fun v w' => v = .tuple #[.int .u32 0, .int .i64 1] ∧ Upd No w w') := by
  have HU : Upd (fun b => False) w w := Upd.refl _ _
  refine calls_of_W Try.func60 rfl Try.ntmps60 (by simp) ?_
  refine W_seq ?_
  refine W_region ?_
  refine Wl_box (v := .pointer none) (cs := [.pointer none]) rfl rfl ?_
  intro B1 w1 hB1 hU1 hzz1 hb1
  have hzw1 := hU1.size
  replace HU := HU.trans0 hU1
  refine Wl_alloc (cs := [.int .u32 0]) Try.zeroValue32 rfl ?_
  intro B2 w2 hB2 hU2 hzz2 hb2
  have hzw2 := hU2.size
  replace HU := HU.trans0 hU2
  replace hb1 := hb1.upd0 hU2
  refine Wl_alloc (cs := [.int .i64 0]) Try.zeroValue22 rfl ?_
  intro B3 w3 hB3 hU3 hzz3 hb3
  have hzw3 := hU3.size
  replace HU := HU.trans0 hU3
  replace hb1 := hb1.upd0 hU3
  replace hb2 := hb2.upd0 hU3
  refine Wl_nil ?_
  refine W_seq ?_
  refine W_seq ?_
  refine W_region ?_
  refine Wl_load (v := .pointer none) Try.isAgg41 rfl hb1 rfl ?_
  refine Wl_v (r_eqpn_n Try.underlying41 rfl rfl) ?_
  refine Wl_nil ?_
  refine W_cond_t rfl ?_
  refine W_seq ?_
  refine W_region ?_
  refine Wl_load (v := .int .u32 0) Try.isAgg32 rfl hb2 rfl ?_
  refine Wl_store (v := .int .u32 0) (cs' := [.int .u32 0]) Try.sizeOf32 rfl rfl rfl rfl hb2 rfl rfl ?_
  intro w4 hU4 hzz4 hb2n
  replace hb2 := hb2n; clear hb2n
  have hzw4 := hU4.size
  replace HU := HU.trans1 hU4 (by show (False) ∨ w.heap.size ≤ B2; omega)
  replace hb1 := hb1.upd1 hU4 (by omega)
  replace hb3 := hb3.upd1 hU4 (by omega)
  refine Wl_store (v := .int .i64 1) (cs' := [.int .i64 1]) Try.sizeOf22 rfl rfl rfl rfl hb3 rfl rfl ?_
  intro w5 hU5 hzz5 hb3n
  replace hb3 := hb3n; clear hb3n
  have hzw5 := hU5.size
  replace HU := HU.trans1 hU5 (by show (False) ∨ w.heap.size ≤ B3; omega)
  replace hb1 := hb1.upd1 hU5 (by omega)
  replace hb2 := hb2.upd1 hU5 (by omega)
  refine Wl_nil ?_
  refine W_ret ?_
  refine ret_end (v := .tuple #[.int .u32 0, .int .i64 1]) rfl (resc2 Try.results60 rfl rfl Try.isAgg32 Try.isAgg22 hb2 hb3) ?_
  exact ⟨_, rfl, rfl, HU⟩

set_option maxRecDepth 100000 in
theorem readU32_spec {pb gf : Nat} {caps : Array Value} {s : Value} {at0 : Int} {Φ : Value → Int → Int → World → World → Prop} (w : World) (hp : Blk w pb [s, .int .i64 at0]) (hgf : ∀ ar w, (callFunc gf ar).run Try.prog w = .ok (.enter gf ar) w) (hget : ∀ w1, Upd No w w1 → Calls Try.prog gf caps w1 (Ret fun v w2 => ∃ x er, v = .tuple #[x, .int .i64 er] ∧ x.cells = #[x] ∧ x.oneCell' = true ∧ ∃ at1, Blk w2 pb [s, .int .i64 at1] ∧ Upd (Is pb) w1 w2 ∧ Φ x er at1 w1 w2)) :
    Calls Try.prog 60 #[.pointer (some ⟨pb, 0, none⟩), .func (.func gf) #[] caps] w (Ret fun v w' => ∃ x er at1 w1 w2, v = .tuple #[if er = 0 then x else .int .u32 0, .int .i64 er] ∧ Blk w' pb [s, .int .i64 (if er = 0 then at1 else at0)] ∧ Upd No w w1 ∧ Φ x er at1 w1 w2 ∧ Upd (fun b => b = pb ∨ (w.heap.size ≤ b ∧ b < w1.heap.size)) w2 w' ∧ Upd (Is pb) w w') := by
  have HU : Upd (fun b => b = pb) w w := Upd.refl _ _
  have HN : Upd No w w := Upd.refl _ _
  have hpl := hp.lt
  refine calls_of_W Try.func60 rfl Try.ntmps60 (by simp) ?_
  refine W_seq ?_
  refine W_region ?_
  refine Wl_box (v := .pointer (some ⟨pb, 0, none⟩)) (cs := [.pointer (some ⟨pb, 0, none⟩)]) rfl rfl ?_
  intro B1 w1 hB1 hU1 hzz1 hb1
  have hzw1 := hU1.size
  replace hp := hp.upd0 hU1
  replace HN := HN.trans0 hU1
  replace HU := HU.trans0 hU1
  refine Wl_alloc (cs := [.int .u32 0]) Try.zeroValue32 rfl ?_
  intro B2 w2 hB2 hU2 hzz2 hb2
  have hzw2 := hU2.size
  replace hp := hp.upd0 hU2
  replace HN := HN.trans0 hU2
  replace HU := HU.trans0 hU2
  replace hb1 := hb1.upd0 hU2
  refine Wl_alloc (cs := [.int .i64 0]) Try.zeroValue22 rfl ?_
  intro B3 w3 hB3 hU3 hzz3 hb3
  have hzw3 := hU3.size
  replace hp := hp.upd0 hU3
  replace HN := HN.trans0 hU3
  replace HU := HU.trans0 hU3
  replace hb1 := hb1.upd0 hU3
  replace hb2 := hb2.upd0 hU3
  refine Wl_nil ?_
  refine W_seq ?_
  refine W_seq ?_
  refine W_region ?_
  refine Wl_load (v := .pointer (some ⟨pb, 0, none⟩)) Try.isAgg41 rfl hb1 rfl ?_
  refine Wl_v (r_eqpn_s Try.underlying41 rfl rfl) ?_
  refine Wl_nil ?_
  refine W_cond_f rfl ?_
  refine W_skip ?_
  refine W_seq ?_
  refine W_region ?_
  refine Wl_load (v := .pointer (some ⟨pb, 0, none⟩)) Try.isAgg41 rfl hb1 rfl ?_
  refine Wl_v (r_nil rfl) ?_
  refine Wl_v (r_fld Try.underlying61 rfl Try.sizeOf3 rfl rfl) ?_
  refine Wl_load (v := .int .i64 at0) Try.isAgg3 rfl hp rfl ?_
  refine Wl_alloc (cs := [.int .i64 0]) Try.zeroValue3 rfl ?_
  intro B4 w4 hB4 hU4 hzz4 hb4
  have hzw4 := hU4.size
  replace hp := hp.upd0 hU4
  replace HN := HN.trans0 hU4
  replace HU := HU.trans0 hU4
  replace hb1 := hb1.upd0 hU4
  replace hb2 := hb2.upd0 hU4
  replace hb3 := hb3.upd0 hU4
  refine Wl_store (v := .int .i64 at0) (cs' := [.int .i64 at0]) Try.sizeOf3 rfl rfl rfl rfl hb4 rfl rfl ?_
  intro w5 hU5 hzz5 hb4n
  replace hb4 := hb4n; clear hb4n
  have hzw5 := hU5.size
  replace hp := hp.upd1 hU5 (by omega)
  replace HN := HN.trans1 hU5 (by show (False) ∨ w.heap.size ≤ B4; omega)
  replace HU := HU.trans1 hU5 (by show (B4 = pb) ∨ w.heap.size ≤ B4; omega)
  replace hb1 := hb1.upd1 hU5 (by omega)
  replace hb2 := hb2.upd1 hU5 (by omega)
  replace hb3 := hb3.upd1 hU5 (by omega)
  refine Wl_nil ?_
  refine W_seq ?_
  refine W_region ?_
  refine Wl_v (r_mkf4 (v0 := .pointer (some ⟨B3, 0, none⟩)) (v1 := .pointer (some ⟨B4, 0, none⟩)) (v2 := .pointer (some ⟨B2, 0, none⟩)) (v3 := .pointer (some ⟨B1, 0, none⟩)) rfl rfl rfl rfl) ?_
  refine Wl_defer rfl ?_
  refine Wl_nil ?_
  refine W_seq ?_
  refine W_region ?_
  refine Wl_v (r_mv (v := .func (.func gf) #[] caps) rfl) ?_
  refine Wl_call (r_clos0 hgf rfl (by simp)) (hget w5 HN) ?_
  rintro v w6 ⟨x, er, rfl, hx1, hx2, at1, hpn, hU6, hΦ⟩
  have HP : Upd No w w5 := HN
  replace hp := hpn
  clear hpn
  have hzw6 := hU6.size
  replace HU := HU.trans1 hU6 (by show (pb = pb) ∨ w.heap.size ≤ pb; omega)
  replace hb1 := hb1.upd1 hU6 (by omega)
  replace hb2 := hb2.upd1 hU6 (by omega)
  replace hb3 := hb3.upd1 hU6 (by omega)
  replace hb4 := hb4.upd1 hU6 (by omega)
  have HX : Upd (fun b => b = pb ∨ (w.heap.size ≤ b ∧ b < w5.heap.size)) w6 w6 := Upd.refl _ _
  refine Wl_v (r_ext (v := x) rfl rfl) ?_
  refine Wl_v (r_ext (v := .int .i64 er) rfl rfl) ?_
  refine Wl_store (v := x) (cs' := [x]) Try.sizeOf32 rfl rfl hx1 hx2 hb2 rfl rfl ?_
  intro w7 hU7 hzz7 hb2n
  replace hb2 := hb2n; clear hb2n
  have hzw7 := hU7.size
  replace hp := hp.upd1 hU7 (by omega)
  replace HU := HU.trans1 hU7 (by show (B2 = pb) ∨ w.heap.size ≤ B2; omega)
  replace hb1 := hb1.upd1 hU7 (by omega)
  replace hb3 := hb3.upd1 hU7 (by omega)
  replace hb4 := hb4.upd1 hU7 (by omega)
  replace HX := HX.trans1 hU7 (by show (B2 = pb ∨ (w.heap.size ≤ B2 ∧ B2 < w5.heap.size)) ∨ w6.heap.size ≤ B2; omega)
  refine Wl_store (v := .int .i64 er) (cs' := [.int .i64 er]) Try.sizeOf22 rfl rfl rfl rfl hb3 rfl rfl ?_
  intro w8 hU8 hzz8 hb3n
  replace hb3 := hb3n; clear hb3n
  have hzw8 := hU8.size
  replace hp := hp.upd1 hU8 (by omega)
  replace HU := HU.trans1 hU8 (by show (B3 = pb) ∨ w.heap.size ≤ B3; omega)
  replace hb1 := hb1.upd1 hU8 (by omega)
  replace hb2 := hb2.upd1 hU8 (by omega)
  replace hb4 := hb4.upd1 hU8 (by omega)
  replace HX := HX.trans1 hU8 (by show (B3 = pb ∨ (w.heap.size ≤ B3 ∧ B3 < w5.heap.size)) ∨ w6.heap.size ≤ B3; omega)
  refine Wl_nil ?_
  refine W_ret ?_
  refine ret_ds rfl ?_
  by_cases hq : er = 0
  · refine lv_call (by simp) Try.call68 rfl (readdU32_ok _ _ hb3 hb4 hb2 hb1 hp (by omega) hq) ?_
    rintro e1 u1 w9 ⟨rfl, v1, rfl, rfl, hU9⟩
    have hzw9 := hU9.size
    replace hp := hp.upd0 hU9
    replace HU := HU.trans0 hU9
    replace hb1 := hb1.upd0 hU9
    replace hb2 := hb2.upd0 hU9
    replace hb3 := hb3.upd0 hU9
    replace hb4 := hb4.upd0 hU9
    replace HX := HX.trans0 hU9
    refine lv_nil (v := .tuple #[x, .int .i64 er]) (resc2 Try.results60 rfl rfl Try.isAgg32 Try.isAgg22 hb2 hb3) ?_
    exact ⟨_, rfl, x, er, at1, w5, w6, by simp [hq], by simpa [hq] using hp, HP, hΦ, HX, HU⟩
  · refine lv_call (by simp) Try.call68 rfl (readdU32_err _ _ hb3 hb4 hb2 hb1 hp (by omega) hq) ?_
    rintro e1 u1 w9 ⟨rfl, v1, rfl, rfl, hee, hxx, hpp, hU9⟩
    have hzw9 := hU9.size
    replace HU := HU.trans hU9 (by intro x hx; have hx2 : x = pb ∨ x = B2 := hx; show (x = pb) ∨ w.heap.size ≤ x; omega)
    replace hb1 := hb1.upd hU9 (by intro hx; have hx2 : B1 = pb ∨ B1 = B2 := hx; omega)
    replace hb4 := hb4.upd hU9 (by intro hx; have hx2 : B4 = pb ∨ B4 = B2 := hx; omega)
    replace HX := HX.trans hU9 (by intro x hx; have hx2 : x = pb ∨ x = B2 := hx; show (x = pb ∨ (w.heap.size ≤ x ∧ x < w5.heap.size)) ∨ w6.heap.size ≤ x; omega)
    refine lv_nil (v := .tuple #[.int .u32 0, .int .i64 er]) (resc2 Try.results60 rfl rfl Try.isAgg32 Try.isAgg22 hxx hee) ?_
    exact ⟨_, rfl, x, er, at1, w5, w6, by simp [hq], by simpa [hq] using hpp, HP, hΦ, HX, HU⟩

set_option maxRecDepth 100000 in
theorem readdBy_ok {be bf bx bc pb : Nat} {x s : Value} {er at0 at1 : Int} (u : FrameMode) (w : World) (he : Blk w be [.int .i64 er]) (hf : Blk w bf [.int .i64 at0]) (hx : Blk w bx [x]) (hc : Blk w bc [.pointer (some ⟨pb, 0, none⟩)]) (hp : Blk w pb [s, .int .i64 at1]) (d1 : pb ≠ be ∧ pb ≠ bf ∧ pb ≠ bx ∧ pb ≠ bc ∧ bx ≠ be ∧ bx ≠ bf ∧ bx ≠ bc) (hq : er = 0) :
    CD Try.prog 67 #[.pointer (some ⟨be, 0, none⟩), .pointer (some ⟨bf, 0, none⟩), .pointer (some ⟨bx, 0, none⟩), .pointer (some ⟨bc, 0, none⟩)] u w (fun e u' w' => u' = u ∧ Ret (fun v w' => v = .tuple #[] ∧ Upd (fun b => False) w w') e w') := by
  have HU : Upd (fun b => False) w w := Upd.refl _ _
  refine CD_of_W Try.func67 rfl Try.ntmps67 (by simp) ?_
  refine W_seq ?_
  refine W_region ?_
  refine Wl_load (v := .int .i64 er) Try.isAgg22 rfl he rfl ?_
  refine Wl_v (r_ne rfl rfl) ?_
  refine Wl_nil ?_
  have q1 : ¬ (er ≠ 0) := (by simp [hq])
  rw [decide_eq_false q1]
  refine W_cond_f rfl ?_
  refine W_skip ?_
  refine cd_nrm (v := .tuple #[]) (res0 Try.results67) ?_
  exact ⟨_, rfl, rfl, HU⟩

set_option maxRecDepth 100000 in
theorem readdBy_err {be bf bx bc pb : Nat} {x s : Value} {er at0 at1 : Int} (u : FrameMode) (w : World) (he : Blk w be [.int .i64 er]) (hf : Blk w bf [.int .i64 at0]) (hx : Blk w bx [x]) (hc : Blk w bc [.pointer (some ⟨pb, 0, none⟩)]) (hp : Blk w pb [s, .int .i64 at1]) (d1 : pb ≠ be ∧ pb ≠ bf ∧ pb ≠ bx ∧ pb ≠ bc ∧ bx ≠ be ∧ bx ≠ bf ∧ bx ≠ bc) (hq : er ≠ 0) :
    CD Try.prog 67 #[.pointer (some ⟨be, 0, none⟩), .pointer (some ⟨bf, 0, none⟩), .pointer (some ⟨bx, 0, none⟩), .pointer (some ⟨bc, 0, none⟩)] u w (fun e u' w' => u' = u ∧ Ret (fun v w' => v = .tuple #[] ∧ Blk w' be [.int .i64 er] ∧ Blk w' bx [.int .u8 0] ∧ Blk w' pb [s, .int .i64 at0] ∧ Upd (fun b => b = pb ∨ b = bx) w w') e w') := by
  have HU : Upd (fun b => b = pb ∨ b = bx) w w := Upd.refl _ _
  refine CD_of_W Try.func67 rfl Try.ntmps67 (by simp) ?_
  refine W_seq ?_
  refine W_region ?_
  refine Wl_load (v := .int .i64 er) Try.isAgg22 rfl he rfl ?_
  refine Wl_v (r_ne rfl rfl) ?_
  refine Wl_nil ?_
  have q1 : er ≠ 0 := hq
  rw [decide_eq_true q1]
  refine W_cond_t rfl ?_
  refine W_seq ?_
  refine W_region ?_
  refine Wl_v (r_as (v := .int .u8 0) rfl) ?_
  refine Wl_nil ?_
  refine W_region ?_
  refine Wl_load (v := .pointer (some ⟨pb, 0, none⟩)) Try.isAgg41 rfl hc rfl ?_
  refine Wl_v (r_mv (v := .int .u8 0) rfl) ?_
  refine Wl_load (v := .int .i64 at0) Try.isAgg3 rfl hf rfl ?_
  refine Wl_store (v := .int .u8 0) (cs' := [.int .u8 0]) Try.sizeOf5 rfl rfl rfl rfl hx rfl rfl ?_
  intro w1 hU1 hzz1 hxn
  replace hx := hxn; clear hxn
  have hzw1 := hU1.size
  replace he := he.upd1 hU1 (by omega)
  replace hf := hf.upd1 hU1 (by omega)
  replace hc := hc.upd1 hU1 (by omega)
  replace hp := hp.upd1 hU1 (by omega)
  replace HU := HU.trans1 hU1 (by show (bx = pb ∨ bx = bx) ∨ w.heap.size ≤ bx; omega)
  refine Wl_v (r_nil rfl) ?_
  refine Wl_v (r_fld Try.underlying61 rfl Try.sizeOf3 rfl rfl) ?_
  refine Wl_store (v := .int .i64 at0) (cs' := [s, .int .i64 at0]) Try.sizeOf3 rfl rfl rfl rfl hp rfl rfl ?_
  intro w2 hU2 hzz2 hpn
  replace hp := hpn; clear hpn
  have hzw2 := hU2.size
  replace he := he.upd1 hU2 (by omega)
  replace hf := hf.upd1 hU2 (by omega)
  replace hx := hx.upd1 hU2 (by omega)
  replace hc := hc.upd1 hU2 (by omega)
  replace HU := HU.trans1 hU2 (by show (pb = pb ∨ pb = bx) ∨ w.heap.size ≤ pb; omega)
  refine Wl_nil ?_
  refine cd_nrm (v := .tuple #[]) (res0 Try.results67) ?_
  exact ⟨_, rfl, rfl, he, hx, hp, HU⟩

set_option maxRecDepth 100000 in
theorem readBy_nil {gv : Value} (w : World)  :
    Calls Try.prog 58 #[.pointer none, gv] w (Ret fun v w' => v = .tuple #[.int .u8 0, .int .i64 1] ∧ Upd No w w') := by
  have HU : Upd (fun b => False) w w := Upd.refl _ _
  refine calls_of_W Try.func58 rfl Try.ntmps58 (by simp) ?_
  refine W_seq ?_
  refine W_region ?_
  refine Wl_box (v := .pointer none) (cs := [.pointer none]) rfl rfl ?_
  intro B1 w1 hB1 hU1 hzz1 hb1
  have hzw1 := hU1.size
  replace HU := HU.trans0 hU1
  refine Wl_alloc (cs := [.int .u8 0]) Try.zeroValue5 rfl ?_
  intro B2 w2 hB2 hU2 hzz2 hb2
  have hzw2 := hU2.size
  replace HU := HU.trans0 hU2
  replace hb1 := hb1.upd0 hU2
  refine Wl_alloc (cs := [.int .i64 0]) Try.zeroValue22 rfl ?_
  intro B3 w3 hB3 hU3 hzz3 hb3
  have hzw3 := hU3.size
  replace HU := HU.trans0 hU3
  replace hb1 := hb1.upd0 hU3
  replace hb2 := hb2.upd0 hU3
  refine Wl_nil ?_
  refine W_seq ?_
  refine W_seq ?_
  refine W_region ?_
  refine Wl_load (v := .pointer none) Try.isAgg41 rfl hb1 rfl ?_
  refine Wl_v (r_eqpn_n Try.underlying41 rfl rfl) ?_
  refine Wl_nil ?_
  refine W_cond_t rfl ?_
  refine W_seq ?_
  refine W_region ?_
  refine Wl_load (v := .int .u8 0) Try.isAgg5 rfl hb2 rfl ?_
  refine Wl_store (v := .int .u8 0) (cs' := [.int .u8 0]) Try.sizeOf5 rfl rfl rfl rfl hb2 rfl rfl ?_
  intro w4 hU4 hzz4 hb2n
  replace hb2 := hb2n; clear hb2n
  have hzw4 := hU4.size
  replace HU := HU.trans1 hU4 (by show (False) ∨ w.heap.size ≤ B2; omega)
  replace hb1 := hb1.upd1 hU4 (by omega)
  replace hb3 := hb3.upd1 hU4 (by omega)
  refine Wl_store (v := .int .i64 1) (cs' := [.int .i64 1]) Try.sizeOf22 rfl rfl rfl rfl hb3 rfl rfl ?_
  intro w5 hU5 hzz5 hb3n
  replace hb3 := hb3n; clear hb3n
  have hzw5 := hU5.size
  replace HU := HU.trans1 hU5 (by show (False) ∨ w.heap.size ≤ B3; omega)
  replace hb1 := hb1.upd1 hU5 (by omega)
  replace hb2 := hb2.upd1 hU5 (by omega)
  refine Wl_nil ?_
  refine W_ret ?_
  refine ret_end (v := .tuple #[.int .u8 0, .int .i64 1]) rfl (resc2 Try.results58 rfl rfl Try.isAgg5 Try.isAgg22 hb2 hb3) ?_
  exact ⟨_, rfl, rfl, HU⟩

set_option maxRecDepth 100000 in
theorem readBy_spec {pb gf : Nat} {caps : Array Value} {s : Value} {at0 : Int} {Φ : Value → Int → Int → World → World → Prop} (w : World) (hp : Blk w pb [s, .int .i64 at0]) (hgf : ∀ ar w, (callFunc gf ar).run Try.prog w = .ok (.enter gf ar) w) (hget : ∀ w1, Upd No w w1 → Calls Try.prog gf caps w1 (Ret fun v w2 => ∃ x er, v = .tuple #[x, .int .i64 er] ∧ x.cells = #[x] ∧ x.oneCell' = true ∧ ∃ at1, Blk w2 pb [s, .int .i64 at1] ∧ Upd (Is pb) w1 w2 ∧ Φ x er at1 w1 w2)) :
    Calls Try.prog 58 #[.pointer (some ⟨pb, 0, none⟩), .func (.func gf) #[] caps] w (Ret fun v w' => ∃ x er at1 w1 w2, v = .tuple #[if er = 0 then x else .int .u8 0, .int .i64 er] ∧ Blk w' pb [s, .int .i64 (if er = 0 then at1 else at0)] ∧ Upd No w w1 ∧ Φ x er at1 w1 w2 ∧ Upd (fun b => b = pb ∨ (w.heap.size ≤ b ∧ b < w1.heap.size)) w2 w' ∧ Upd (Is pb) w w') := by
  have HU : Upd (fun b => b = pb) w w := Upd.refl _ _
  have HN : Upd No w w := Upd.refl _ _
  have hpl := hp.lt
  refine calls_of_W Try.func58 rfl Try.ntmps58 (by simp) ?_
  refine W_seq ?_
  refine W_region ?_
  refine Wl_box (v := .pointer (some ⟨pb, 0, none⟩)) (cs := [.pointer (some ⟨pb, 0, none⟩)]) rfl rfl ?_
  intro B1 w1 hB1 hU1 hzz1 hb1
  have hzw1 := hU1.size
  replace hp := hp.upd0 hU1
  replace HN := HN.trans0 hU1
  replace HU := HU.trans0 hU1
  refine Wl_alloc (cs := [.int .u8 0]) Try.zeroValue5 rfl ?_
  intro B2 w2 hB2 hU2 hzz2 hb2
  have hzw2 := hU2.size
  replace hp := hp.upd0 hU2
  replace HN := HN.trans0 hU2
  replace HU := HU.trans0 hU2
  replace hb1 := hb1.upd0 hU2
  refine Wl_alloc (cs := [.int .i64 0]) Try.zeroValue22 rfl ?_
  intro B3 w3 hB3 hU3 hzz3 hb3
  have hzw3 := hU3.size
  replace hp := hp.upd0 hU3
  replace HN := HN.trans0 hU3
  replace HU := HU.trans0 hU3
  replace hb1 := hb1.upd0 hU3
  replace hb2 := hb2.upd0 hU3
  refine Wl_nil ?_
  refine W_seq ?_
  refine W_seq ?_
  refine W_region ?_
  refine Wl_load (v := .pointer (some ⟨pb, 0, none⟩)) Try.isAgg41 rfl hb1 rfl ?_
  refine Wl_v (r_eqpn_s Try.underlying41 rfl rfl) ?_
  refine Wl_nil ?_
  refine W_cond_f rfl ?_
  refine W_skip ?_
  refine W_seq ?_
  refine W_region ?_
  refine Wl_load (v := .pointer (some ⟨pb, 0, none⟩)) Try.isAgg41 rfl hb1 rfl ?_
  refine Wl_v (r_nil rfl) ?_
  refine Wl_v (r_fld Try.underlying61 rfl Try.sizeOf3 rfl rfl) ?_
  refine Wl_load (v := .int .i64 at0) Try.isAgg3 rfl hp rfl ?_
  refine Wl_alloc (cs := [.int .i64 0]) Try.zeroValue3 rfl ?_
  intro B4 w4 hB4 hU4 hzz4 hb4
  have hzw4 := hU4.size
  replace hp := hp.upd0 hU4
  replace HN := HN.trans0 hU4
  replace HU := HU.trans0 hU4
  replace hb1 := hb1.upd0 hU4
  replace hb2 := hb2.upd0 hU4
  replace hb3 := hb3.upd0 hU4
  refine Wl_store (v := .int .i64 at0) (cs' := [.int .i64 at0]) Try.sizeOf3 rfl rfl rfl rfl hb4 rfl rfl ?_
  intro w5 hU5 hzz5 hb4n
  replace hb4 := hb4n; clear hb4n
  have hzw5 := hU5.size
  replace hp := hp.upd1 hU5 (by omega)
  replace HN := HN.trans1 hU5 (by show (False) ∨ w.heap.size ≤ B4; omega)
  replace HU := HU.trans1 hU5 (by show (B4 = pb) ∨ w.heap.size ≤ B4; omega)
  replace hb1 := hb1.upd1 hU5 (by omega)
  replace hb2 := hb2.upd1 hU5 (by omega)
  replace hb3 := hb3.upd1 hU5 (by omega)
  refine Wl_nil ?_
  refine W_seq ?_
  refine W_region ?_
  refine Wl_v (r_mkf4 (v0 := .pointer (some ⟨B3, 0, none⟩)) (v1 := .pointer (some ⟨B4, 0, none⟩)) (v2 := .pointer (some ⟨B2, 0, none⟩)) (v3 := .pointer (some ⟨B1, 0, none⟩)) rfl rfl rfl rfl) ?_
  refine Wl_defer rfl ?_
  refine Wl_nil ?_
  refine W_seq ?_
  refine W_region ?_
  refine Wl_v (r_mv (v := .func (.func gf) #[] caps) rfl) ?_
  refine Wl_call (r_clos0 hgf rfl (by simp)) (hget w5 HN) ?_
  rintro v w6 ⟨x, er, rfl, hx1, hx2, at1, hpn, hU6, hΦ⟩
  have HP : Upd No w w5 := HN
  replace hp := hpn
  clear hpn
  have hzw6 := hU6.size
  replace HU := HU.trans1 hU6 (by show (pb = pb) ∨ w.heap.size ≤ pb; omega)
  replace hb1 := hb1.upd1 hU6 (by omega)
  replace hb2 := hb2.upd1 hU6 (by omega)
  replace hb3 := hb3.upd1 hU6 (by omega)
  replace hb4 := hb4.upd1 hU6 (by omega)
  have HX : Upd (fun b => b = pb ∨ (w.heap.size ≤ b ∧ b < w5.heap.size)) w6 w6 := Upd.refl _ _
  refine Wl_v (r_ext (v := x) rfl rfl) ?_
  refine Wl_v (r_ext (v := .int .i64 er) rfl rfl) ?_
  refine Wl_store (v := x) (cs' := [x]) Try.sizeOf5 rfl rfl hx1 hx2 hb2 rfl rfl ?_
  intro w7 hU7 hzz7 hb2n
  replace hb2 := hb2n; clear hb2n
  have hzw7 := hU7.size
  replace hp := hp.upd1 hU7 (by omega)
  replace HU := HU.trans1 hU7 (by show (B2 = pb) ∨ w.heap.size ≤ B2; omega)
  replace hb1 := hb1.upd1 hU7 (by omega)
  replace hb3 := hb3.upd1 hU7 (by omega)
  replace hb4 := hb4.upd1 hU7 (by omega)
  replace HX := HX.trans1 hU7 (by show (B2 = pb ∨ (w.heap.size ≤ B2 ∧ B2 < w5.heap.size)) ∨ w6.heap.size ≤ B2; omega)
  refine Wl_store (v := .int .i64 er) (cs' := [.int .i64 er]) Try.sizeOf22 rfl rfl rfl rfl hb3 rfl rfl ?_
  intro w8 hU8 hzz8 hb3n
  replace hb3 := hb3n; clear hb3n
  have hzw8 := hU8.size
  replace hp := hp.upd1 hU8 (by omega)
  replace HU := HU.trans1 hU8 (by show (B3 = pb) ∨ w.heap.size ≤ B3; omega)
  replace hb1 := hb1.upd1 hU8 (by omega)
  replace hb2 := hb2.upd1 hU8 (by omega)
  replace hb4 := hb4.upd1 hU8 (by omega)
  replace HX := HX.trans1 hU8 (by show (B3 = pb ∨ (w.heap.size ≤ B3 ∧ B3 < w5.heap.size)) ∨ w6.heap.size ≤ B3; omega)
  refine Wl_nil ?_
  refine W_ret ?_
  refine ret_ds rfl ?_
  by_cases hq : er = 0
  · refine lv_call (by simp) Try.call67 rfl (readdBy_ok _ _ hb3 hb4 hb2 hb1 hp (by omega) hq) ?_
    rintro e1 u1 w9 ⟨rfl, v1, rfl, rfl, hU9⟩
    have hzw9 := hU9.size
    replace hp := hp.upd0 hU9
    replace HU := HU.trans0 hU9
    replace hb1 := hb1.upd0 hU9
    replace hb2 := hb2.upd0 hU9
    replace hb3 := hb3.upd0 hU9
    replace hb4 := hb4.upd0 hU9
    replace HX := HX.trans0 hU9
    refine lv_nil (v := .tuple #[x, .int .i64 er]) (resc2 Try.results58 rfl rfl Try.isAgg5 Try.isAgg22 hb2 hb3) ?_
    exact ⟨_, rfl, x, er, at1, w5, w6, by simp [hq], by simpa [hq] using hp, HP, hΦ, HX, HU⟩
  · refine lv_call (by simp) Try.call67 rfl (readdBy_err _ _ hb3 hb4 hb2 hb1 hp (by omega) hq) ?_
    rintro e1 u1 w9 ⟨rfl, v1, rfl, rfl, hee, hxx, hpp, hU9⟩
    have hzw9 := hU9.size
    replace HU := HU.trans hU9 (by intro x hx; have hx2 : x = pb ∨ x = B2 := hx; show (x = pb) ∨ w.heap.size ≤ x; omega)
    replace hb1 := hb1.upd hU9 (by intro hx; have hx2 : B1 = pb ∨ B1 = B2 := hx; omega)
    replace hb4 := hb4.upd hU9 (by intro hx; have hx2 : B4 = pb ∨ B4 = B2 := hx; omega)
    replace HX := HX.trans hU9 (by intro x hx; have hx2 : x = pb ∨ x = B2 := hx; show (x = pb ∨ (w.heap.size ≤ x ∧ x < w5.heap.size)) ∨ w6.heap.size ≤ x; omega)
    refine lv_nil (v := .tuple #[.int .u8 0, .int .i64 er]) (resc2 Try.results58 rfl rfl Try.isAgg5 Try.isAgg22 hxx hee) ?_
    exact ⟨_, rfl, x, er, at1, w5, w6, by simp [hq], by simpa [hq] using hpp, HP, hΦ, HX, HU⟩

end Go.Proofs.Ytflmjdnhjbiobaa
