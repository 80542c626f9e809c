/-
  Walks, printed by a small program of this project (gen.py).
-/
import Derived.Test.YtflmjdnhjbiobaaHb
import Derived.Test.YtflmjdnhjbiobaaFp
set_option linter.unusedVariables false
set_option linter.unusedSimpArgs false
namespace Go.Proofs.Ytflmjdnhjbiobaa
open Go.Fw

set_option maxRecDepth 100000 in
theorem grow0 {n : Int} (w : World) (hn : 0 ≤ n ∧ n ≤ 140737488355328) :
    Calls Try.prog 65 #[.slice none 0 0, .int .i64 n] w (Ret fun v w' => ∃ (a' : Option Addr) (c' : Nat), v = .slice a' 0 c' ∧ Own w' (fun g => w.heap.size ≤ g) 5 1 (.slice a' 0 c') 0 (ints .u8 []) ∧ Upd No w w') := by
  have HU : Upd (fun b => False) w w := Upd.refl _ _
  refine calls_of_W Try.func65 rfl Try.ntmps65 (by simp) ?_
  refine W_seq ?_
  refine W_region ?_
  refine Wl_v (r_as (v := .slice none 0 0) rfl) ?_
  refine Wl_nil ?_
  refine W_seq ?_
  refine W_seq ?_
  refine W_region ?_
  refine Wl_v (r_mv (v := .int .i64 n) rfl) ?_
  refine Wl_v (r_lt rfl rfl) ?_
  refine Wl_nil ?_
  have q1 : ¬ (n < 0) := (by omega)
  rw [decide_eq_false q1]
  refine W_cond_f rfl ?_
  refine W_skip ?_
  refine W_seq ?_
  refine W_seq ?_
  refine W_region ?_
  refine Wl_v (r_mv (v := .int .i64 n) rfl) ?_
  refine Wl_v (r_mv (v := .slice none 0 0) rfl) ?_
  refine Wl_v (r_cap Try.underlying35 rfl) ?_
  refine Wl_v (r_mv (v := .slice none 0 0) rfl) ?_
  refine Wl_v (r_len Try.underlying35 rfl) ?_
  refine Wl_v (r_sub rfl rfl (wi64 (by omega) (by omega))) ?_
  refine Wl_v (r_sub rfl rfl (wi64 (by omega) (by omega))) ?_
  refine Wl_v (r_as (v := .int .i64 (n - (0 - 0))) rfl) ?_
  refine Wl_nil ?_
  refine W_seq ?_
  refine W_region ?_
  refine Wl_v (r_mv (v := .int .i64 (n - (0 - 0))) rfl) ?_
  refine Wl_v (r_gt rfl rfl) ?_
  refine Wl_nil ?_
  by_cases q2 : 0 < (n - (0 - 0))
  · rw [decide_eq_true q2]
    refine W_cond_t rfl ?_
    refine W_region ?_
    refine Wl_v (r_mv (v := .slice none 0 0) rfl) ?_
    refine Wl_v (r_mv (v := .slice none 0 0) rfl) ?_
    refine Wl_v (r_cap Try.underlying35 rfl) ?_
    refine Wl_v (r_slicehn (h' := 0) Try.underlying35 Try.sizeOf5 rfl rfl (by omega) (by omega)) ?_
    refine Wl_v (r_mv (v := .int .i64 (n - (0 - 0))) rfl) ?_
    refine Wl_appmk (ti := Try.t5) (z := .int .u8 0) (sz := 1) (by' := 1) (m := n.toNat) Try.underlying35 Try.underlying3 rfl rfl rfl rfl rfl (by decide) rfl rfl (by omega) (by omega) (by simp only [maxLen]; omega) (by omega) ?_
    intro B1 c1 w1 hB1 hU1 hzz1 hcc1 hO1
    have hzw1 := hU1.size
    replace HU := HU.trans0 hU1
    refine Wl_v (r_mv (v := .slice none 0 0) rfl) ?_
    refine Wl_v (r_len Try.underlying35 rfl) ?_
    refine Wl_v (r_slicehn (h' := 0) Try.underlying35 Try.sizeOf5 rfl rfl (by omega) (by omega)) ?_
    refine Wl_v (r_as (v := .slice (some ⟨B1, 0, none⟩) 0 c1) rfl) ?_
    refine Wl_nil ?_
    refine W_seq ?_
    refine W_region ?_
    refine Wl_v (r_mv (v := .slice (some ⟨B1, 0, none⟩) 0 c1) rfl) ?_
    refine Wl_v (r_as (v := .slice (some ⟨B1, 0, none⟩) 0 c1) rfl) ?_
    refine Wl_nil ?_
    refine W_ret ?_
    refine ret_end (v := .slice (some ⟨B1, 0, none⟩) 0 c1) rfl (res1 Try.results65 rfl) ?_
    exact ⟨_, rfl, (some ⟨B1, 0, none⟩), c1, rfl, (hO1.weak (by intro g hg; have h3 : g = B1 := hg; show w.heap.size ≤ g; omega)), HU⟩
  · rw [decide_eq_false q2]
    refine W_cond_f rfl ?_
    refine W_skip ?_
    refine W_seq ?_
    refine W_region ?_
    refine Wl_v (r_mv (v := .slice none 0 0) rfl) ?_
    refine Wl_v (r_as (v := .slice none 0 0) rfl) ?_
    refine Wl_nil ?_
    refine W_ret ?_
    refine ret_end (v := .slice none 0 0) rfl (res1 Try.results65 rfl) ?_
    exact ⟨_, rfl, none, 0, rfl, (Own.nil _ _ 5 1), HU⟩

set_option maxRecDepth 100000 in
theorem concat2 {B : Nat} {a1 a2 : Option Addr} {n1 n2 c1 c2 : Nat} {xs ys : List Int} {R : Nat → Prop} (w : World) (hS : Own w R 35 1 (.slice (some ⟨B, 0, none⟩) 2 2) 2 ([.slice a1 n1 c1, .slice a2 n2 c2])) (h1 : Sl w (fun g => g < w.heap.size) 1 (.slice a1 n1 c1) n1 (ints .u8 xs)) (h2 : Sl w (fun g => g < w.heap.size) 1 (.slice a2 n2 c2) n2 (ints .u8 ys)) (hn : n1 + n2 ≤ 140737488355328) :
    Calls Try.prog 54 #[.slice (some ⟨B, 0, none⟩) 2 2] w (Ret fun v w' => ∃ (a' : Option Addr) (c' : Nat), v = .slice a' (n1 + n2) c' ∧ Own w' (fun g => w.heap.size ≤ g) 5 1 (.slice a' (n1 + n2) c') (n1 + n2) (ints .u8 (xs ++ ys)) ∧ Upd No w w') := by
  have HU : Upd (fun b => False) w w := Upd.refl _ _
  have hl_hS := hS.len
  have hc_hS := hS.sl.cap.1
  have hl_h1 := ilen h1
  have hc_h1 := h1.cap.1
  have hl_h2 := ilen h2
  have hc_h2 := h2.cap.1
  replace hS := hS.tight
  refine calls_of_W Try.func54 rfl Try.ntmps54 (by simp) ?_
  refine W_seq ?_
  refine W_region ?_
  refine Wl_v (r_as (v := .slice none 0 0) rfl) ?_
  refine Wl_nil ?_
  refine W_seq ?_
  refine W_region ?_
  refine Wl_v (r_as (v := .int .i64 0) rfl) ?_
  refine Wl_nil ?_
  refine W_seq ?_
  refine W_seq ?_
  refine W_region ?_
  refine Wl_v (r_mv (v := .slice (some ⟨B, 0, none⟩) 2 2) rfl) ?_
  refine Wl_v (r_len Try.underlying98 rfl) ?_
  refine Wl_v (r_mv (v := .int .i64 0) rfl) ?_
  refine Wl_nil ?_
  refine W_block ?_
  refine W_unroll 3 ?_
  refine unrK_succ ?_
  refine W_seq ?_
  refine W_region ?_
  refine Wl_v (v := .bool true) (r_lt (a := 0) (b := 2) rfl rfl) ?_
  refine Wl_nil ?_
  refine W_seq ?_
  refine W_cond_t rfl ?_
  refine W_skip ?_
  refine W_seq ?_
  refine W_block ?_
  refine W_seq ?_
  refine W_region ?_
  have hc1 : w.cell? ⟨B, 0, none⟩ = some (.slice a1 n1 c1) := hS.cellc (i := 0) (by decide)
  refine Wl_v (r_idx (b := B) (off := 0) (m := 2) (c := 2) (o' := 0) Try.underlying98 Try.sizeOf35 rfl rfl (by omega) (by omega) (by omega)) ?_
  refine Wl_loadc Try.isAgg35 rfl hc1 ?_
  refine Wl_v (r_as (v := .slice a1 n1 c1) rfl) ?_
  refine Wl_nil ?_
  refine W_seq ?_
  refine W_region ?_
  refine Wl_v (r_mv (v := .int .i64 0) rfl) ?_
  refine Wl_v (r_mv (v := .slice a1 n1 c1) rfl) ?_
  refine Wl_v (r_len Try.underlying35 rfl) ?_
  refine Wl_v (r_add rfl rfl (wi64 (by omega) (by omega))) ?_
  refine Wl_v (r_as (v := .int .i64 (0 + ((n1 : Nat) : Int))) rfl) ?_
  refine Wl_nil ?_
  refine W_seq ?_
  refine W_region ?_
  refine Wl_v (r_mv (v := .int .i64 (0 + ((n1 : Nat) : Int))) rfl) ?_
  refine Wl_v (r_lt rfl rfl) ?_
  refine Wl_nil ?_
  have q1 : ¬ ((0 + ((n1 : Nat) : Int)) < 0) := (by omega)
  rw [decide_eq_false q1]
  refine W_cond_f rfl ?_
  refine W_skip ?_
  refine W_region ?_
  refine Wl_v (r_add rfl rfl (show _ = (1 : Int) from by decide)) ?_
  refine Wl_v (r_mv (v := .int .i64 1) rfl) ?_
  refine Wl_nil ?_
  refine unrK_succ ?_
  refine W_seq ?_
  refine W_region ?_
  refine Wl_v (v := .bool true) (r_lt (a := 1) (b := 2) rfl rfl) ?_
  refine Wl_nil ?_
  refine W_seq ?_
  refine W_cond_t rfl ?_
  refine W_skip ?_
  refine W_seq ?_
  refine W_block ?_
  refine W_seq ?_
  refine W_region ?_
  have hc2 : w.cell? ⟨B, 1, none⟩ = some (.slice a2 n2 c2) := hS.cellc (i := 1) (by decide)
  refine Wl_v (r_idx (b := B) (off := 0) (m := 2) (c := 2) (o' := 1) Try.underlying98 Try.sizeOf35 rfl rfl (by omega) (by omega) (by omega)) ?_
  refine Wl_loadc Try.isAgg35 rfl hc2 ?_
  refine Wl_v (r_as (v := .slice a2 n2 c2) rfl) ?_
  refine Wl_nil ?_
  refine W_seq ?_
  refine W_region ?_
  refine Wl_v (r_mv (v := .int .i64 (0 + ((n1 : Nat) : Int))) rfl) ?_
  refine Wl_v (r_mv (v := .slice a2 n2 c2) rfl) ?_
  refine Wl_v (r_len Try.underlying35 rfl) ?_
  refine Wl_v (r_add rfl rfl (wi64 (by omega) (by omega))) ?_
  refine Wl_v (r_as (v := .int .i64 ((0 + ((n1 : Nat) : Int)) + ((n2 : Nat) : Int))) rfl) ?_
  refine Wl_nil ?_
  refine W_seq ?_
  refine W_region ?_
  refine Wl_v (r_mv (v := .int .i64 ((0 + ((n1 : Nat) : Int)) + ((n2 : Nat) : Int))) rfl) ?_
  refine Wl_v (r_lt rfl rfl) ?_
  refine Wl_nil ?_
  have q2 : ¬ (((0 + ((n1 : Nat) : Int)) + ((n2 : Nat) : Int)) < 0) := (by omega)
  rw [decide_eq_false q2]
  refine W_cond_f rfl ?_
  refine W_skip ?_
  refine W_region ?_
  refine Wl_v (r_add rfl rfl (show _ = (2 : Int) from by decide)) ?_
  refine Wl_v (r_mv (v := .int .i64 2) rfl) ?_
  refine Wl_nil ?_
  refine unrK_succ ?_
  refine W_seq ?_
  refine W_region ?_
  refine Wl_v (v := .bool false) (r_lt (a := 2) (b := 2) rfl rfl) ?_
  refine Wl_nil ?_
  refine W_seq ?_
  refine W_cond_f rfl ?_
  refine W_exit ?_
  refine W_seq ?_
  refine W_region ?_
  refine Wl_v (r_mv (v := .int .i64 ((0 + ((n1 : Nat) : Int)) + ((n2 : Nat) : Int))) rfl) ?_
  refine Wl_call (r_call2 rfl Try.call65 rfl rfl) (grow0 _ (by omega)) ?_
  rintro v w3 ⟨a3, c3, rfl, hO3, hU3⟩
  have hzw3 := hU3.size
  replace hS := hS.upd0 hU3
  replace h1 := h1.upd0 hU3
  replace h2 := h2.upd0 hU3
  replace HU := HU.trans0 hU3
  replace hO3 := hO3.tight
  have hl_hO3 := ilen hO3.sl
  have hc_hO3 := hO3.sl.cap.1
  refine Wl_v (r_as (v := .slice a3 0 c3) rfl) ?_
  refine Wl_nil ?_
  refine W_seq ?_
  refine W_seq ?_
  refine W_region ?_
  refine Wl_v (r_mv (v := .slice (some ⟨B, 0, none⟩) 2 2) rfl) ?_
  refine Wl_v (r_len Try.underlying98 rfl) ?_
  refine Wl_v (r_mv (v := .int .i64 0) rfl) ?_
  refine Wl_nil ?_
  refine W_block ?_
  refine W_unroll 3 ?_
  refine unrK_succ ?_
  refine W_seq ?_
  refine W_region ?_
  refine Wl_v (v := .bool true) (r_lt (a := 0) (b := 2) rfl rfl) ?_
  refine Wl_nil ?_
  refine W_seq ?_
  refine W_cond_t rfl ?_
  refine W_skip ?_
  refine W_seq ?_
  refine W_block ?_
  refine W_seq ?_
  refine W_region ?_
  have hc4 : w3.cell? ⟨B, 0, none⟩ = some (.slice a1 n1 c1) := hS.cellc (i := 0) (by decide)
  refine Wl_v (r_idx (b := B) (off := 0) (m := 2) (c := 2) (o' := 0) Try.underlying98 Try.sizeOf35 rfl rfl (by omega) (by omega) (by omega)) ?_
  refine Wl_loadc Try.isAgg35 rfl hc4 ?_
  refine Wl_v (r_as (v := .slice a1 n1 c1) rfl) ?_
  refine Wl_nil ?_
  refine W_region ?_
  refine Wl_v (r_mv (v := .slice a3 0 c3) rfl) ?_
  refine Wl_v (r_mv (v := .slice a1 n1 c1) rfl) ?_
  refine Wl_appendi (xs := []) (ys := xs) (zs := xs) (k' := .u8) (tot := n1) (by first | rfl | simp) Try.underlying35 (ti := Try.t5) (z := .int .u8 0) (sz := 1) (by' := 1) rfl rfl rfl rfl rfl (by decide) rfl hO3 rfl h1  (by omega) (by simp only [maxLen]; omega) (by omega) ?_
  intro a5 c5 w5 hU5 hzz5 hO5
  clear hO3
  have hzw5 := hU5.size
  replace hS := hS.upd hU5 (by intro x h1 h2; have h3 : ((R x) ∧ x < w.heap.size) := h1; have h4 : ((w.heap.size ≤ x) ∧ x < w3.heap.size) := h2; omega)
  replace h1 := h1.upd hU5 (by intro x h1 h2; have h3 : x < w.heap.size := h1; have h4 : ((w.heap.size ≤ x) ∧ x < w3.heap.size) := h2; omega)
  replace h2 := h2.upd hU5 (by intro x h1 h2; have h3 : x < w.heap.size := h1; have h4 : ((w.heap.size ≤ x) ∧ x < w3.heap.size) := h2; omega)
  replace HU := HU.trans hU5 (by intro x hx; have hx2 : ((w.heap.size ≤ x) ∧ x < w3.heap.size) := hx; show (False) ∨ w.heap.size ≤ x; omega)
  replace hO5 := hO5.tight
  have hl_hO5 := ilen hO5.sl
  have hc_hO5 := hO5.sl.cap.1
  refine Wl_v (r_as (v := .slice a5 n1 c5) rfl) ?_
  refine Wl_nil ?_
  refine W_region ?_
  refine Wl_v (r_add rfl rfl (show _ = (1 : Int) from by decide)) ?_
  refine Wl_v (r_mv (v := .int .i64 1) rfl) ?_
  refine Wl_nil ?_
  refine unrK_succ ?_
  refine W_seq ?_
  refine W_region ?_
  refine Wl_v (v := .bool true) (r_lt (a := 1) (b := 2) rfl rfl) ?_
  refine Wl_nil ?_
  refine W_seq ?_
  refine W_cond_t rfl ?_
  refine W_skip ?_
  refine W_seq ?_
  refine W_block ?_
  refine W_seq ?_
  refine W_region ?_
  have hc6 : w5.cell? ⟨B, 1, none⟩ = some (.slice a2 n2 c2) := hS.cellc (i := 1) (by decide)
  refine Wl_v (r_idx (b := B) (off := 0) (m := 2) (c := 2) (o' := 1) Try.underlying98 Try.sizeOf35 rfl rfl (by omega) (by omega) (by omega)) ?_
  refine Wl_loadc Try.isAgg35 rfl hc6 ?_
  refine Wl_v (r_as (v := .slice a2 n2 c2) rfl) ?_
  refine Wl_nil ?_
  refine W_region ?_
  refine Wl_v (r_mv (v := .slice a5 n1 c5) rfl) ?_
  refine Wl_v (r_mv (v := .slice a2 n2 c2) rfl) ?_
  refine Wl_appendi (xs := xs) (ys := ys) (zs := xs ++ ys) (k' := .u8) (tot := n1 + n2) (by first | rfl | simp) Try.underlying35 (ti := Try.t5) (z := .int .u8 0) (sz := 1) (by' := 1) rfl rfl rfl rfl rfl (by decide) rfl hO5 rfl h2  (by omega) (by simp only [maxLen]; omega) (by omega) ?_
  intro a7 c7 w7 hU7 hzz7 hO7
  clear hO5
  have hzw7 := hU7.size
  replace hS := hS.upd hU7 (by intro x h1 h2; have h3 : ((R x) ∧ x < w.heap.size) := h1; have h4 : ((((((w.heap.size ≤ x) ∧ x < w3.heap.size)) ∨ x = w3.heap.size)) ∧ x < w5.heap.size) := h2; omega)
  replace h1 := h1.upd hU7 (by intro x h1 h2; have h3 : x < w.heap.size := h1; have h4 : ((((((w.heap.size ≤ x) ∧ x < w3.heap.size)) ∨ x = w3.heap.size)) ∧ x < w5.heap.size) := h2; omega)
  replace h2 := h2.upd hU7 (by intro x h1 h2; have h3 : x < w.heap.size := h1; have h4 : ((((((w.heap.size ≤ x) ∧ x < w3.heap.size)) ∨ x = w3.heap.size)) ∧ x < w5.heap.size) := h2; omega)
  replace HU := HU.trans hU7 (by intro x hx; have hx2 : ((((((w.heap.size ≤ x) ∧ x < w3.heap.size)) ∨ x = w3.heap.size)) ∧ x < w5.heap.size) := hx; show (False) ∨ w.heap.size ≤ x; omega)
  replace hO7 := hO7.tight
  have hl_hO7 := ilen hO7.sl
  have hc_hO7 := hO7.sl.cap.1
  refine Wl_v (r_as (v := .slice a7 (n1 + n2) c7) rfl) ?_
  refine Wl_nil ?_
  refine W_region ?_
  refine Wl_v (r_add rfl rfl (show _ = (2 : Int) from by decide)) ?_
  refine Wl_v (r_mv (v := .int .i64 2) rfl) ?_
  refine Wl_nil ?_
  refine unrK_succ ?_
  refine W_seq ?_
  refine W_region ?_
  refine Wl_v (v := .bool false) (r_lt (a := 2) (b := 2) rfl rfl) ?_
  refine Wl_nil ?_
  refine W_seq ?_
  refine W_cond_f rfl ?_
  refine W_exit ?_
  refine W_seq ?_
  refine W_region ?_
  refine Wl_v (r_mv (v := .slice a7 (n1 + n2) c7) rfl) ?_
  refine Wl_v (r_as (v := .slice a7 (n1 + n2) c7) rfl) ?_
  refine Wl_nil ?_
  refine W_ret ?_
  refine ret_end (v := .slice a7 (n1 + n2) c7) rfl (res1 Try.results54 rfl) ?_
  exact ⟨_, rfl, a7, c7, rfl, (by simpa using hO7.weak (by intro g hg; have h3 : ((((((((((w.heap.size ≤ g) ∧ g < w3.heap.size)) ∨ g = w3.heap.size)) ∧ g < w5.heap.size)) ∨ g = w5.heap.size)) ∧ g < w7.heap.size) := hg; show w.heap.size ≤ g; omega)), HU⟩

set_option maxRecDepth 100000 in
theorem skippable_spec {a : Option Addr} {n c : Nat} {bs : List Int} (w : World) (hs : Sl w (fun g => g < w.heap.size) 1 (.slice a n c) n (ints .u8 bs)) (hn : n < 4294967296) :
    Calls Try.prog 32 #[.slice a n c] w (Ret fun v w' => ∃ (a' : Option Addr) (m' : Nat) (c' : Nat), v = .tuple #[.slice a' m' c', .int .i64 0] ∧ Own w' (fun g => w.heap.size ≤ g) 5 1 (.slice a' m' c') m' (ints .u8 (skb bs)) ∧ m' = n + 8 ∧ Upd No w w') := by
  have HU : Upd (fun b => False) w w := Upd.refl _ _
  have hl_hs := ilen hs
  have hc_hs := hs.cap.1
  refine calls_of_W Try.func32 rfl Try.ntmps32 (by simp) ?_
  refine W_seq ?_
  refine W_region ?_
  refine Wl_v (r_as (v := .slice none 0 0) rfl) ?_
  refine Wl_v (r_as (v := .int .i64 0) rfl) ?_
  refine Wl_nil ?_
  refine W_seq ?_
  refine W_seq ?_
  refine W_region ?_
  refine Wl_v (r_mv (v := .slice a n c) rfl) ?_
  refine Wl_v (r_len Try.underlying35 rfl) ?_
  refine Wl_v (r_cvt Try.underlying3 Try.underlying68 rfl (wu64 (by omega) (by omega))) ?_
  refine Wl_v (r_ge rfl rfl) ?_
  refine Wl_nil ?_
  have q1 : ¬ (4294967296 ≤ ((n : Nat) : Int)) := (by omega)
  rw [decide_eq_false q1]
  refine W_cond_f rfl ?_
  refine W_skip ?_
  refine W_seq ?_
  refine W_region ?_
  refine Wl_lit (pv := [(0, .int .u8 80), (1, .int .u8 77), (2, .int .u8 84), (3, .int .u8 83)]) (cs := [.int .u8 80, .int .u8 77, .int .u8 84, .int .u8 83]) Try.underlying35 Try.sizeOf5 Try.zeroValue5 (by decide) (by decide) (by simp only [List.map_toArray, List.map_cons, List.map_nil] <;> rfl) (by kernel_rfl) rfl (by decide) ?_
  intro B1 w1 hB1 hU1 hzz1 hs1
  have hzw1 := hU1.size
  replace hs := hs.upd0 hU1
  replace HU := HU.trans0 hU1
  replace hs1 : Own w1 (Is B1) 5 1 (.slice (some ⟨B1, 0, none⟩) 4 4) 4 (ints .u8 [80, 77, 84, 83]) := hs1
  refine Wl_cvtsl Try.underlying35 Try.underlying5 rfl hs1 ?_
  intro w2 hU2 hzz2 hT2
  clear hs1
  have hzw2 := hU2.size
  replace hs := hs.upd1 hU2 (by intro h1; have h3 : B1 < w.heap.size := h1; omega)
  replace HU := HU.trans1 hU2 (by show (False) ∨ w.heap.size ≤ B1; omega)
  refine Wl_v (r_mv (v := .slice a n c) rfl) ?_
  refine Wl_v (r_len Try.underlying35 rfl) ?_
  refine Wl_v (r_cvt Try.underlying3 Try.underlying32 rfl (mu32 _)) ?_
  rw [show (((n : Nat) : Int) % 4294967296 : Int) = ((n : Nat) : Int) from by omega]
  refine Wl_call (r_call2 rfl Try.call35 rfl rfl) (putword_spec _ hT2.any (by omega) (by omega) (by omega)) ?_
  rintro v w3 ⟨a3, c3, rfl, hO3, hU3⟩
  have hzw3 := hU3.size
  replace hs := hs.upd0 hU3
  replace HU := HU.trans0 hU3
  replace hT2 := hT2.upd0 hU3
  replace hO3 := hO3.tight
  have hl_hO3 := ilen hO3.sl
  have hc_hO3 := hO3.sl.cap.1
  refine Wl_v (r_mv (v := .slice a n c) rfl) ?_
  refine Wl_lit (pv := [(0, .slice a3 (4 + 4) c3), (1, .slice a n c)]) (cs := [.slice a3 (4 + 4) c3, .slice a n c]) Try.underlying98 Try.sizeOf35 Try.zeroValue35 (by decide) (by decide) (by simp only [List.map_toArray, List.map_cons, List.map_nil] <;> rfl) (by kernel_rfl) rfl (by decide) ?_
  intro B4 w4 hB4 hU4 hzz4 hs4
  have hzw4 := hU4.size
  replace hs := hs.upd0 hU4
  replace HU := HU.trans0 hU4
  replace hT2 := hT2.upd0 hU4
  replace hO3 := hO3.upd0 hU4
  refine Wl_call (r_call1 rfl Try.call54 rfl) (concat2 _ hs4 hO3.sl.any hs.any (by omega)) ?_
  rintro v w5 ⟨a5, c5, rfl, hO5, hU5⟩
  have hzw5 := hU5.size
  replace hs := hs.upd0 hU5
  replace HU := HU.trans0 hU5
  replace hT2 := hT2.upd0 hU5
  replace hO3 := hO3.upd0 hU5
  replace hs4 := hs4.upd0 hU5
  replace hO5 := hO5.tight
  have hl_hO5 := ilen hO5.sl
  have hc_hO5 := hO5.sl.cap.1
  refine Wl_v (r_as (v := .slice a5 ((4 + 4) + n) c5) rfl) ?_
  refine Wl_v (r_as (v := .int .i64 0) rfl) ?_
  refine Wl_nil ?_
  refine W_ret ?_
  refine ret_end (v := .tuple #[.slice a5 ((4 + 4) + n) c5, .int .i64 0]) rfl (res2 Try.results32 rfl rfl) ?_
  exact ⟨_, rfl, a5, (4 + 4) + n, c5, rfl, (by unfold skb; rw [hl_hs]; first | exact hO5.weak (by intro g hg; have h3 : ((w4.heap.size ≤ g) ∧ g < w5.heap.size) := hg; show w.heap.size ≤ g; omega) | simpa [Nat.add_comm, Nat.add_left_comm] using hO5.weak (by intro g hg; have h3 : ((w4.heap.size ≤ g) ∧ g < w5.heap.size) := hg; show w.heap.size ≤ g; omega)), (by omega), HU⟩

set_option maxRecDepth 100000 in
theorem rskipped {a : Option Addr} {n c : Nat} {bs : List Int} (w : World) (hs : Sl w (fun g => g < w.heap.size) 1 (.slice a n c) n (ints .u8 bs)) (hn : n < 4294967296) :
    Calls Try.prog 34 #[.slice a n c] w (Ret fun v w' => ∃ (a' : Option Addr) (m' : Nat) (c' : Nat), v = .slice a' m' c' ∧ Own w' (fun g => w.heap.size ≤ g) 5 1 (.slice a' m' c') m' (ints .u8 (skb bs)) ∧ m' = n + 8 ∧ Upd No w w') := by
  have HU : Upd (fun b => False) w w := Upd.refl _ _
  have hl_hs := ilen hs
  have hc_hs := hs.cap.1
  refine calls_of_W Try.func34 rfl Try.ntmps34 (by simp) ?_
  refine W_seq ?_
  refine W_region ?_
  refine Wl_v (r_as (v := .slice none 0 0) rfl) ?_
  refine Wl_nil ?_
  refine W_seq ?_
  refine W_region ?_
  refine Wl_lit (pv := [(0, .int .u8 80), (1, .int .u8 77), (2, .int .u8 84), (3, .int .u8 83)]) (cs := [.int .u8 80, .int .u8 77, .int .u8 84, .int .u8 83]) Try.underlying35 Try.sizeOf5 Try.zeroValue5 (by decide) (by decide) (by simp only [List.map_toArray, List.map_cons, List.map_nil] <;> rfl) (by kernel_rfl) rfl (by decide) ?_
  intro B1 w1 hB1 hU1 hzz1 hs1
  have hzw1 := hU1.size
  replace hs := hs.upd0 hU1
  replace HU := HU.trans0 hU1
  replace hs1 : Own w1 (Is B1) 5 1 (.slice (some ⟨B1, 0, none⟩) 4 4) 4 (ints .u8 [80, 77, 84, 83]) := hs1
  refine Wl_cvtsl Try.underlying35 Try.underlying5 rfl hs1 ?_
  intro w2 hU2 hzz2 hT2
  clear hs1
  have hzw2 := hU2.size
  replace hs := hs.upd1 hU2 (by intro h1; have h3 : B1 < w.heap.size := h1; omega)
  replace HU := HU.trans1 hU2 (by show (False) ∨ w.heap.size ≤ B1; omega)
  refine Wl_v (r_mv (v := .slice a n c) rfl) ?_
  refine Wl_v (r_len Try.underlying35 rfl) ?_
  refine Wl_v (r_cvt Try.underlying3 Try.underlying32 rfl (mu32 _)) ?_
  rw [show (((n : Nat) : Int) % 4294967296 : Int) = ((n : Nat) : Int) from by omega]
  refine Wl_call (r_call1 rfl Try.call37 rfl) (word_spec _ (by omega) (by omega)) ?_
  rintro v w3 ⟨a3, c3, rfl, hO3, hU3⟩
  have hzw3 := hU3.size
  replace hs := hs.upd0 hU3
  replace HU := HU.trans0 hU3
  replace hT2 := hT2.upd0 hU3
  replace hO3 := hO3.tight
  have hl_hO3 := ilen hO3.sl
  have hc_hO3 := hO3.sl.cap.1
  refine Wl_appg (xs := [80, 77, 84, 83]) (ys := word ((n : Nat) : Int)) (zs := [80, 77, 84, 83] ++ (word ((n : Nat) : Int))) (k' := .u8) (tot := 8) rfl Try.underlying35 (ti := Try.t5) (z := .int .u8 0) (sz := 1) (by' := 1) rfl rfl rfl rfl rfl rfl hT2 rfl hO3.sl (by omega) (by omega) (by omega) (by omega) (by simp only [maxLen]; omega) (by omega) ?_
  intro a4 c4 w4 hU4 hzz4 hO4
  have hzw4 := hU4.size
  replace hs := hs.upd0 hU4
  replace HU := HU.trans0 hU4
  replace hT2 := hT2.upd0 hU4
  replace hO3 := hO3.upd0 hU4
  replace hO4 := hO4.tight
  have hl_hO4 := ilen hO4.sl
  have hc_hO4 := hO4.sl.cap.1
  refine Wl_v (r_mv (v := .slice a n c) rfl) ?_
  refine Wl_appendi (xs := [80, 77, 84, 83] ++ (word ((n : Nat) : Int))) (ys := bs) (zs := [80, 77, 84, 83] ++ (word ((n : Nat) : Int)) ++ bs) (k' := .u8) (tot := 8 + n) (by first | rfl | simp) Try.underlying35 (ti := Try.t5) (z := .int .u8 0) (sz := 1) (by' := 1) rfl rfl rfl rfl rfl (by decide) rfl hO4 rfl hs  (by omega) (by simp only [maxLen]; omega) (by omega) ?_
  intro a5 c5 w5 hU5 hzz5 hO5
  clear hO4
  have hzw5 := hU5.size
  replace hs := hs.upd hU5 (by intro x h1 h2; have h3 : x < w.heap.size := h1; have h4 : ((x = w3.heap.size) ∧ x < w4.heap.size) := h2; omega)
  replace HU := HU.trans hU5 (by intro x hx; have hx2 : ((x = w3.heap.size) ∧ x < w4.heap.size) := hx; show (False) ∨ w.heap.size ≤ x; omega)
  replace hT2 := hT2.upd hU5 (by intro x h1 h2; have h3 : x = B1 := h1; have h4 : ((x = w3.heap.size) ∧ x < w4.heap.size) := h2; omega)
  replace hO3 := hO3.upd hU5 (by intro x h1 h2; have h3 : ((w2.heap.size ≤ x) ∧ x < w3.heap.size) := h1; have h4 : ((x = w3.heap.size) ∧ x < w4.heap.size) := h2; omega)
  replace hO5 := hO5.tight
  have hl_hO5 := ilen hO5.sl
  have hc_hO5 := hO5.sl.cap.1
  refine Wl_v (r_as (v := .slice a5 (8 + n) c5) rfl) ?_
  refine Wl_nil ?_
  refine W_ret ?_
  refine ret_end (v := .slice a5 (8 + n) c5) rfl (res1 Try.results34 rfl) ?_
  exact ⟨_, rfl, a5, 8 + n, c5, rfl, (by unfold skb; rw [hl_hs]; first | exact hO5.weak (by intro g hg; have h3 : ((((((g = w3.heap.size) ∧ g < w4.heap.size)) ∨ g = w4.heap.size)) ∧ g < w5.heap.size) := hg; show w.heap.size ≤ g; omega) | simpa [Nat.add_comm, Nat.add_left_comm] using hO5.weak (by intro g hg; have h3 : ((((((g = w3.heap.size) ∧ g < w4.heap.size)) ∨ g = w4.heap.size)) ∧ g < w5.heap.size) := hg; show w.heap.size ≤ g; omega)), (by omega), HU⟩

set_option maxHeartbeats 2000000 in
set_option maxRecDepth 100000 in
theorem payload_spec {pb : Nat} {a : Option Addr} {n c p : Nat} {bs : List Int} (w : World) (hp : Blk w pb [.slice a n c, .int .i64 ((p : Nat) : Int)]) (hs : Sl w (fun g => g < w.heap.size ∧ g ≠ pb) 1 (.slice a n c) n (ints .u8 bs)) (hb : Byt bs) (hpn : p ≤ n) (hn : n ≤ 140737488355328) :
    Calls Try.prog 31 #[.pointer (some ⟨pb, 0, none⟩)] w (Ret fun v w' => ∃ (a' : Option Addr) (m' : Nat) (c' : Nat), v = .tuple #[.slice a' m' c', .int .i64 ((gskip bs p).2.2)] ∧ Blk w' pb [.slice a n c, .int .i64 (((gskip bs p).2.1 : Nat) : Int)] ∧ Own w' (fun g => w.heap.size ≤ g) 5 1 (.slice a' m' c') m' (ints .u8 ((gskip bs p).1)) ∧ (gskip bs p).1.length = m' ∧ Upd (Is pb) w w') := by
  have HU : Upd (fun b => b = pb) w w := Upd.refl _ _
  have hbl_hp := hp.lt
  have hl_hs := ilen hs
  have hc_hs := hs.cap.1
  obtain ⟨t, ht⟩ : ∃ t, t = min 8 (n - p) := ⟨_, rfl⟩
  refine calls_of_W Try.func31 rfl Try.ntmps31 (by simp) ?_
  refine W_seq ?_
  refine W_region ?_
  refine Wl_v (r_as (v := .slice none 0 0) rfl) ?_
  refine Wl_v (r_as (v := .int .i64 0) rfl) ?_
  refine Wl_nil ?_
  refine W_seq ?_
  refine W_region ?_
  refine Wl_v (r_mv (v := .pointer (some ⟨pb, 0, none⟩)) rfl) ?_
  refine Wl_call (r_call1 rfl Try.call29 rfl) (isf_spec _ hp (hs.cur (by intro h1; have h3 : (pb < w.heap.size ∧ pb ≠ pb) := h1; first | omega | simp at h3)) hb (by omega) (by omega)) ?_
  rintro v w1 ⟨rfl, hU1⟩
  have hzw1 := hU1.size
  replace hp := hp.upd0 hU1
  replace hs := hs.upd0 hU1
  replace HU := HU.trans0 hU1
  refine Wl_v (r_mv (v := .tuple #[.bool (decide ((hmk bs p).1 = 1)), .int .i64 ((hmk bs p).2)]) rfl) ?_
  refine Wl_v (r_ext (v := .bool (decide ((hmk bs p).1 = 1))) rfl rfl) ?_
  refine Wl_v (r_ext (v := .int .i64 ((hmk bs p).2)) rfl rfl) ?_
  refine Wl_v (r_as (v := .bool (decide ((hmk bs p).1 = 1))) rfl) ?_
  refine Wl_v (r_as (v := .int .i64 ((hmk bs p).2)) rfl) ?_
  refine Wl_nil ?_
  refine W_seq ?_
  refine W_seq ?_
  refine W_region ?_
  refine Wl_v (r_mv (v := .int .i64 ((hmk bs p).2)) rfl) ?_
  refine Wl_v (r_eq rfl rfl) ?_
  refine Wl_v (r_mv (v := .bool (decide (((hmk bs p).2) = 0))) rfl) ?_
  by_cases q1 : ((hmk bs p).2) = 0
  · have hml := hmk_len q1
    rw [decide_eq_true q1]
    refine Wl_guard_t rfl ?_
    refine Wl_v (r_mv (v := .bool (decide ((hmk bs p).1 = 1))) rfl) ?_
    refine Wl_v (r_pick_t (v := .bool (decide ((hmk bs p).1 = 1))) rfl rfl) ?_
    refine Wl_nil ?_
    by_cases q2 : (hmk bs p).1 = 1
    · rw [decide_eq_true q2]
      refine W_cond_t rfl ?_
      refine W_region ?_
      refine Wl_v (r_as (v := .int .i64 6) rfl) ?_
      refine Wl_nil ?_
      refine W_seq ?_
      refine W_seq ?_
      refine W_region ?_
      refine Wl_v (r_mv (v := .int .i64 6) rfl) ?_
      refine Wl_v (v := .bool true) (r_ne (a := 6) (b := 0) rfl rfl) ?_
      refine Wl_nil ?_
      refine W_cond_t rfl ?_
      refine W_seq ?_
      refine W_region ?_
      refine Wl_v (r_mv (v := .int .i64 6) rfl) ?_
      refine Wl_v (r_as (v := .slice none 0 0) rfl) ?_
      refine Wl_v (r_as (v := .int .i64 6) rfl) ?_
      refine Wl_nil ?_
      refine W_ret ?_
      refine ret_end (v := .tuple #[.slice none 0 0, .int .i64 6]) rfl (res2 Try.results31 rfl rfl) ?_
      have HG := gs_kind (bs := bs) (p := p) q1 q2
      exact ⟨_, rfl, none, 0, 0, vtup2 rfl (by rw [HG]; first | done | rfl | simp [HB]), (by rw [HG]; simpa using hp), (by rw [HG]; exact Own.nil _ _ _ _), (by rw [HG]; rfl), HU⟩
    · rw [decide_eq_false q2]
      refine W_cond_f rfl ?_
      refine W_skip ?_
      refine W_seq ?_
      refine W_seq ?_
      refine W_region ?_
      refine Wl_v (r_mv (v := .int .i64 ((hmk bs p).2)) rfl) ?_
      refine Wl_v (r_ne rfl rfl) ?_
      refine Wl_nil ?_
      have q3 : ¬ (((hmk bs p).2) ≠ 0) := (fun h2 => h2 q1)
      rw [decide_eq_false q3]
      refine W_cond_f rfl ?_
      refine W_skip ?_
      refine W_seq ?_
      refine W_region ?_
      refine Wl_v (r_mv (v := .pointer (some ⟨pb, 0, none⟩)) rfl) ?_
      refine Wl_call (r_call2 rfl Try.call43 rfl rfl) (peek_k (t := t) (K := 8) _ hp (hs.cur (by intro h1; have h3 : (pb < w.heap.size ∧ pb ≠ pb) := h1; first | omega | simp at h3)) hb (by omega) (by omega) ht) ?_
      rintro v w2 ⟨a2, c2, rfl, hO2, hU2⟩
      have hzw2 := hU2.size
      replace hp := hp.upd0 hU2
      replace hs := hs.upd0 hU2
      replace HU := HU.trans0 hU2
      replace hO2 := hO2.tight
      have hl_hO2 := ilen hO2.sl
      have hc_hO2 := hO2.sl.cap.1
      refine Wl_call (r_call1 rfl Try.call23 rfl) (new_spec _ hO2.sl.any (by omega)) ?_
      rintro v w3 ⟨pb3, a3, c3, rfl, hp3, hO3, hpg_3, hU3⟩
      have hzw3 := hU3.size
      replace hp := hp.upd0 hU3
      replace hs := hs.upd0 hU3
      replace HU := HU.trans0 hU3
      replace hO2 := hO2.upd0 hU3
      have hbl_hp3 := hp3.lt
      replace hO3 := hO3.tight
      have hl_hO3 := ilen hO3.sl
      have hc_hO3 := hO3.sl.cap.1
      refine Wl_v (r_as (v := .pointer (some ⟨pb3, 0, none⟩)) rfl) ?_
      refine Wl_nil ?_
      refine W_seq ?_
      refine W_region ?_
      refine Wl_v (r_mv (v := .pointer (some ⟨pb3, 0, none⟩)) rfl) ?_
      refine Wl_call (r_call2 rfl Try.call25 rfl rfl) (cbytes_k (K := 4) (p := 0) _ hp3 (hO3.sl.cur (by intro h1; have h3 : ((w2.heap.size ≤ pb3 ∧ pb3 ≠ pb3) ∧ pb3 < w3.heap.size) := h1; first | omega | simp at h3)) (byt_take (byt_drop hb _) _) (by omega) (by omega) (by omega)) ?_
      rintro v w4 ⟨a4, c4, rfl, hp4, hO4, hU4⟩
      have hzw4 := hU4.size
      replace hp := hp.upd1 hU4 (by omega)
      replace hs := hs.upd1 hU4 (by intro h1; have h3 : (pb3 < w.heap.size ∧ pb3 ≠ pb) := h1; omega)
      replace HU := HU.trans1 hU4 (by show (pb3 = pb) ∨ w.heap.size ≤ pb3; omega)
      replace hO2 := hO2.upd1 hU4 (by intro h1; have h3 : ((w1.heap.size ≤ pb3) ∧ pb3 < w2.heap.size) := h1; omega)
      replace hO3 := hO3.upd1 hU4 (by intro h1; have h3 : ((w2.heap.size ≤ pb3 ∧ pb3 ≠ pb3) ∧ pb3 < w3.heap.size) := h1; omega)
      have hbl_hp4 := hp4.lt
      replace hO4 := hO4.tight
      have hl_hO4 := ilen hO4.sl
      have hc_hO4 := hO4.sl.cap.1
      replace hp4 : Blk w4 pb3 [.slice a3 t c3, .int .i64 ((4 : Nat) : Int)] := hp4
      refine Wl_nil ?_
      refine W_seq ?_
      refine W_region ?_
      refine Wl_v (r_mv (v := .pointer (some ⟨pb3, 0, none⟩)) rfl) ?_
      by_cases q4 : (gword bs (p + 4)).2.2 = 0
      · have hgi := gword_in (bs := bs) q4
        have hgl := gword_le hb (p + 4)
        refine Wl_call (r_call1 rfl Try.call48 rfl) (cword_at (x := (gword bs (p + 4)).1) (q := 8) (er := 0) _ hp4 (hO3.sl.cur (by intro h1; have h3 : ((w2.heap.size ≤ pb3 ∧ pb3 ≠ pb3) ∧ pb3 < w3.heap.size) := h1; first | omega | simp at h3)) (byt_take (byt_drop hb _) _) (by omega) (by omega) (gword_cut0 (by omega) q4 rfl)) ?_
        rintro v w5 ⟨rfl, hp5, hU5⟩
        have hzw5 := hU5.size
        replace hp := hp.upd1 hU5 (by omega)
        replace hs := hs.upd1 hU5 (by intro h1; have h3 : (pb3 < w.heap.size ∧ pb3 ≠ pb) := h1; omega)
        replace HU := HU.trans1 hU5 (by show (pb3 = pb) ∨ w.heap.size ≤ pb3; omega)
        replace hO2 := hO2.upd1 hU5 (by intro h1; have h3 : ((w1.heap.size ≤ pb3) ∧ pb3 < w2.heap.size) := h1; omega)
        replace hO3 := hO3.upd1 hU5 (by intro h1; have h3 : ((w2.heap.size ≤ pb3 ∧ pb3 ≠ pb3) ∧ pb3 < w3.heap.size) := h1; omega)
        replace hO4 := hO4.upd1 hU5 (by intro h1; have h3 : ((w3.heap.size ≤ pb3) ∧ pb3 < w4.heap.size) := h1; omega)
        have hbl_hp5 := hp5.lt
        refine Wl_v (r_mv (v := .tuple #[.int .u32 ((gword bs (p + 4)).1), .int .i64 0]) rfl) ?_
        refine Wl_v (r_ext (v := .int .u32 ((gword bs (p + 4)).1)) rfl rfl) ?_
        refine Wl_v (r_ext (v := .int .i64 0) rfl rfl) ?_
        refine Wl_v (r_as (v := .int .u32 ((gword bs (p + 4)).1)) rfl) ?_
        refine Wl_v (r_as (v := .int .i64 0) rfl) ?_
        refine Wl_nil ?_
        refine W_seq ?_
        refine W_seq ?_
        refine W_region ?_
        refine Wl_v (r_mv (v := .int .i64 0) rfl) ?_
        refine Wl_v (v := .bool false) (r_ne (a := 0) (b := 0) rfl rfl) ?_
        refine Wl_nil ?_
        refine W_cond_f rfl ?_
        refine W_skip ?_
        refine W_seq ?_
        refine W_seq ?_
        refine W_region ?_
        refine Wl_v (r_mv (v := .int .u32 ((gword bs (p + 4)).1)) rfl) ?_
        refine Wl_v (r_cvt Try.underlying32 Try.underlying3 rfl (wi64 (by omega) (by omega))) ?_
        refine Wl_v (r_mv (v := .pointer (some ⟨pb, 0, none⟩)) rfl) ?_
        refine Wl_call (r_call1 rfl Try.call42 rfl) (left_spec _ hp (by omega) (by omega) (by omega)) ?_
        rintro v w6 ⟨rfl, hU6⟩
        have hzw6 := hU6.size
        replace hp := hp.upd0 hU6
        replace hs := hs.upd0 hU6
        replace HU := HU.trans0 hU6
        replace hO2 := hO2.upd0 hU6
        replace hO3 := hO3.upd0 hU6
        replace hO4 := hO4.upd0 hU6
        replace hp5 := hp5.upd0 hU6
        refine Wl_v (r_sub rfl rfl (wi64 (by omega) (by omega))) ?_
        refine Wl_v (r_gt rfl rfl) ?_
        refine Wl_nil ?_
        by_cases q5 : ((((n : Nat) : Int) - ((p : Nat) : Int)) - 8) < ((gword bs (p + 4)).1)
        · rw [decide_eq_true q5]
          refine W_cond_t rfl ?_
          refine W_seq ?_
          refine W_region ?_
          refine Wl_v (r_as (v := .slice none 0 0) rfl) ?_
          refine Wl_v (r_as (v := .int .i64 3) rfl) ?_
          refine Wl_nil ?_
          refine W_ret ?_
          refine ret_end (v := .tuple #[.slice none 0 0, .int .i64 3]) rfl (res2 Try.results31 rfl rfl) ?_
          have HB := gbytes_long (bs := bs) (p := p + 8) (k := (gword bs (p + 4)).1) (by omega) (by omega)
          have HG := gs_err q1 q2 q4 (by rw [HB]; show (3 : Int) ≠ 0; decide)
          rw [HB] at HG
          exact ⟨_, rfl, none, 0, 0, vtup2 rfl (by rw [HG]; first | done | rfl | simp [HB]), (by rw [HG]; simpa using hp), (by rw [HG]; exact Own.nil _ _ _ _), (by rw [HG]; rfl), HU⟩
        · rw [decide_eq_false q5]
          refine W_cond_f rfl ?_
          refine W_skip ?_
          refine W_seq ?_
          refine W_region ?_
          refine Wl_v (r_mv (v := .pointer (some ⟨pb, 0, none⟩)) rfl) ?_
          refine Wl_call (r_call2 rfl Try.call25 rfl rfl) (cbytes_k (K := 8) _ hp (hs.cur (by intro h1; have h3 : (pb < w.heap.size ∧ pb ≠ pb) := h1; first | omega | simp at h3)) hb (by omega) (by omega) (by omega)) ?_
          rintro v w7 ⟨a7, c7, rfl, hp7, hO7, hU7⟩
          have hzw7 := hU7.size
          replace hs := hs.upd1 hU7 (by intro h1; have h3 : (pb < w.heap.size ∧ pb ≠ pb) := h1; omega)
          replace HU := HU.trans1 hU7 (by show (pb = pb) ∨ w.heap.size ≤ pb; omega)
          replace hO2 := hO2.upd1 hU7 (by intro h1; have h3 : ((w1.heap.size ≤ pb) ∧ pb < w2.heap.size) := h1; omega)
          replace hO3 := hO3.upd1 hU7 (by intro h1; have h3 : ((w2.heap.size ≤ pb ∧ pb ≠ pb3) ∧ pb < w3.heap.size) := h1; omega)
          replace hO4 := hO4.upd1 hU7 (by intro h1; have h3 : ((w3.heap.size ≤ pb) ∧ pb < w4.heap.size) := h1; omega)
          replace hp5 := hp5.upd1 hU7 (by omega)
          have hbl_hp7 := hp7.lt
          replace hO7 := hO7.tight
          have hl_hO7 := ilen hO7.sl
          have hc_hO7 := hO7.sl.cap.1
          refine Wl_nil ?_
          refine W_seq ?_
          refine W_region ?_
          refine Wl_v (r_mv (v := .pointer (some ⟨pb, 0, none⟩)) rfl) ?_
          refine Wl_v (r_mv (v := .int .u32 ((gword bs (p + 4)).1)) rfl) ?_
          refine Wl_v (r_cvt Try.underlying32 Try.underlying3 rfl (wi64 (by omega) (by omega))) ?_
          refine Wl_call (r_call2 rfl Try.call25 rfl rfl) (bytes_spec _ hp7 (hs.cur (by intro h1; have h3 : (pb < w.heap.size ∧ pb ≠ pb) := h1; first | omega | simp at h3)) hb (by omega) (by omega)) ?_
          rintro v w8 ⟨a8, m8, c8, rfl, hp8, hO8, hm_8, hU8⟩
          have hzw8 := hU8.size
          replace hs := hs.upd1 hU8 (by intro h1; have h3 : (pb < w.heap.size ∧ pb ≠ pb) := h1; omega)
          replace HU := HU.trans1 hU8 (by show (pb = pb) ∨ w.heap.size ≤ pb; omega)
          replace hO2 := hO2.upd1 hU8 (by intro h1; have h3 : ((w1.heap.size ≤ pb) ∧ pb < w2.heap.size) := h1; omega)
          replace hO3 := hO3.upd1 hU8 (by intro h1; have h3 : ((w2.heap.size ≤ pb ∧ pb ≠ pb3) ∧ pb < w3.heap.size) := h1; omega)
          replace hO4 := hO4.upd1 hU8 (by intro h1; have h3 : ((w3.heap.size ≤ pb) ∧ pb < w4.heap.size) := h1; omega)
          replace hp5 := hp5.upd1 hU8 (by omega)
          replace hO7 := hO7.upd1 hU8 (by intro h1; have h3 : ((w6.heap.size ≤ pb) ∧ pb < w7.heap.size) := h1; omega)
          have hbl_hp8 := hp8.lt
          replace hO8 := hO8.tight
          have hl_hO8 := ilen hO8.sl
          have hc_hO8 := hO8.sl.cap.1
          refine Wl_v (r_ext (v := .slice a8 m8 c8) rfl rfl) ?_
          refine Wl_v (r_ext (v := .int .i64 ((gbytes bs (p + 8) ((gword bs (p + 4)).1)).2.2)) rfl rfl) ?_
          refine Wl_v (r_as (v := .slice a8 m8 c8) rfl) ?_
          refine Wl_v (r_as (v := .int .i64 ((gbytes bs (p + 8) ((gword bs (p + 4)).1)).2.2)) rfl) ?_
          refine Wl_nil ?_
          refine W_ret ?_
          refine ret_end (v := .tuple #[.slice a8 m8 c8, .int .i64 ((gbytes bs (p + 8) ((gword bs (p + 4)).1)).2.2)]) rfl (res2 Try.results31 rfl rfl) ?_
          have HB := gbytes_ok (bs := bs) (p := p + 8) (k := (gword bs (p + 4)).1) (by omega) (by omega)
          have HG := gs_ok q1 q2 q4 (by rw [HB])
          exact ⟨_, rfl, _, _, _, vtup2 rfl (by rw [HG]), (by rw [HG]; exact hp8), (by rw [HG]; exact hO8.weak (by intro g hg; have h3 : ((w7.heap.size ≤ g) ∧ g < w8.heap.size) := hg; show w.heap.size ≤ g; omega)), (by rw [HG]; exact hm_8), HU⟩
      · refine Wl_call (r_call1 rfl Try.call48 rfl) (cword_at (x := (gword bs (p + 4)).1) (q := 4) (er := (gword bs (p + 4)).2.2) _ hp4 (hO3.sl.cur (by intro h1; have h3 : ((w2.heap.size ≤ pb3 ∧ pb3 ≠ pb3) ∧ pb3 < w3.heap.size) := h1; first | omega | simp at h3)) (byt_take (byt_drop hb _) _) (by omega) (by omega) (gword_cutE (by omega) q4)) ?_
        rintro v w9 ⟨rfl, hp9, hU9⟩
        have hzw9 := hU9.size
        replace hp := hp.upd1 hU9 (by omega)
        replace hs := hs.upd1 hU9 (by intro h1; have h3 : (pb3 < w.heap.size ∧ pb3 ≠ pb) := h1; omega)
        replace HU := HU.trans1 hU9 (by show (pb3 = pb) ∨ w.heap.size ≤ pb3; omega)
        replace hO2 := hO2.upd1 hU9 (by intro h1; have h3 : ((w1.heap.size ≤ pb3) ∧ pb3 < w2.heap.size) := h1; omega)
        replace hO3 := hO3.upd1 hU9 (by intro h1; have h3 : ((w2.heap.size ≤ pb3 ∧ pb3 ≠ pb3) ∧ pb3 < w3.heap.size) := h1; omega)
        replace hO4 := hO4.upd1 hU9 (by intro h1; have h3 : ((w3.heap.size ≤ pb3) ∧ pb3 < w4.heap.size) := h1; omega)
        have hbl_hp9 := hp9.lt
        refine Wl_v (r_mv (v := .tuple #[.int .u32 ((gword bs (p + 4)).1), .int .i64 ((gword bs (p + 4)).2.2)]) rfl) ?_
        refine Wl_v (r_ext (v := .int .u32 ((gword bs (p + 4)).1)) rfl rfl) ?_
        refine Wl_v (r_ext (v := .int .i64 ((gword bs (p + 4)).2.2)) rfl rfl) ?_
        refine Wl_v (r_as (v := .int .u32 ((gword bs (p + 4)).1)) rfl) ?_
        refine Wl_v (r_as (v := .int .i64 ((gword bs (p + 4)).2.2)) rfl) ?_
        refine Wl_nil ?_
        refine W_seq ?_
        refine W_seq ?_
        refine W_region ?_
        refine Wl_v (r_mv (v := .int .i64 ((gword bs (p + 4)).2.2)) rfl) ?_
        refine Wl_v (r_ne rfl rfl) ?_
        refine Wl_nil ?_
        have q6 : ((gword bs (p + 4)).2.2) ≠ 0 := q4
        rw [decide_eq_true q6]
        refine W_cond_t rfl ?_
        refine W_seq ?_
        refine W_region ?_
        refine Wl_v (r_mv (v := .int .i64 ((gword bs (p + 4)).2.2)) rfl) ?_
        refine Wl_v (r_as (v := .slice none 0 0) rfl) ?_
        refine Wl_v (r_as (v := .int .i64 ((gword bs (p + 4)).2.2)) rfl) ?_
        refine Wl_nil ?_
        refine W_ret ?_
        refine ret_end (v := .tuple #[.slice none 0 0, .int .i64 ((gword bs (p + 4)).2.2)]) rfl (res2 Try.results31 rfl rfl) ?_
        have HG := gs_word q1 q2 q4
        exact ⟨_, rfl, none, 0, 0, vtup2 rfl (by rw [HG]; first | done | rfl | simp [HB]), (by rw [HG]; simpa using hp), (by rw [HG]; exact Own.nil _ _ _ _), (by rw [HG]; rfl), HU⟩
  · rw [decide_eq_false q1]
    refine Wl_guard_f rfl ?_
    refine Wl_v (r_pick_f (v := .bool false) rfl rfl) ?_
    refine Wl_nil ?_
    refine W_cond_f rfl ?_
    refine W_skip ?_
    refine W_seq ?_
    refine W_seq ?_
    refine W_region ?_
    refine Wl_v (r_mv (v := .int .i64 ((hmk bs p).2)) rfl) ?_
    refine Wl_v (r_ne rfl rfl) ?_
    refine Wl_nil ?_
    have q7 : ((hmk bs p).2) ≠ 0 := q1
    rw [decide_eq_true q7]
    refine W_cond_t rfl ?_
    refine W_seq ?_
    refine W_region ?_
    refine Wl_v (r_mv (v := .int .i64 ((hmk bs p).2)) rfl) ?_
    refine Wl_v (r_as (v := .slice none 0 0) rfl) ?_
    refine Wl_v (r_as (v := .int .i64 ((hmk bs p).2)) rfl) ?_
    refine Wl_nil ?_
    refine W_ret ?_
    refine ret_end (v := .tuple #[.slice none 0 0, .int .i64 ((hmk bs p).2)]) rfl (res2 Try.results31 rfl rfl) ?_
    have HG := gs_mk (bs := bs) (p := p) q1
    exact ⟨_, rfl, none, 0, 0, vtup2 rfl (by rw [HG]; first | done | rfl | simp [HB]), (by rw [HG]; simpa using hp), (by rw [HG]; exact Own.nil _ _ _ _), (by rw [HG]; rfl), HU⟩

set_option maxRecDepth 100000 in
theorem rcontent {a : Option Addr} {n c p : Nat} {bs : List Int} {R : Nat → Prop} (w : World) (hs : Sl w R 1 (.slice a n c) n (ints .u8 bs)) (hb : Byt bs) (hpn : p ≤ n) (hn : n ≤ 140737488355328) :
    Calls Try.prog 33 #[.slice a n c, .int .i64 ((p : Nat) : Int)] w (Ret fun v w' => ∃ (a' : Option Addr) (m' : Nat) (c' : Nat), v = .tuple #[.slice a' m' c', .int .i64 (((gskip bs p).2.1 : Nat) : Int), .int .i64 ((gskip bs p).2.2)] ∧ Sl w' R 1 (.slice a' m' c') m' (ints .u8 ((gskip bs p).1)) ∧ (gskip bs p).1.length = m' ∧ Upd No w w') := by
  have HU : Upd (fun b => False) w w := Upd.refl _ _
  have hl_hs := ilen hs
  have hc_hs := hs.cap.1
  replace hs := hs.tight
  refine calls_of_W Try.func33 rfl Try.ntmps33 (by simp) ?_
  refine W_seq ?_
  refine W_region ?_
  refine Wl_v (r_as (v := .slice none 0 0) rfl) ?_
  refine Wl_v (r_as (v := .int .i64 0) rfl) ?_
  refine Wl_v (r_as (v := .int .i64 0) rfl) ?_
  refine Wl_nil ?_
  refine W_seq ?_
  refine W_region ?_
  refine Wl_v (r_mv (v := .slice a n c) rfl) ?_
  refine Wl_v (r_mv (v := .int .i64 ((p : Nat) : Int)) rfl) ?_
  refine Wl_call (r_call2 rfl Try.call30 rfl rfl) (rmark _ hs.any hb (by omega) (by omega)) ?_
  rintro v w1 ⟨rfl, hU1⟩
  have hzw1 := hU1.size
  replace hs := hs.upd0 hU1
  replace HU := HU.trans0 hU1
  refine Wl_v (r_mv (v := .tuple #[.int .i64 ((hmk bs p).1), .int .i64 ((hmk bs p).2)]) rfl) ?_
  refine Wl_v (r_ext (v := .int .i64 ((hmk bs p).1)) rfl rfl) ?_
  refine Wl_v (r_ext (v := .int .i64 ((hmk bs p).2)) rfl rfl) ?_
  refine Wl_v (r_as (v := .int .i64 ((hmk bs p).1)) rfl) ?_
  refine Wl_v (r_as (v := .int .i64 ((hmk bs p).2)) rfl) ?_
  refine Wl_nil ?_
  refine W_seq ?_
  refine W_seq ?_
  refine W_region ?_
  refine Wl_v (r_mv (v := .int .i64 ((hmk bs p).2)) rfl) ?_
  refine Wl_v (r_ne rfl rfl) ?_
  refine Wl_nil ?_
  by_cases q1 : ((hmk bs p).2) ≠ 0
  · rw [decide_eq_true q1]
    refine W_cond_t rfl ?_
    refine W_seq ?_
    refine W_region ?_
    refine Wl_v (r_mv (v := .int .i64 ((p : Nat) : Int)) rfl) ?_
    refine Wl_v (r_mv (v := .int .i64 ((hmk bs p).2)) rfl) ?_
    refine Wl_v (r_as (v := .slice none 0 0) rfl) ?_
    refine Wl_v (r_as (v := .int .i64 ((p : Nat) : Int)) rfl) ?_
    refine Wl_v (r_as (v := .int .i64 ((hmk bs p).2)) rfl) ?_
    refine Wl_nil ?_
    refine W_ret ?_
    refine ret_end (v := .tuple #[.slice none 0 0, .int .i64 ((p : Nat) : Int), .int .i64 ((hmk bs p).2)]) rfl (res3 Try.results33 rfl rfl rfl) ?_
    have HG := gs_mk (bs := bs) (p := p) q1
    exact ⟨_, rfl, none, 0, 0, vtup3 rfl (vint (by rw [HG]; first | done | rfl | (simp [HB]; done) | (dsimp only; omega))) (by rw [HG]; first | done | rfl | simp [HB]), (by rw [HG]; exact Sl.nil _ _ _), (by rw [HG]; rfl), HU⟩
  · have hml := hmk_len (Classical.not_not.1 q1)
    have h12 := hmk_12 (Classical.not_not.1 q1)
    rw [decide_eq_false q1]
    refine W_cond_f rfl ?_
    refine W_skip ?_
    refine W_seq ?_
    refine W_seq ?_
    refine W_region ?_
    refine Wl_v (r_mv (v := .int .i64 ((hmk bs p).1)) rfl) ?_
    refine Wl_v (r_ne rfl rfl) ?_
    refine Wl_nil ?_
    by_cases q2 : ((hmk bs p).1) ≠ 2
    · rw [decide_eq_true q2]
      refine W_cond_t rfl ?_
      refine W_seq ?_
      refine W_region ?_
      refine Wl_v (r_mv (v := .int .i64 ((p : Nat) : Int)) rfl) ?_
      refine Wl_v (r_as (v := .slice none 0 0) rfl) ?_
      refine Wl_v (r_as (v := .int .i64 ((p : Nat) : Int)) rfl) ?_
      refine Wl_v (r_as (v := .int .i64 6) rfl) ?_
      refine Wl_nil ?_
      refine W_ret ?_
      refine ret_end (v := .tuple #[.slice none 0 0, .int .i64 ((p : Nat) : Int), .int .i64 6]) rfl (res3 Try.results33 rfl rfl rfl) ?_
      have HG := gs_kind (bs := bs) (p := p) (Classical.not_not.1 q1) (by omega)
      exact ⟨_, rfl, none, 0, 0, vtup3 rfl (vint (by rw [HG]; first | done | rfl | (simp [HB]; done) | (dsimp only; omega))) (by rw [HG]; first | done | rfl | simp [HB]), (by rw [HG]; exact Sl.nil _ _ _), (by rw [HG]; rfl), HU⟩
    · rw [decide_eq_false q2]
      refine W_cond_f rfl ?_
      refine W_skip ?_
      refine W_seq ?_
      refine W_region ?_
      refine Wl_v (r_mv (v := .slice a n c) rfl) ?_
      refine Wl_v (r_mv (v := .int .i64 ((p : Nat) : Int)) rfl) ?_
      refine Wl_v (r_add rfl rfl (wi64 (by omega) (by omega))) ?_
      refine Wl_call (r_call2 rfl Try.call51 (v1 := .int .i64 ((p + 4 : Nat) : Int)) rfl (Eq.trans (b := .int .i64 (((p : Nat) : Int) + 4)) rfl (vint (by omega)))) (rgetword_spec _ hs.any hb (by omega) (by omega)) ?_
      rintro v w2 ⟨rfl, hU2⟩
      have hzw2 := hU2.size
      replace hs := hs.upd0 hU2
      replace HU := HU.trans0 hU2
      refine Wl_v (r_mv (v := .tuple #[.int .u32 ((gword bs (p + 4)).1), .int .i64 (((gword bs (p + 4)).2.1 : Nat) : Int), .int .i64 ((gword bs (p + 4)).2.2)]) rfl) ?_
      refine Wl_v (r_ext (v := .int .u32 ((gword bs (p + 4)).1)) rfl rfl) ?_
      refine Wl_v (r_ext (v := .int .i64 (((gword bs (p + 4)).2.1 : Nat) : Int)) rfl rfl) ?_
      refine Wl_v (r_ext (v := .int .i64 ((gword bs (p + 4)).2.2)) rfl rfl) ?_
      refine Wl_v (r_as (v := .int .u32 ((gword bs (p + 4)).1)) rfl) ?_
      refine Wl_v (r_as (v := .int .i64 (((gword bs (p + 4)).2.1 : Nat) : Int)) rfl) ?_
      refine Wl_v (r_as (v := .int .i64 ((gword bs (p + 4)).2.2)) rfl) ?_
      refine Wl_nil ?_
      refine W_seq ?_
      refine W_seq ?_
      refine W_region ?_
      refine Wl_v (r_mv (v := .int .i64 ((gword bs (p + 4)).2.2)) rfl) ?_
      refine Wl_v (r_ne rfl rfl) ?_
      refine Wl_nil ?_
      by_cases q3 : ((gword bs (p + 4)).2.2) ≠ 0
      · rw [decide_eq_true q3]
        refine W_cond_t rfl ?_
        refine W_seq ?_
        refine W_region ?_
        refine Wl_v (r_mv (v := .int .i64 ((p : Nat) : Int)) rfl) ?_
        refine Wl_v (r_mv (v := .int .i64 ((gword bs (p + 4)).2.2)) rfl) ?_
        refine Wl_v (r_as (v := .slice none 0 0) rfl) ?_
        refine Wl_v (r_as (v := .int .i64 ((p : Nat) : Int)) rfl) ?_
        refine Wl_v (r_as (v := .int .i64 ((gword bs (p + 4)).2.2)) rfl) ?_
        refine Wl_nil ?_
        refine W_ret ?_
        refine ret_end (v := .tuple #[.slice none 0 0, .int .i64 ((p : Nat) : Int), .int .i64 ((gword bs (p + 4)).2.2)]) rfl (res3 Try.results33 rfl rfl rfl) ?_
        have HG := gs_word (Classical.not_not.1 q1) (by omega) q3
        exact ⟨_, rfl, none, 0, 0, vtup3 rfl (vint (by rw [HG]; first | done | rfl | (simp [HB]; done) | (dsimp only; omega))) (by rw [HG]; first | done | rfl | simp [HB]), (by rw [HG]; exact Sl.nil _ _ _), (by rw [HG]; rfl), HU⟩
      · have hgi := gword_in (bs := bs) (Classical.not_not.1 q3)
        have hgl := gword_le hb (p + 4)
        rw [decide_eq_false q3]
        refine W_cond_f rfl ?_
        refine W_skip ?_
        refine W_seq ?_
        refine W_region ?_
        refine Wl_v (r_mv (v := .slice a n c) rfl) ?_
        refine Wl_v (r_mv (v := .int .i64 (((gword bs (p + 4)).2.1 : Nat) : Int)) rfl) ?_
        refine Wl_v (r_mv (v := .int .u32 ((gword bs (p + 4)).1)) rfl) ?_
        refine Wl_v (r_cvt Try.underlying32 Try.underlying3 rfl (wi64 (by omega) (by omega))) ?_
        by_cases q4 : (gword bs (p + 4)).1 ≤ ((n - (p + 8) : Nat) : Int)
        · have HB := gbytes_ok (bs := bs) (p := p + 8) (k := (gword bs (p + 4)).1) (by omega) (by omega)
          refine Wl_call (r_call3 rfl Try.call55 (v1 := .int .i64 ((p + 8 : Nat) : Int)) rfl (Eq.trans (b := .int .i64 (((gword bs (p + 4)).2.1 : Nat) : Int)) rfl (vint (by omega))) rfl) (rbytes_spec _ hs hb (by omega) (by omega)) ?_
          rintro v w3 ⟨a3, m3, c3, rfl, hB3, hm_3, hU3⟩
          have hzw3 := hU3.size
          replace hs := hs.upd0 hU3
          replace HU := HU.trans0 hU3
          have hl_hB3 := ilen hB3
          have hc_hB3 := hB3.cap.1
          refine Wl_v (r_mv (v := .tuple #[.slice a3 m3 c3, .int .i64 (((gbytes bs (p + 8) ((gword bs (p + 4)).1)).2.1 : Nat) : Int), .int .i64 ((gbytes bs (p + 8) ((gword bs (p + 4)).1)).2.2)]) rfl) ?_
          refine Wl_v (r_ext (v := .slice a3 m3 c3) rfl rfl) ?_
          refine Wl_v (r_ext (v := .int .i64 (((gbytes bs (p + 8) ((gword bs (p + 4)).1)).2.1 : Nat) : Int)) rfl rfl) ?_
          refine Wl_v (r_ext (v := .int .i64 ((gbytes bs (p + 8) ((gword bs (p + 4)).1)).2.2)) rfl rfl) ?_
          refine Wl_v (r_as (v := .slice a3 m3 c3) rfl) ?_
          refine Wl_v (r_as (v := .int .i64 (((gbytes bs (p + 8) ((gword bs (p + 4)).1)).2.1 : Nat) : Int)) rfl) ?_
          refine Wl_v (r_as (v := .int .i64 ((gbytes bs (p + 8) ((gword bs (p + 4)).1)).2.2)) rfl) ?_
          refine Wl_nil ?_
          refine W_seq ?_
          refine W_seq ?_
          refine W_region ?_
          refine Wl_v (r_mv (v := .int .i64 ((gbytes bs (p + 8) ((gword bs (p + 4)).1)).2.2)) rfl) ?_
          refine Wl_v (r_ne rfl rfl) ?_
          refine Wl_nil ?_
          have q5 : ¬ (((gbytes bs (p + 8) ((gword bs (p + 4)).1)).2.2) ≠ 0) := (by rw [HB]; simp)
          rw [decide_eq_false q5]
          refine W_cond_f rfl ?_
          refine W_skip ?_
          refine W_seq ?_
          refine W_region ?_
          refine Wl_v (r_mv (v := .slice a3 m3 c3) rfl) ?_
          refine Wl_v (r_mv (v := .int .i64 (((gbytes bs (p + 8) ((gword bs (p + 4)).1)).2.1 : Nat) : Int)) rfl) ?_
          refine Wl_v (r_as (v := .slice a3 m3 c3) rfl) ?_
          refine Wl_v (r_as (v := .int .i64 (((gbytes bs (p + 8) ((gword bs (p + 4)).1)).2.1 : Nat) : Int)) rfl) ?_
          refine Wl_v (r_as (v := .int .i64 0) rfl) ?_
          refine Wl_nil ?_
          refine W_ret ?_
          refine ret_end (v := .tuple #[.slice a3 m3 c3, .int .i64 (((gbytes bs (p + 8) ((gword bs (p + 4)).1)).2.1 : Nat) : Int), .int .i64 0]) rfl (res3 Try.results33 rfl rfl rfl) ?_
          have HB := gbytes_ok (bs := bs) (p := p + 8) (k := (gword bs (p + 4)).1) (by omega) (by omega)
          have HG := gs_ok (Classical.not_not.1 q1) (by omega) (Classical.not_not.1 q3) (by rw [HB])
          exact ⟨_, rfl, _, _, _, vtup3 rfl (by rw [HG]) (by rw [HG, HB]), (by rw [HG]; exact hB3.weak (by intro g hg; have h3 : ((R g) ∧ g < w.heap.size) := hg; exact h3.1)), (by rw [HG]; exact hm_3), HU⟩
        · have HB := gbytes_long (bs := bs) (p := p + 8) (k := (gword bs (p + 4)).1) (by omega) (by omega)
          refine Wl_call (r_call3 rfl Try.call55 (v1 := .int .i64 ((p + 8 : Nat) : Int)) rfl (Eq.trans (b := .int .i64 (((gword bs (p + 4)).2.1 : Nat) : Int)) rfl (vint (by omega))) rfl) (rbytes_spec _ hs hb (by omega) (by omega)) ?_
          rintro v w4 ⟨a4, m4, c4, rfl, hB4, hm_4, hU4⟩
          have hzw4 := hU4.size
          replace hs := hs.upd0 hU4
          replace HU := HU.trans0 hU4
          have hl_hB4 := ilen hB4
          have hc_hB4 := hB4.cap.1
          refine Wl_v (r_mv (v := .tuple #[.slice a4 m4 c4, .int .i64 (((gbytes bs (p + 8) ((gword bs (p + 4)).1)).2.1 : Nat) : Int), .int .i64 ((gbytes bs (p + 8) ((gword bs (p + 4)).1)).2.2)]) rfl) ?_
          refine Wl_v (r_ext (v := .slice a4 m4 c4) rfl rfl) ?_
          refine Wl_v (r_ext (v := .int .i64 (((gbytes bs (p + 8) ((gword bs (p + 4)).1)).2.1 : Nat) : Int)) rfl rfl) ?_
          refine Wl_v (r_ext (v := .int .i64 ((gbytes bs (p + 8) ((gword bs (p + 4)).1)).2.2)) rfl rfl) ?_
          refine Wl_v (r_as (v := .slice a4 m4 c4) rfl) ?_
          refine Wl_v (r_as (v := .int .i64 (((gbytes bs (p + 8) ((gword bs (p + 4)).1)).2.1 : Nat) : Int)) rfl) ?_
          refine Wl_v (r_as (v := .int .i64 ((gbytes bs (p + 8) ((gword bs (p + 4)).1)).2.2)) rfl) ?_
          refine Wl_nil ?_
          refine W_seq ?_
          refine W_seq ?_
          refine W_region ?_
          refine Wl_v (r_mv (v := .int .i64 ((gbytes bs (p + 8) ((gword bs (p + 4)).1)).2.2)) rfl) ?_
          refine Wl_v (r_ne rfl rfl) ?_
          refine Wl_nil ?_
          have q6 : ((gbytes bs (p + 8) ((gword bs (p + 4)).1)).2.2) ≠ 0 := (by rw [HB]; show (3 : Int) ≠ 0; decide)
          rw [decide_eq_true q6]
          refine W_cond_t rfl ?_
          refine W_seq ?_
          refine W_region ?_
          refine Wl_v (r_mv (v := .int .i64 ((p : Nat) : Int)) rfl) ?_
          refine Wl_v (r_mv (v := .int .i64 ((gbytes bs (p + 8) ((gword bs (p + 4)).1)).2.2)) rfl) ?_
          refine Wl_v (r_as (v := .slice none 0 0) rfl) ?_
          refine Wl_v (r_as (v := .int .i64 ((p : Nat) : Int)) rfl) ?_
          refine Wl_v (r_as (v := .int .i64 ((gbytes bs (p + 8) ((gword bs (p + 4)).1)).2.2)) rfl) ?_
          refine Wl_nil ?_
          refine W_ret ?_
          refine ret_end (v := .tuple #[.slice none 0 0, .int .i64 ((p : Nat) : Int), .int .i64 ((gbytes bs (p + 8) ((gword bs (p + 4)).1)).2.2)]) rfl (res3 Try.results33 rfl rfl rfl) ?_
          have HB := gbytes_long (bs := bs) (p := p + 8) (k := (gword bs (p + 4)).1) (by omega) (by omega)
          have HG := gs_err (Classical.not_not.1 q1) (by omega) (Classical.not_not.1 q3) (by rw [HB]; show (3 : Int) ≠ 0; decide)
          rw [HB] at HG
          exact ⟨_, rfl, none, 0, 0, vtup3 rfl (vint (by rw [HG]; first | done | rfl | (simp [HB]; done) | (dsimp only; omega))) (by rw [HG]; first | done | rfl | simp [HB]), (by rw [HG]; exact Sl.nil _ _ _), (by rw [HG]; rfl), HU⟩

set_option maxRecDepth 100000 in
theorem get_nil  (w : World)  :
    Calls Try.prog 26 #[.pointer none] w (Ret fun v w' => v = .tuple #[.agg #[.int .i64 0, .int .i64 0, .int .u32 0, .bool false], .int .i64 1] ∧ Upd No w w') := by
  have HU : Upd (fun b => False) w w := Upd.refl _ _
  refine calls_of_W Try.func26 rfl Try.ntmps26 (by simp) ?_
  refine W_seq ?_
  refine W_region ?_
  refine Wl_alloc (cs := [.int .i64 0, .int .i64 0, .int .u32 0, .bool false]) Try.zeroValue34 rfl ?_
  intro B1 w1 hB1 hU1 hzz1 hb1
  have hzw1 := hU1.size
  replace HU := HU.trans0 hU1
  refine Wl_v (r_as (v := .int .i64 0) rfl) ?_
  refine Wl_nil ?_
  refine W_scope ?_
  refine W_seq ?_
  refine W_region ?_
  refine Wl_v (r_mv (v := .pointer none) rfl) ?_
  refine Wl_call (r_call1 rfl Try.call29 rfl) (isf_nil _ ) ?_
  rintro v w2 ⟨rfl, hU2⟩
  have hzw2 := hU2.size
  replace HU := HU.trans0 hU2
  replace hb1 := hb1.upd0 hU2
  refine Wl_v (r_mv (v := .tuple #[.bool false, .int .i64 1]) rfl) ?_
  refine Wl_v (r_ext (v := .bool false) rfl rfl) ?_
  refine Wl_v (r_ext (v := .int .i64 1) rfl rfl) ?_
  refine Wl_v (r_as (v := .bool false) rfl) ?_
  refine Wl_v (r_as (v := .int .i64 1) rfl) ?_
  refine Wl_nil ?_
  refine W_seq ?_
  refine W_seq ?_
  refine W_region ?_
  refine Wl_v (r_mv (v := .int .i64 1) rfl) ?_
  refine Wl_v (v := .bool false) (r_eq (a := 1) (b := 0) rfl rfl) ?_
  refine Wl_v (r_mv (v := .bool false) rfl) ?_
  refine Wl_guard_f rfl ?_
  refine Wl_guard_f rfl ?_
  refine Wl_v (r_pick_f (v := .bool false) rfl rfl) ?_
  refine Wl_nil ?_
  refine W_cond_f rfl ?_
  refine W_skip ?_
  refine W_seq ?_
  refine W_seq ?_
  refine W_region ?_
  refine Wl_v (r_mv (v := .int .i64 1) rfl) ?_
  refine Wl_v (v := .bool true) (r_ne (a := 1) (b := 0) rfl rfl) ?_
  refine Wl_nil ?_
  refine W_cond_t rfl ?_
  refine W_seq ?_
  refine W_region ?_
  refine Wl_v (r_build (pl := #[(0, 1), (1, 1), (2, 1), (3, 1)]) (pv := []) (cs := #[.int .i64 0, .int .i64 0, .int .u32 0, .bool false]) Try.zeroValue34 Try.underlying34 (fun w => by kernel_rfl) (by simp only [List.map_toArray, List.map_cons, List.map_nil] <;> rfl) (by kernel_rfl)) ?_
  refine Wl_v (r_mv (v := .int .i64 1) rfl) ?_
  refine Wl_storea (off := 0) (vs := [.int .i64 0, .int .i64 0, .int .u32 0, .bool false]) (cs' := [.int .i64 0, .int .i64 0, .int .u32 0, .bool false]) Try.sizeOf34 rfl rfl rfl (by simp only [List.mem_cons, List.not_mem_nil, or_false, forall_eq_or_imp, forall_eq]; exact ⟨rfl, rfl, rfl, rfl⟩) hb1 (by simp) rfl ?_
  intro w3 hU3 hzz3 hb1n
  replace hb1 := hb1n; clear hb1n
  have hzw3 := hU3.size
  replace HU := HU.trans1 hU3 (by show (False) ∨ w.heap.size ≤ B1; omega)
  refine Wl_v (r_as (v := .int .i64 1) rfl) ?_
  refine Wl_nil ?_
  refine W_ret ?_
  refine ret_end (v := .tuple #[.agg #[.int .i64 0, .int .i64 0, .int .u32 0, .bool false], .int .i64 1]) rfl (rm_ct Try.results26 rfl rfl (cellAgg Try.isAgg34 Try.sizeOf34 rfl hb1)) ?_
  exact ⟨_, rfl, rfl, HU⟩

set_option maxRecDepth 100000 in
theorem payload_nil  (w : World)  :
    Calls Try.prog 31 #[.pointer none] w (Ret fun v w' => v = .tuple #[.slice none 0 0, .int .i64 1] ∧ Upd No w w') := by
  have HU : Upd (fun b => False) w w := Upd.refl _ _
  refine calls_of_W Try.func31 rfl Try.ntmps31 (by simp) ?_
  refine W_seq ?_
  refine W_region ?_
  refine Wl_v (r_as (v := .slice none 0 0) rfl) ?_
  refine Wl_v (r_as (v := .int .i64 0) rfl) ?_
  refine Wl_nil ?_
  refine W_seq ?_
  refine W_region ?_
  refine Wl_v (r_mv (v := .pointer none) rfl) ?_
  refine Wl_call (r_call1 rfl Try.call29 rfl) (isf_nil _ ) ?_
  rintro v w1 ⟨rfl, hU1⟩
  have hzw1 := hU1.size
  replace HU := HU.trans0 hU1
  refine Wl_v (r_mv (v := .tuple #[.bool false, .int .i64 1]) rfl) ?_
  refine Wl_v (r_ext (v := .bool false) rfl rfl) ?_
  refine Wl_v (r_ext (v := .int .i64 1) rfl rfl) ?_
  refine Wl_v (r_as (v := .bool false) rfl) ?_
  refine Wl_v (r_as (v := .int .i64 1) rfl) ?_
  refine Wl_nil ?_
  refine W_seq ?_
  refine W_seq ?_
  refine W_region ?_
  refine Wl_v (r_mv (v := .int .i64 1) rfl) ?_
  refine Wl_v (v := .bool false) (r_eq (a := 1) (b := 0) rfl rfl) ?_
  refine Wl_v (r_mv (v := .bool false) rfl) ?_
  refine Wl_guard_f rfl ?_
  refine Wl_v (r_pick_f (v := .bool false) rfl rfl) ?_
  refine Wl_nil ?_
  refine W_cond_f rfl ?_
  refine W_skip ?_
  refine W_seq ?_
  refine W_seq ?_
  refine W_region ?_
  refine Wl_v (r_mv (v := .int .i64 1) rfl) ?_
  refine Wl_v (v := .bool true) (r_ne (a := 1) (b := 0) rfl rfl) ?_
  refine Wl_nil ?_
  refine W_cond_t rfl ?_
  refine W_seq ?_
  refine W_region ?_
  refine Wl_v (r_mv (v := .int .i64 1) rfl) ?_
  refine Wl_v (r_as (v := .slice none 0 0) rfl) ?_
  refine Wl_v (r_as (v := .int .i64 1) rfl) ?_
  refine Wl_nil ?_
  refine W_ret ?_
  refine ret_end (v := .tuple #[.slice none 0 0, .int .i64 1]) rfl (res2 Try.results31 rfl rfl) ?_
  exact ⟨_, rfl, rfl, HU⟩

theorem get_at {pb : Nat} {a : Option Addr} {n c p : Nat} {bs : List Int} {wz sz dn : Int} {sm : Bool} {q : Nat} {er : Int} (w : World) (hp : Blk w pb [.slice a n c, .int .i64 ((p : Nat) : Int)]) (hs : Sl w (fun g => g < w.heap.size ∧ g ≠ pb) 1 (.slice a n c) n (ints .u8 bs)) (hb : Byt bs) (hpn : p ≤ n) (hn : n ≤ 140737488355328) (hg : ghead bs p = ((wz, sz, dn, sm), q, er)) :
    Calls Try.prog 26 #[.pointer (some ⟨pb, 0, none⟩)] w (Ret fun v w' => v = .tuple #[.agg #[.int .i64 wz, .int .i64 sz, .int .u32 dn, .bool (decide (sm = true))], .int .i64 er] ∧ Blk w' pb [.slice a n c, .int .i64 ((q : Nat) : Int)] ∧ Upd (Is pb) w w') := by
  have h := get_spec w hp hs hb hpn hn
  rw [hg] at h
  exact h

theorem payload_at {pb : Nat} {a : Option Addr} {n c p : Nat} {bs : List Int} {ks : List Int} {q : Nat} {er : Int} (w : World) (hp : Blk w pb [.slice a n c, .int .i64 ((p : Nat) : Int)]) (hs : Sl w (fun g => g < w.heap.size ∧ g ≠ pb) 1 (.slice a n c) n (ints .u8 bs)) (hb : Byt bs) (hpn : p ≤ n) (hn : n ≤ 140737488355328) (hg : gskip bs p = (ks, q, er)) :
    Calls Try.prog 31 #[.pointer (some ⟨pb, 0, none⟩)] w (Ret fun v w' => ∃ a' m' c', v = .tuple #[.slice a' m' c', .int .i64 er] ∧ Blk w' pb [.slice a n c, .int .i64 ((q : Nat) : Int)] ∧ Own w' (Ge w.heap.size) 5 1 (.slice a' m' c') m' (ints .u8 ks) ∧ ks.length = m' ∧ Upd (Is pb) w w') := by
  have h := payload_spec w hp hs hb hpn hn
  rw [hg] at h
  exact h

set_option maxHeartbeats 2000000 in
set_option maxRecDepth 100000 in
theorem known_spec  (w : World)  :
    Calls Try.prog 16 #[] w (Ret fun v w' => v = .bool true ∧ Upd No w w') := by
  have HU : Upd (fun b => False) w w := Upd.refl _ _
  refine calls_of_W Try.func16 rfl Try.ntmps16 (by simp) ?_
  refine W_seq ?_
  refine W_region ?_
  refine Wl_v (r_as (v := .bool false) rfl) ?_
  refine Wl_nil ?_
  refine W_seq ?_
  refine W_region ?_
  have q1 : 1 ≤ 136 := (by decide)
  refine Wl_call (r_call1 rfl Try.call13 rfl) (window_ok _ (by omega)) ?_
  rintro v w1 ⟨rfl, hU1⟩
  have hzw1 := hU1.size
  replace HU := HU.trans0 hU1
  refine Wl_v (r_mv (v := .tuple #[.int .i64 (hw 1), .int .i64 0]) rfl) ?_
  refine Wl_v (r_ext (v := .int .i64 (hw 1)) rfl rfl) ?_
  refine Wl_v (r_ext (v := .int .i64 0) rfl rfl) ?_
  refine Wl_v (r_as (v := .int .i64 (hw 1)) rfl) ?_
  refine Wl_v (r_as (v := .int .i64 0) rfl) ?_
  refine Wl_nil ?_
  refine W_seq ?_
  refine W_region ?_
  have q2 : 136 ≤ 136 := (by decide)
  refine Wl_call (r_call1 rfl Try.call13 rfl) (window_ok _ (by omega)) ?_
  rintro v w2 ⟨rfl, hU2⟩
  have hzw2 := hU2.size
  replace HU := HU.trans0 hU2
  refine Wl_v (r_mv (v := .tuple #[.int .i64 (hw 136), .int .i64 0]) rfl) ?_
  refine Wl_v (r_ext (v := .int .i64 (hw 136)) rfl rfl) ?_
  refine Wl_v (r_ext (v := .int .i64 0) rfl rfl) ?_
  refine Wl_v (r_as (v := .int .i64 (hw 136)) rfl) ?_
  refine Wl_v (r_as (v := .int .i64 0) rfl) ?_
  refine Wl_nil ?_
  refine W_seq ?_
  refine W_region ?_
  have q3 : ¬ (137 ≤ 136) := (by decide)
  refine Wl_call (r_call1 rfl Try.call13 rfl) (window_no _ (by omega)) ?_
  rintro v w3 ⟨rfl, hU3⟩
  have hzw3 := hU3.size
  replace HU := HU.trans0 hU3
  refine Wl_v (r_mv (v := .tuple #[.int .i64 0, .int .i64 7]) rfl) ?_
  refine Wl_v (r_ext (v := .int .i64 0) rfl rfl) ?_
  refine Wl_v (r_ext (v := .int .i64 7) rfl rfl) ?_
  refine Wl_v (r_as (v := .int .i64 0) rfl) ?_
  refine Wl_v (r_as (v := .int .i64 7) rfl) ?_
  refine Wl_nil ?_
  refine W_seq ?_
  refine W_region ?_
  refine Wl_v (r_build (pl := #[(0, 1), (1, 1), (2, 1), (3, 1)]) (pv := [(0, .int .i64 1024), (1, .int .i64 (-1))]) (cs := #[.int .i64 1024, .int .i64 (-1), .int .u32 0, .bool false]) Try.zeroValue34 Try.underlying34 (fun w => by kernel_rfl) (by simp only [List.map_toArray, List.map_cons, List.map_nil] <;> rfl) (by kernel_rfl)) ?_
  have q4 : Hv 1024 (-1) := (by decide +kernel)
  refine Wl_call (r_call1 rfl Try.call18 rfl) (put_ok (sm := false) _ (by omega) (by omega) (by omega) (by omega)) ?_
  rintro v w4 ⟨a4, m4, c4, rfl, hO4, hm_4, hU4⟩
  have hzw4 := hU4.size
  replace HU := HU.trans0 hU4
  replace hO4 := hO4.tight
  have hl_hO4 := ilen hO4.sl
  have hc_hO4 := hO4.sl.cap.1
  refine Wl_v (r_mv (v := .tuple #[.slice a4 m4 c4, .int .i64 0]) rfl) ?_
  refine Wl_v (r_ext (v := .slice a4 m4 c4) rfl rfl) ?_
  refine Wl_v (r_ext (v := .int .i64 0) rfl rfl) ?_
  refine Wl_v (r_as (v := .slice a4 m4 c4) rfl) ?_
  refine Wl_v (r_as (v := .int .i64 0) rfl) ?_
  refine Wl_nil ?_
  refine W_seq ?_
  refine W_region ?_
  refine Wl_lit (pv := [(0, .int .u8 80), (1, .int .u8 77), (2, .int .u8 84), (3, .int .u8 30), (4, .int .u8 8), (5, .int .u8 0)]) (cs := [.int .u8 80, .int .u8 77, .int .u8 84, .int .u8 30, .int .u8 8, .int .u8 0]) Try.underlying35 Try.sizeOf5 Try.zeroValue5 (by decide) (by decide) (by simp only [List.map_toArray, List.map_cons, List.map_nil] <;> rfl) (by kernel_rfl) rfl (by decide) ?_
  intro B5 w5 hB5 hU5 hzz5 hs5
  have hzw5 := hU5.size
  replace HU := HU.trans0 hU5
  replace hO4 := hO4.upd0 hU5
  replace hs5 : Own w5 (Is B5) 5 1 (.slice (some ⟨B5, 0, none⟩) 6 6) 6 (ints .u8 [80, 77, 84, 30, 8, 0]) := hs5
  refine Wl_call (r_call1 rfl Try.call23 rfl) (new_spec _ hs5.sl.any (by omega)) ?_
  rintro v w6 ⟨pb6, a6, c6, rfl, hp6, hO6, hpg_6, hU6⟩
  have hzw6 := hU6.size
  replace HU := HU.trans0 hU6
  replace hO4 := hO4.upd0 hU6
  replace hs5 := hs5.upd0 hU6
  have hbl_hp6 := hp6.lt
  replace hO6 := hO6.tight
  have hl_hO6 := ilen hO6.sl
  have hc_hO6 := hO6.sl.cap.1
  refine Wl_call (r_call1 rfl Try.call26 rfl) (get_at (wz := 0) (sz := 0) (dn := 0) (sm := false) (q := 0) (er := 7) (p := 0) _ hp6 (hO6.sl.cur (by intro h1; have h3 : ((w5.heap.size ≤ pb6 ∧ pb6 ≠ pb6) ∧ pb6 < w6.heap.size) := h1; first | omega | simp at h3)) (by intro x hx; simp at hx; omega) (by omega) (by omega) (by decide +kernel)) ?_
  rintro v w7 ⟨rfl, hp7, hU7⟩
  have hzw7 := hU7.size
  replace HU := HU.trans1 hU7 (by show (False) ∨ w.heap.size ≤ pb6; omega)
  replace hO4 := hO4.upd1 hU7 (by intro h1; have h3 : ((w3.heap.size ≤ pb6) ∧ pb6 < w4.heap.size) := h1; omega)
  replace hs5 := hs5.upd1 hU7 (by intro h1; have h3 : pb6 = B5 := h1; omega)
  replace hO6 := hO6.upd1 hU7 (by intro h1; have h3 : ((w5.heap.size ≤ pb6 ∧ pb6 ≠ pb6) ∧ pb6 < w6.heap.size) := h1; omega)
  have hbl_hp7 := hp7.lt
  refine Wl_v (r_mv (v := .tuple #[.agg #[.int .i64 0, .int .i64 0, .int .u32 0, .bool (decide (false = true))], .int .i64 7]) rfl) ?_
  refine Wl_v (r_ext (v := .agg #[.int .i64 0, .int .i64 0, .int .u32 0, .bool (decide (false = true))]) rfl rfl) ?_
  refine Wl_v (r_ext (v := .int .i64 7) rfl rfl) ?_
  refine Wl_alloc (cs := [.int .i64 0, .int .i64 0, .int .u32 0, .bool false]) Try.zeroValue34 rfl ?_
  intro B8 w8 hB8 hU8 hzz8 hb8
  have hzw8 := hU8.size
  replace HU := HU.trans0 hU8
  replace hO4 := hO4.upd0 hU8
  replace hs5 := hs5.upd0 hU8
  replace hO6 := hO6.upd0 hU8
  replace hp7 := hp7.upd0 hU8
  refine Wl_storea (off := 0) (vs := [.int .i64 0, .int .i64 0, .int .u32 0, .bool (decide (false = true))]) (cs' := [.int .i64 0, .int .i64 0, .int .u32 0, .bool (decide (false = true))]) Try.sizeOf34 rfl rfl rfl (by simp only [List.mem_cons, List.not_mem_nil, or_false, forall_eq_or_imp, forall_eq]; exact ⟨rfl, rfl, rfl, rfl⟩) hb8 (by simp) rfl ?_
  intro w9 hU9 hzz9 hb8n
  replace hb8 := hb8n; clear hb8n
  have hzw9 := hU9.size
  replace HU := HU.trans1 hU9 (by show (False) ∨ w.heap.size ≤ B8; omega)
  replace hO4 := hO4.upd1 hU9 (by intro h1; have h3 : ((w3.heap.size ≤ B8) ∧ B8 < w4.heap.size) := h1; omega)
  replace hs5 := hs5.upd1 hU9 (by intro h1; have h3 : B8 = B5 := h1; omega)
  replace hO6 := hO6.upd1 hU9 (by intro h1; have h3 : ((w5.heap.size ≤ B8 ∧ B8 ≠ pb6) ∧ B8 < w6.heap.size) := h1; omega)
  replace hp7 := hp7.upd1 hU9 (by omega)
  refine Wl_v (r_as (v := .int .i64 7) rfl) ?_
  refine Wl_nil ?_
  refine W_seq ?_
  refine W_region ?_
  refine Wl_lit (pv := [(0, .int .u8 80), (1, .int .u8 77), (2, .int .u8 84), (3, .int .u8 83)]) (cs := [.int .u8 80, .int .u8 77, .int .u8 84, .int .u8 83]) Try.underlying35 Try.sizeOf5 Try.zeroValue5 (by decide) (by decide) (by simp only [List.map_toArray, List.map_cons, List.map_nil] <;> rfl) (by kernel_rfl) rfl (by decide) ?_
  intro B10 w10 hB10 hU10 hzz10 hs10
  have hzw10 := hU10.size
  replace HU := HU.trans0 hU10
  replace hO4 := hO4.upd0 hU10
  replace hs5 := hs5.upd0 hU10
  replace hO6 := hO6.upd0 hU10
  replace hp7 := hp7.upd0 hU10
  replace hb8 := hb8.upd0 hU10
  replace hs10 : Own w10 (Is B10) 5 1 (.slice (some ⟨B10, 0, none⟩) 4 4) 4 (ints .u8 [80, 77, 84, 83]) := hs10
  refine Wl_cvtsl Try.underlying35 Try.underlying5 rfl hs10 ?_
  intro w11 hU11 hzz11 hT11
  clear hs10
  have hzw11 := hU11.size
  replace HU := HU.trans1 hU11 (by show (False) ∨ w.heap.size ≤ B10; omega)
  replace hO4 := hO4.upd1 hU11 (by intro h1; have h3 : ((w3.heap.size ≤ B10) ∧ B10 < w4.heap.size) := h1; omega)
  replace hs5 := hs5.upd1 hU11 (by intro h1; have h3 : B10 = B5 := h1; omega)
  replace hO6 := hO6.upd1 hU11 (by intro h1; have h3 : ((w5.heap.size ≤ B10 ∧ B10 ≠ pb6) ∧ B10 < w6.heap.size) := h1; omega)
  replace hp7 := hp7.upd1 hU11 (by omega)
  replace hb8 := hb8.upd1 hU11 (by omega)
  refine Wl_call (r_call1 rfl Try.call23 rfl) (new_spec _ hT11.any (by omega)) ?_
  rintro v w12 ⟨pb12, a12, c12, rfl, hp12, hO12, hpg_12, hU12⟩
  have hzw12 := hU12.size
  replace HU := HU.trans0 hU12
  replace hO4 := hO4.upd0 hU12
  replace hs5 := hs5.upd0 hU12
  replace hO6 := hO6.upd0 hU12
  replace hp7 := hp7.upd0 hU12
  replace hb8 := hb8.upd0 hU12
  replace hT11 := hT11.upd0 hU12
  have hbl_hp12 := hp12.lt
  replace hO12 := hO12.tight
  have hl_hO12 := ilen hO12.sl
  have hc_hO12 := hO12.sl.cap.1
  refine Wl_call (r_call1 rfl Try.call26 rfl) (get_at (wz := 0) (sz := 0) (dn := 0) (sm := false) (q := 0) (er := 6) (p := 0) _ hp12 (hO12.sl.cur (by intro h1; have h3 : ((w11.heap.size ≤ pb12 ∧ pb12 ≠ pb12) ∧ pb12 < w12.heap.size) := h1; first | omega | simp at h3)) (by intro x hx; simp at hx; omega) (by omega) (by omega) (by decide +kernel)) ?_
  rintro v w13 ⟨rfl, hp13, hU13⟩
  have hzw13 := hU13.size
  replace HU := HU.trans1 hU13 (by show (False) ∨ w.heap.size ≤ pb12; omega)
  replace hO4 := hO4.upd1 hU13 (by intro h1; have h3 : ((w3.heap.size ≤ pb12) ∧ pb12 < w4.heap.size) := h1; omega)
  replace hs5 := hs5.upd1 hU13 (by intro h1; have h3 : pb12 = B5 := h1; omega)
  replace hO6 := hO6.upd1 hU13 (by intro h1; have h3 : ((w5.heap.size ≤ pb12 ∧ pb12 ≠ pb6) ∧ pb12 < w6.heap.size) := h1; omega)
  replace hp7 := hp7.upd1 hU13 (by omega)
  replace hb8 := hb8.upd1 hU13 (by omega)
  replace hT11 := hT11.upd1 hU13 (by intro h1; have h3 : pb12 = B10 := h1; omega)
  replace hO12 := hO12.upd1 hU13 (by intro h1; have h3 : ((w11.heap.size ≤ pb12 ∧ pb12 ≠ pb12) ∧ pb12 < w12.heap.size) := h1; omega)
  have hbl_hp13 := hp13.lt
  refine Wl_v (r_mv (v := .tuple #[.agg #[.int .i64 0, .int .i64 0, .int .u32 0, .bool (decide (false = true))], .int .i64 6]) rfl) ?_
  refine Wl_v (r_ext (v := .agg #[.int .i64 0, .int .i64 0, .int .u32 0, .bool (decide (false = true))]) rfl rfl) ?_
  refine Wl_v (r_ext (v := .int .i64 6) rfl rfl) ?_
  refine Wl_alloc (cs := [.int .i64 0, .int .i64 0, .int .u32 0, .bool false]) Try.zeroValue34 rfl ?_
  intro B14 w14 hB14 hU14 hzz14 hb14
  have hzw14 := hU14.size
  replace HU := HU.trans0 hU14
  replace hO4 := hO4.upd0 hU14
  replace hs5 := hs5.upd0 hU14
  replace hO6 := hO6.upd0 hU14
  replace hp7 := hp7.upd0 hU14
  replace hb8 := hb8.upd0 hU14
  replace hT11 := hT11.upd0 hU14
  replace hO12 := hO12.upd0 hU14
  replace hp13 := hp13.upd0 hU14
  refine Wl_storea (off := 0) (vs := [.int .i64 0, .int .i64 0, .int .u32 0, .bool (decide (false = true))]) (cs' := [.int .i64 0, .int .i64 0, .int .u32 0, .bool (decide (false = true))]) Try.sizeOf34 rfl rfl rfl (by simp only [List.mem_cons, List.not_mem_nil, or_false, forall_eq_or_imp, forall_eq]; exact ⟨rfl, rfl, rfl, rfl⟩) hb14 (by simp) rfl ?_
  intro w15 hU15 hzz15 hb14n
  replace hb14 := hb14n; clear hb14n
  have hzw15 := hU15.size
  replace HU := HU.trans1 hU15 (by show (False) ∨ w.heap.size ≤ B14; omega)
  replace hO4 := hO4.upd1 hU15 (by intro h1; have h3 : ((w3.heap.size ≤ B14) ∧ B14 < w4.heap.size) := h1; omega)
  replace hs5 := hs5.upd1 hU15 (by intro h1; have h3 : B14 = B5 := h1; omega)
  replace hO6 := hO6.upd1 hU15 (by intro h1; have h3 : ((w5.heap.size ≤ B14 ∧ B14 ≠ pb6) ∧ B14 < w6.heap.size) := h1; omega)
  replace hp7 := hp7.upd1 hU15 (by omega)
  replace hb8 := hb8.upd1 hU15 (by omega)
  replace hT11 := hT11.upd1 hU15 (by intro h1; have h3 : B14 = B10 := h1; omega)
  replace hO12 := hO12.upd1 hU15 (by intro h1; have h3 : ((w11.heap.size ≤ B14 ∧ B14 ≠ pb12) ∧ B14 < w12.heap.size) := h1; omega)
  replace hp13 := hp13.upd1 hU15 (by omega)
  refine Wl_v (r_as (v := .int .i64 6) rfl) ?_
  refine Wl_nil ?_
  refine W_seq ?_
  refine W_region ?_
  refine Wl_v (r_mv (v := .int .i64 (hw 1)) rfl) ?_
  refine Wl_v (r_eq rfl rfl) ?_
  refine Wl_v (r_mv (v := .bool (decide ((hw 1) = 1152))) rfl) ?_
  have q5 : (hw 1) = 1152 := (by decide +kernel)
  rw [decide_eq_true q5]
  refine Wl_guard_t rfl ?_
  refine Wl_v (r_mv (v := .int .i64 0) rfl) ?_
  refine Wl_guard_t rfl ?_
  refine Wl_v (v := .bool true) (r_eq (a := 0) (b := 0) rfl rfl) ?_
  refine Wl_v (r_pick_t (v := .bool true) rfl rfl) ?_
  refine Wl_v (r_mv (v := .bool true) rfl) ?_
  refine Wl_guard_t rfl ?_
  refine Wl_v (r_mv (v := .int .i64 (hw 136)) rfl) ?_
  refine Wl_guard_t rfl ?_
  refine Wl_v (r_eq rfl rfl) ?_
  refine Wl_v (r_pick_t (v := .bool (decide ((hw 136) = 134217728))) rfl rfl) ?_
  refine Wl_v (r_mv (v := .bool (decide ((hw 136) = 134217728))) rfl) ?_
  have q6 : (hw 136) = 134217728 := (by decide +kernel)
  rw [decide_eq_true q6]
  refine Wl_guard_t rfl ?_
  refine Wl_v (r_mv (v := .int .i64 0) rfl) ?_
  refine Wl_guard_t rfl ?_
  refine Wl_v (v := .bool true) (r_eq (a := 0) (b := 0) rfl rfl) ?_
  refine Wl_v (r_pick_t (v := .bool true) rfl rfl) ?_
  refine Wl_v (r_mv (v := .bool true) rfl) ?_
  refine Wl_guard_t rfl ?_
  refine Wl_v (r_mv (v := .int .i64 7) rfl) ?_
  refine Wl_guard_t rfl ?_
  refine Wl_v (v := .bool true) (r_eq (a := 7) (b := 7) rfl rfl) ?_
  refine Wl_v (r_pick_t (v := .bool true) rfl rfl) ?_
  refine Wl_v (r_mv (v := .bool true) rfl) ?_
  refine Wl_guard_t rfl ?_
  refine Wl_v (r_mv (v := .int .i64 0) rfl) ?_
  refine Wl_guard_t rfl ?_
  refine Wl_v (v := .bool true) (r_eq (a := 0) (b := 0) rfl rfl) ?_
  refine Wl_v (r_pick_t (v := .bool true) rfl rfl) ?_
  refine Wl_v (r_mv (v := .bool true) rfl) ?_
  refine Wl_guard_t rfl ?_
  refine Wl_v (r_mv (v := .slice a4 m4 c4) rfl) ?_
  refine Wl_guard_t rfl ?_
  refine Wl_lit (pv := [(0, .int .u8 80), (1, .int .u8 77), (2, .int .u8 84), (3, .int .u8 30), (4, .int .u8 0), (5, .int .u8 0)]) (cs := [.int .u8 80, .int .u8 77, .int .u8 84, .int .u8 30, .int .u8 0, .int .u8 0]) Try.underlying35 Try.sizeOf5 Try.zeroValue5 (by decide) (by decide) (by simp only [List.map_toArray, List.map_cons, List.map_nil] <;> rfl) (by kernel_rfl) rfl (by decide) ?_
  intro B16 w16 hB16 hU16 hzz16 hs16
  have hzw16 := hU16.size
  replace HU := HU.trans0 hU16
  replace hO4 := hO4.upd0 hU16
  replace hs5 := hs5.upd0 hU16
  replace hO6 := hO6.upd0 hU16
  replace hp7 := hp7.upd0 hU16
  replace hb8 := hb8.upd0 hU16
  replace hT11 := hT11.upd0 hU16
  replace hO12 := hO12.upd0 hU16
  replace hp13 := hp13.upd0 hU16
  replace hb14 := hb14.upd0 hU16
  replace hs16 : Own w16 (Is B16) 5 1 (.slice (some ⟨B16, 0, none⟩) 6 6) 6 (ints .u8 [80, 77, 84, 30, 0, 0]) := hs16
  refine Wl_guard_t rfl ?_
  refine Wl_call (r_call2 rfl Try.call21 rfl rfl) (same_spec _ hO4.sl.any hs16.sl.any (henc_byt (by decide +kernel) (by decide) (by decide)) (by intro x hx; simp at hx; omega)) ?_
  rintro v w17 ⟨rfl, hU17⟩
  have hzw17 := hU17.size
  replace HU := HU.trans0 hU17
  replace hO4 := hO4.upd0 hU17
  replace hs5 := hs5.upd0 hU17
  replace hO6 := hO6.upd0 hU17
  replace hp7 := hp7.upd0 hU17
  replace hb8 := hb8.upd0 hU17
  replace hT11 := hT11.upd0 hU17
  replace hO12 := hO12.upd0 hU17
  replace hp13 := hp13.upd0 hU17
  replace hb14 := hb14.upd0 hU17
  replace hs16 := hs16.upd0 hU17
  refine Wl_v (r_pick_t (v := .bool (decide ((henc 1024 (-1) 0 false) = [80, 77, 84, 30, 0, 0]))) rfl rfl) ?_
  refine Wl_v (r_mv (v := .bool (decide ((henc 1024 (-1) 0 false) = [80, 77, 84, 30, 0, 0]))) rfl) ?_
  have q7 : (henc 1024 (-1) 0 false) = [80, 77, 84, 30, 0, 0] := (by decide +kernel)
  rw [decide_eq_true q7]
  refine Wl_guard_t rfl ?_
  refine Wl_v (r_mv (v := .int .i64 7) rfl) ?_
  refine Wl_guard_t rfl ?_
  refine Wl_v (v := .bool true) (r_eq (a := 7) (b := 7) rfl rfl) ?_
  refine Wl_v (r_pick_t (v := .bool true) rfl rfl) ?_
  refine Wl_v (r_mv (v := .bool true) rfl) ?_
  refine Wl_guard_t rfl ?_
  refine Wl_v (r_mv (v := .int .i64 6) rfl) ?_
  refine Wl_guard_t rfl ?_
  refine Wl_v (v := .bool true) (r_eq (a := 6) (b := 6) rfl rfl) ?_
  refine Wl_v (r_pick_t (v := .bool true) rfl rfl) ?_
  refine Wl_v (r_as (v := .bool true) rfl) ?_
  refine Wl_nil ?_
  refine W_ret ?_
  refine ret_end (v := .bool true) rfl (res1 Try.results16 rfl) ?_
  exact ⟨_, rfl, rfl, HU⟩

end Go.Proofs.Ytflmjdnhjbiobaa
