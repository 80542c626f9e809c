/-
  Walks, printed by a small program of this project (gen.py).
-/
import Derived.Test.YtakbopikohghmaaXf
set_option linter.unusedVariables false
set_option linter.unusedSimpArgs false
namespace Go.Proofs.Ytakbopikohghmaa
open Go.Fw

theorem fc_clr {b0 : Nat} {xb0 : Value} (w : World) (hbb0 : Blk w b0 [xb0]) :
    Calls Try.prog 43 #[.pointer (some ⟨b0, 0, none⟩)] w (Ret fun v w' => v = .tuple #[] ∧ Blk w' b0 [.slice none 0 0] ∧ Upd (fun g => g = b0) w w') := by
  have HU : Upd (fun b => b = b0) w w := Upd.refl _ _
  have hlb0 := hbb0.lt
  refine calls_of_W Try.func43 rfl Try.ntmps43 (by simp) ?_
  refine W_region ?_
  refine Wl_store (v := .slice none 0 0) (cs' := [.slice none 0 0]) Try.sizeOf22 rfl rfl rfl rfl hbb0 rfl rfl ?_
  intro w1 hU1 hzz1 hbb0n
  replace hbb0 := hbb0n; clear hbb0n
  have hzw1 := hU1.size
  replace HU := HU.trans1 hU1 (by show (b0 = b0) ∨ w.heap.size ≤ b0; omega)
  refine Wl_nil ?_
  refine nrm_end (v := .tuple #[]) rfl (res0 Try.results43) ?_
  exact ⟨_, rfl, rfl, hbb0, HU⟩

theorem qbad_z {x : Int × Int} (h : x.1 = 0 ∧ x.2 = 0) : ¬ qbad x = true := by
  unfold qbad; rw [decide_eq_true_iff]; exact fun f => f.1 (Prod.ext h.1 h.2)
theorem qbad_nv {x : Int × Int} (h : ¬ (x.1 = 0 ∧ x.2 = 0)) : ¬ Vc x ↔ qbad x = true := by
  unfold qbad; rw [decide_eq_true_iff]; exact ⟨fun f => ⟨fun e => h ⟨congrArg Prod.fst e, congrArg Prod.snd e⟩, f⟩, fun f => f.2⟩

theorem fc_clo {x : Int × Int} (w : World)  :
    Calls Try.prog 44 #[.agg #[.int .i64 x.1, .int .u32 x.2]] w (Ret fun v w' => v = .bool (decide (qbad x = true)) ∧ Upd No w w') := by
  have HU : Upd (fun b => False) w w := Upd.refl _ _
  refine calls_of_W Try.func44 rfl Try.ntmps44 (by simp) ?_
  refine W_seq ?_
  refine W_region ?_
  refine Wl_box (v := .agg #[.int .i64 x.1, .int .u32 x.2]) (cs := [.int .i64 x.1, .int .u32 x.2]) rfl rfl ?_
  intro B1 w1 hB1 hU1 hzz1 hb1
  have hzw1 := hU1.size
  replace HU := HU.trans0 hU1
  refine Wl_v (r_as (v := .bool false) rfl) ?_
  refine Wl_nil ?_
  refine W_seq ?_
  refine W_region ?_
  refine Wl_v (r_loada (b := B1) (off := 0) (cs := [.int .i64 x.1, .int .u32 x.2]) Try.isAgg37 Try.sizeOf37 rfl rfl (fun j hj => by rw [hb1.cell]; match j, hj with | 0, _ => rfl | 1, _ => rfl)) ?_
  refine Wl_v (r_build (pl := #[(0, 1), (1, 1)]) (pv := []) (cs := #[.int .i64 0, .int .u32 0]) Try.zeroValue37 Try.underlying37 (fun w => by kernel_rfl) (by simp only [List.map_toArray, List.map_cons, List.map_nil] <;> rfl) (by kernel_rfl)) ?_
  refine Wl_v (r_neag (pp := x.1 = 0 ∧ x.2 = 0) Try.underlying37 (by kernel_rfl) (by kernel_rfl) rfl rfl (fun w => eqf_int (by decide) Try.underlying3 Try.isAgg3 rfl rfl (fun w => eqf_int (by decide) Try.underlying35 Try.isAgg35 rfl rfl (fun w => eqf_nil))) (by simp [Bool.decide_and])) ?_
  refine Wl_v (r_mv (v := .bool (!decide (x.1 = 0 ∧ x.2 = 0))) rfl) ?_
  by_cases q1 : x.1 = 0 ∧ x.2 = 0
  · rw [decide_eq_true q1]
    simp only [Bool.not_true, Bool.not_false]
    refine Wl_guard_f rfl ?_
    refine Wl_guard_f rfl ?_
    refine Wl_guard_f rfl ?_
    refine Wl_v (r_pick_f (v := .bool false) rfl rfl) ?_
    refine Wl_v (r_as (v := .bool false) rfl) ?_
    refine Wl_nil ?_
    refine W_ret ?_
    refine ret_end (v := .bool false) rfl (res1 Try.results44 rfl) ?_
    exact ⟨_, rfl, (by first | exact vboolf (qbad_z (by assumption)) | (rw [← decide_eq_decide.2 (qbad_nv (by assumption)), decide_not]; done)), HU⟩
  · rw [decide_eq_false q1]
    simp only [Bool.not_true, Bool.not_false]
    refine Wl_guard_t rfl ?_
    refine Wl_v (r_loada (b := B1) (off := 0) (cs := [.int .i64 x.1, .int .u32 x.2]) Try.isAgg37 Try.sizeOf37 rfl rfl (fun j hj => by rw [hb1.cell]; match j, hj with | 0, _ => rfl | 1, _ => rfl)) ?_
    refine Wl_guard_t rfl ?_
    refine Wl_call (r_call1 rfl Try.call45 rfl) (cright_spec _ ) ?_
    rintro v w2 ⟨rfl, hU2⟩
    have hzw2 := hU2.size
    replace HU := HU.trans0 hU2
    replace hb1 := hb1.upd0 hU2
    refine Wl_guard_t rfl ?_
    refine Wl_v (r_not rfl) ?_
    refine Wl_v (r_pick_t (v := .bool (!decide (Vc x))) rfl rfl) ?_
    refine Wl_v (r_as (v := .bool (!decide (Vc x))) rfl) ?_
    refine Wl_nil ?_
    refine W_ret ?_
    refine ret_end (v := .bool (!decide (Vc x))) rfl (res1 Try.results44 rfl) ?_
    exact ⟨_, rfl, (by first | exact vboolf (qbad_z (by assumption)) | (rw [← decide_eq_decide.2 (qbad_nv (by assumption)), decide_not]; done)), HU⟩

theorem fromcodes_spec {a : Option Addr} {n c : Nat} {cs : List (Int × Int)} {R : Nat → Prop} (w : World) (hs : Sl w R 2 (.slice a n c) n (rows encC cs)) (hn : n ≤ 17592186044415) :
    Calls Try.prog 24 #[.slice a n c] w (Ret fun v w' => ∃ (a' : Option Addr) (n' : Nat) (c' : Nat), v = .tuple #[.slice a' n' c', .int .i64 ((ofc cs).2)] ∧ Own w' (fun g => w.heap.size ≤ g) 3 1 (.slice a' n' c') n' (ints .i64 ((ofc cs).1)) ∧ Upd No w w') := by
  have HU : Upd (fun b => False) w w := Upd.refl _ _
  have hl_hs := rlen encC_len (by decide) hs
  have hc_hs := hs.cap.1
  replace hs := hs.tight
  refine calls_of_W Try.func24 rfl Try.ntmps24 (by simp) ?_
  refine W_seq ?_
  refine W_region ?_
  refine Wl_alloc (cs := [.slice none 0 0]) Try.zeroValue22 rfl ?_
  intro B1 w1 hB1 hU1 hzz1 hb1
  have hzw1 := hU1.size
  replace hs := hs.upd0 hU1
  replace HU := HU.trans0 hU1
  refine Wl_alloc (cs := [.int .i64 0]) Try.zeroValue26 rfl ?_
  intro B2 w2 hB2 hU2 hzz2 hb2
  have hzw2 := hU2.size
  replace hs := hs.upd0 hU2
  replace HU := HU.trans0 hU2
  replace hb1 := hb1.upd0 hU2
  refine Wl_nil ?_
  refine W_seq ?_
  refine W_region ?_
  refine Wl_v (r_mkf1 (v0 := .pointer (some ⟨B1, 0, none⟩)) rfl) ?_
  refine Wl_defer2 rfl rfl ?_
  refine Wl_nil ?_
  refine W_seq ?_
  refine W_region ?_
  refine Wl_v (r_mv (v := .slice a n c) rfl) ?_
  refine Wl_v (r_len Try.underlying28 rfl) ?_
  refine Wl_v (r_le rfl rfl) ?_
  refine Wl_v (r_mv (v := .slice a n c) rfl) ?_
  refine Wl_call (r_call2 rfl Try.call38 rfl rfl) (found_spec (q := qbad) (ar := fun y => #[y]) _ hs (by omega) Try.call44 (by intro x; first | rfl | (simp; rfl)) (fun i w' hi hN => fc_clo w')) ?_
  rintro v w3 ⟨rfl, hU3⟩
  have hzw3 := hU3.size
  replace hs := hs.upd0 hU3
  replace HU := HU.trans0 hU3
  replace hb1 := hb1.upd0 hU3
  replace hb2 := hb2.upd0 hU3
  refine Wl_v (r_lt rfl rfl) ?_
  by_cases q1 : ((n : Nat) : Int) ≤ 256
  · rw [decide_eq_true q1]
    by_cases q2 : (fidx (qbad) cs) < 0
    · rw [decide_eq_true q2]
      refine Wl_lit (pv := [(0, .bool true), (1, .bool true)]) (cs := [.bool true, .bool true]) Try.underlying78 Try.sizeOf4 Try.zeroValue4 (by decide) (by decide) (by simp only [List.map_toArray, List.map_cons, List.map_nil] <;> rfl) (by kernel_rfl) rfl (by decide) ?_
      intro B4 w4 hB4 hU4 hzz4 hs4
      have hzw4 := hU4.size
      replace hs := hs.upd0 hU4
      replace HU := HU.trans0 hU4
      replace hb1 := hb1.upd0 hU4
      replace hb2 := hb2.upd0 hU4
      replace hs4 : Own w4 (Is B4) 4 1 (.slice (some ⟨B4, 0, none⟩) 2 2) 2 (rows encB [true, true]) := hs4
      refine Wl_call (r_call2 rfl Try.call41 rfl rfl) (must_ok _ hs4.sl (by omega) (by rfl)) ?_
      rintro v w5 ⟨rfl, hU5⟩
      have hzw5 := hU5.size
      replace hs := hs.upd0 hU5
      replace HU := HU.trans0 hU5
      replace hb1 := hb1.upd0 hU5
      replace hb2 := hb2.upd0 hU5
      replace hs4 := hs4.upd0 hU5
      refine Wl_nil ?_
      refine W_seq ?_
      refine W_seq ?_
      refine W_region ?_
      refine Wl_v (r_mv (v := .slice a n c) rfl) ?_
      refine Wl_v (r_len Try.underlying28 rfl) ?_
      refine Wl_v (r_mv (v := .int .i64 0) rfl) ?_
      refine Wl_nil ?_
      refine W_block ?_
      have hBlt := hb1.lt
      refine W_loop (fun mu ρ ds w' => ∃ (k : Nat) (a2 : Option Addr) (c2 : Nat), n - k = mu ∧ ds = [{ target := .fn (.func 33) #[], args := #[.pointer (some ⟨B2, 0, none⟩), .func (.func 43) #[] #[.pointer (some ⟨B1, 0, none⟩)]] }] ∧ Liv ρ [(0, .slice a n c), (2, .pointer (some ⟨B1, 0, none⟩)), (3, .pointer (some ⟨B2, 0, none⟩)), (15, .slice a n c), (16, .int .i64 ((n : Nat) : Int)), (17, .int .i64 ((k : Nat) : Int))] ∧ k ≤ n ∧ Blk w' B1 [.slice a2 k c2] ∧ Own w' (fun g => w5.heap.size ≤ g) 3 1 (.slice a2 k c2) k (ints .i64 (lns (cs.take k))) ∧ Upd (Is B1) w5 w') _ ⟨0, none, 0, rfl, rfl, ⟨rfl, rfl, rfl, rfl, rfl, (by first | rfl | exact vint (by omega) | exact vint (by simp)), trivial⟩, (by omega), hb1, (Own.nil _ _ _ _), Upd.refl _ _⟩ ?_
      rintro m6 ρ6 ds6 w6 ⟨k, a2, c2, rfl, rfl, hl6, hk, hb1, hO, hU6⟩
      obtain ⟨ρ6x, rfl⟩ : ∃ ρx, ρ6 = upds ρx [(0, .slice a n c), (2, .pointer (some ⟨B1, 0, none⟩)), (3, .pointer (some ⟨B2, 0, none⟩)), (15, .slice a n c), (16, .int .i64 ((n : Nat) : Int)), (17, .int .i64 ((k : Nat) : Int))] := ⟨_, upds_self hl6⟩
      clear hl6
      have hzw6 := hU6.size
      replace hs := hs.upd1 hU6 (by intro h1; have h3 : ((R B1) ∧ B1 < w.heap.size) := h1; omega)
      replace HU := HU.trans1 hU6 (by show (False) ∨ w.heap.size ≤ B1; omega)
      replace hb2 := hb2.upd1 hU6 (by omega)
      replace hs4 := hs4.upd1 hU6 (by intro h1; have h3 : B1 = B4 := h1; omega)
      have HL6 := hU6
      refine W_seq ?_
      refine W_region ?_
      refine Wl_v (r_lt rfl rfl) ?_
      refine Wl_nil ?_
      refine W_seq ?_
      by_cases q3 : ((k : Nat) : Int) < ((n : Nat) : Int)
      · replace hO := hO.tight
        rw [decide_eq_true q3]
        refine W_cond_t rfl ?_
        refine W_skip ?_
        refine W_seq ?_
        refine W_block ?_
        refine W_seq ?_
        refine W_region ?_
        refine Wl_idxr (0, 0) encC_len (by decide) Try.underlying28 Try.sizeOf37 rfl rfl hs (by omega) (by omega) ?_
        intro ib7 io7 hc7
        try rw [Int.toNat_natCast] at hc7
        refine Wl_v (r_loada (cs := [.int .i64 ((cs.getD k (0, 0)).1), .int .u32 ((cs.getD k (0, 0)).2)]) Try.isAgg37 Try.sizeOf37 rfl rfl hc7) ?_
        refine Wl_alloc (cs := [.int .i64 0, .int .u32 0]) Try.zeroValue37 rfl ?_
        intro B8 w8 hB8 hU8 hzz8 hb8
        have hzw8 := hU8.size
        replace hs := hs.upd0 hU8
        replace HU := HU.trans0 hU8
        replace hb2 := hb2.upd0 hU8
        replace hs4 := hs4.upd0 hU8
        replace hb1 := hb1.upd0 hU8
        replace hO := hO.upd0 hU8
        replace HL6 := HL6.trans0 hU8
        refine Wl_storea (off := 0) (vs := [.int .i64 ((cs.getD k (0, 0)).1), .int .u32 ((cs.getD k (0, 0)).2)]) (cs' := [.int .i64 ((cs.getD k (0, 0)).1), .int .u32 ((cs.getD k (0, 0)).2)]) Try.sizeOf37 rfl rfl rfl (by simp only [List.mem_cons, List.not_mem_nil, or_false, forall_eq_or_imp, forall_eq]; exact ⟨rfl, rfl⟩) hb8 (by simp) rfl ?_
        intro w9 hU9 hzz9 hb8n
        replace hb8 := hb8n; clear hb8n
        have hzw9 := hU9.size
        replace hs := hs.upd1 hU9 (by intro h1; have h3 : ((R B8) ∧ B8 < w.heap.size) := h1; omega)
        replace HU := HU.trans1 hU9 (by show (False) ∨ w.heap.size ≤ B8; omega)
        replace hb2 := hb2.upd1 hU9 (by omega)
        replace hs4 := hs4.upd1 hU9 (by intro h1; have h3 : B8 = B4 := h1; omega)
        replace hb1 := hb1.upd1 hU9 (by omega)
        replace hO := hO.upd1 hU9 (by intro h1; have h3 : ((w5.heap.size ≤ B8) ∧ B8 < w6.heap.size) := h1; omega)
        replace HL6 := HL6.trans1 hU9 (by show (B8 = B1) ∨ w5.heap.size ≤ B8; omega)
        refine Wl_nil ?_
        refine W_region ?_
        refine Wl_load (v := .slice a2 k c2) Try.isAgg22 rfl hb1 rfl ?_
        refine Wl_v (r_fld Try.underlying37 rfl Try.sizeOf3 rfl rfl) ?_
        refine Wl_load (v := .int .i64 ((cs.getD k (0, 0)).1)) Try.isAgg3 rfl hb8 rfl ?_
        refine Wl_lit (pv := [(0, .int .i64 ((cs.getD k (0, 0)).1))]) (cs := [.int .i64 ((cs.getD k (0, 0)).1)]) Try.underlying22 Try.sizeOf3 Try.zeroValue3 (by decide) (by decide) (by simp only [List.map_toArray, List.map_cons, List.map_nil] <;> rfl) (by kernel_rfl) rfl (by decide) ?_
        intro B10 w10 hB10 hU10 hzz10 hs10
        have hzw10 := hU10.size
        replace hs := hs.upd0 hU10
        replace HU := HU.trans0 hU10
        replace hb2 := hb2.upd0 hU10
        replace hs4 := hs4.upd0 hU10
        replace hb1 := hb1.upd0 hU10
        replace hO := hO.upd0 hU10
        replace HL6 := HL6.trans0 hU10
        replace hb8 := hb8.upd0 hU10
        replace hs10 : Own w10 (Is B10) 3 1 (.slice (some ⟨B10, 0, none⟩) 1 1) 1 (ints .i64 [(cs.getD k (0, 0)).1]) := hs10
        refine Wl_appendi (xs := lns (cs.take k)) (ys := [(cs.getD k (0, 0)).1]) (zs := (lns (cs.take k)) ++ [(cs.getD k (0, 0)).1]) (k' := .i64) (tot := k + 1) (by first | rfl | simp) Try.underlying22 (ti := Try.t3) (z := .int .i64 0) (sz := 1) (by' := 8) rfl rfl rfl rfl rfl (by decide) rfl hO rfl hs10.sl  (by omega) (by simp only [maxLen]; omega) (by omega) ?_
        intro a11 c11 w11 hU11 hzz11 hO11
        clear hO
        have hzw11 := hU11.size
        replace hs := hs.upd hU11 (by intro x h1 h2; have h3 : ((R x) ∧ x < w.heap.size) := h1; have h4 : ((w5.heap.size ≤ x) ∧ x < w6.heap.size) := h2; omega)
        replace HU := HU.trans hU11 (by intro x hx; have hx2 : ((w5.heap.size ≤ x) ∧ x < w6.heap.size) := hx; show (False) ∨ w.heap.size ≤ x; omega)
        replace hb2 := hb2.upd hU11 (by intro hx; have hx2 : ((w5.heap.size ≤ B2) ∧ B2 < w6.heap.size) := hx; omega)
        replace hs4 := hs4.upd hU11 (by intro x h1 h2; have h3 : x = B4 := h1; have h4 : ((w5.heap.size ≤ x) ∧ x < w6.heap.size) := h2; omega)
        replace hb1 := hb1.upd hU11 (by intro hx; have hx2 : ((w5.heap.size ≤ B1) ∧ B1 < w6.heap.size) := hx; omega)
        replace HL6 := HL6.trans hU11 (by intro x hx; have hx2 : ((w5.heap.size ≤ x) ∧ x < w6.heap.size) := hx; show (x = B1) ∨ w5.heap.size ≤ x; omega)
        replace hb8 := hb8.upd hU11 (by intro hx; have hx2 : ((w5.heap.size ≤ B8) ∧ B8 < w6.heap.size) := hx; omega)
        replace hs10 := hs10.upd hU11 (by intro x h1 h2; have h3 : x = B10 := h1; have h4 : ((w5.heap.size ≤ x) ∧ x < w6.heap.size) := h2; omega)
        replace hO11 := hO11.tight
        have hl_hO11 := ilen hO11.sl
        have hc_hO11 := hO11.sl.cap.1
        refine Wl_store (v := .slice a11 (k + 1) c11) (cs' := [.slice a11 (k + 1) c11]) Try.sizeOf22 rfl rfl rfl rfl hb1 rfl rfl ?_
        intro w12 hU12 hzz12 hb1n
        replace hb1 := hb1n; clear hb1n
        have hzw12 := hU12.size
        replace hs := hs.upd1 hU12 (by intro h1; have h3 : ((R B1) ∧ B1 < w.heap.size) := h1; omega)
        replace HU := HU.trans1 hU12 (by show (False) ∨ w.heap.size ≤ B1; omega)
        replace hb2 := hb2.upd1 hU12 (by omega)
        replace hs4 := hs4.upd1 hU12 (by intro h1; have h3 : B1 = B4 := h1; omega)
        replace HL6 := HL6.trans1 hU12 (by show (B1 = B1) ∨ w5.heap.size ≤ B1; omega)
        replace hb8 := hb8.upd1 hU12 (by omega)
        replace hs10 := hs10.upd1 hU12 (by intro h1; have h3 : B1 = B10 := h1; omega)
        replace hO11 := hO11.upd1 hU12 (by intro h1; have h3 : ((((((w5.heap.size ≤ B1) ∧ B1 < w6.heap.size)) ∨ B1 = w10.heap.size)) ∧ B1 < w11.heap.size) := h1; omega)
        refine Wl_nil ?_
        refine W_region ?_
        refine Wl_v (r_add rfl rfl (wi64 (by omega) (by omega))) ?_
        refine Wl_v (r_mv (v := .int .i64 (((k : Nat) : Int) + 1)) rfl) ?_
        refine Wl_nil ?_
        refine ⟨_, ?_, (k + 1), a11, c11, rfl, rfl, ⟨rfl, rfl, rfl, rfl, rfl, (by first | rfl | exact vint (by omega) | exact vint (by simp)), trivial⟩, (by omega), hb1, ((hO11.weak (by intro g hg; have h3 : ((((((w5.heap.size ≤ g) ∧ g < w6.heap.size)) ∨ g = w10.heap.size)) ∧ g < w11.heap.size) := hg; show _ ≤ _; omega)).icong (lns_take cs (by omega)).symm), HL6⟩
        omega
      · replace hO := hO.tight
        have htk : lns (cs.take k) = lns cs := by rw [List.take_of_length_le (by omega)]
        rw [htk] at hO
        rw [decide_eq_false q3]
        refine W_cond_f rfl ?_
        refine W_exit ?_
        refine W_seq ?_
        refine W_region ?_
        refine Wl_load (v := .slice a2 k c2) Try.isAgg22 rfl hb1 rfl ?_
        by_cases q4 : Rt (lns cs)
        · refine Wl_call (r_call1 rfl Try.call35 rfl) (of_ok _ hO.sl (by omega) q4) ?_
          rintro v w13 ⟨rfl, hS13, hU13⟩
          have hzw13 := hU13.size
          replace hs := hs.upd0 hU13
          replace HU := HU.trans0 hU13
          replace hb2 := hb2.upd0 hU13
          replace hs4 := hs4.upd0 hU13
          replace hb1 := hb1.upd0 hU13
          replace hO := hO.upd0 hU13
          have hl_hS13 := ilen hS13
          have hc_hS13 := hS13.cap.1
          refine Wl_call (r_call1 rfl Try.call37 rfl) (codes_spec _ hS13 (by omega) q4) ?_
          rintro v w14 ⟨a14, c14, rfl, hO14, hU14⟩
          have hzw14 := hU14.size
          replace hs := hs.upd0 hU14
          replace HU := HU.trans0 hU14
          replace hb2 := hb2.upd0 hU14
          replace hs4 := hs4.upd0 hU14
          replace hb1 := hb1.upd0 hU14
          replace hO := hO.upd0 hU14
          replace hS13 := hS13.upd0 hU14
          replace hO14 := hO14.tight
          have hl_hO14 := rlen encC_len (by decide) hO14.sl
          have hc_hO14 := hO14.sl.cap.1
          refine Wl_v (r_mv (v := .slice a n c) rfl) ?_
          refine Wl_call (r_call2 rfl Try.call46 rfl rfl) (equal_spec _ hO14.sl hs (by omega)) ?_
          rintro v w15 ⟨rfl, hU15⟩
          have hzw15 := hU15.size
          replace hs := hs.upd0 hU15
          replace HU := HU.trans0 hU15
          replace hb2 := hb2.upd0 hU15
          replace hs4 := hs4.upd0 hU15
          replace hb1 := hb1.upd0 hU15
          replace hO := hO.upd0 hU15
          replace hS13 := hS13.upd0 hU15
          replace hO14 := hO14.upd0 hU15
          by_cases q5 : (cds (lns cs)) = cs
          · rw [decide_eq_true q5]
            refine Wl_lit (pv := [(0, .bool true)]) (cs := [.bool true]) Try.underlying78 Try.sizeOf4 Try.zeroValue4 (by decide) (by decide) (by simp only [List.map_toArray, List.map_cons, List.map_nil] <;> rfl) (by kernel_rfl) rfl (by decide) ?_
            intro B16 w16 hB16 hU16 hzz16 hs16
            have hzw16 := hU16.size
            replace hs := hs.upd0 hU16
            replace HU := HU.trans0 hU16
            replace hb2 := hb2.upd0 hU16
            replace hs4 := hs4.upd0 hU16
            replace hb1 := hb1.upd0 hU16
            replace hO := hO.upd0 hU16
            replace hS13 := hS13.upd0 hU16
            replace hO14 := hO14.upd0 hU16
            replace hs16 : Own w16 (Is B16) 4 1 (.slice (some ⟨B16, 0, none⟩) 1 1) 1 (rows encB [true]) := hs16
            refine Wl_call (r_call2 rfl Try.call41 rfl rfl) (must_ok _ hs16.sl (by omega) (by rfl)) ?_
            rintro v w17 ⟨rfl, hU17⟩
            have hzw17 := hU17.size
            replace hs := hs.upd0 hU17
            replace HU := HU.trans0 hU17
            replace hb2 := hb2.upd0 hU17
            replace hs4 := hs4.upd0 hU17
            replace hb1 := hb1.upd0 hU17
            replace hO := hO.upd0 hU17
            replace hS13 := hS13.upd0 hU17
            replace hO14 := hO14.upd0 hU17
            replace hs16 := hs16.upd0 hU17
            refine Wl_nil ?_
            refine W_seq ?_
            refine W_region ?_
            refine Wl_load (v := .slice a2 k c2) Try.isAgg22 rfl hb1 rfl ?_
            refine Wl_store (v := .slice a2 k c2) (cs' := [.slice a2 k c2]) Try.sizeOf22 rfl rfl rfl rfl hb1 rfl rfl ?_
            intro w18 hU18 hzz18 hb1n
            replace hb1 := hb1n; clear hb1n
            have hzw18 := hU18.size
            replace hs := hs.upd1 hU18 (by intro h1; have h3 : ((R B1) ∧ B1 < w.heap.size) := h1; omega)
            replace HU := HU.trans1 hU18 (by show (False) ∨ w.heap.size ≤ B1; omega)
            replace hb2 := hb2.upd1 hU18 (by omega)
            replace hs4 := hs4.upd1 hU18 (by intro h1; have h3 : B1 = B4 := h1; omega)
            replace hO := hO.upd1 hU18 (by intro h1; have h3 : ((w5.heap.size ≤ B1) ∧ B1 < w6.heap.size) := h1; omega)
            replace hS13 := hS13.upd1 hU18 (by intro h1; have h3 : ((w5.heap.size ≤ B1) ∧ B1 < w6.heap.size) := h1; omega)
            replace hO14 := hO14.upd1 hU18 (by intro h1; have h3 : ((w13.heap.size ≤ B1) ∧ B1 < w14.heap.size) := h1; omega)
            replace hs16 := hs16.upd1 hU18 (by intro h1; have h3 : B1 = B16 := h1; omega)
            refine Wl_store (v := .int .i64 0) (cs' := [.int .i64 0]) Try.sizeOf26 rfl rfl rfl rfl hb2 rfl rfl ?_
            intro w19 hU19 hzz19 hb2n
            replace hb2 := hb2n; clear hb2n
            have hzw19 := hU19.size
            replace hs := hs.upd1 hU19 (by intro h1; have h3 : ((R B2) ∧ B2 < w.heap.size) := h1; omega)
            replace HU := HU.trans1 hU19 (by show (False) ∨ w.heap.size ≤ B2; omega)
            replace hs4 := hs4.upd1 hU19 (by intro h1; have h3 : B2 = B4 := h1; omega)
            replace hb1 := hb1.upd1 hU19 (by omega)
            replace hO := hO.upd1 hU19 (by intro h1; have h3 : ((w5.heap.size ≤ B2) ∧ B2 < w6.heap.size) := h1; omega)
            replace hS13 := hS13.upd1 hU19 (by intro h1; have h3 : ((w5.heap.size ≤ B2) ∧ B2 < w6.heap.size) := h1; omega)
            replace hO14 := hO14.upd1 hU19 (by intro h1; have h3 : ((w13.heap.size ≤ B2) ∧ B2 < w14.heap.size) := h1; omega)
            replace hs16 := hs16.upd1 hU19 (by intro h1; have h3 : B2 = B16 := h1; omega)
            refine Wl_nil ?_
            refine W_ret ?_
            refine ret_ds rfl ?_
            refine lv_call (by simp) Try.call33 rfl (caught_ret _) ?_
            rintro e1 u1 w20 ⟨rfl, v1, rfl, rfl, hU20⟩
            have hzw20 := hU20.size
            replace hs := hs.upd0 hU20
            replace HU := HU.trans0 hU20
            replace hb2 := hb2.upd0 hU20
            replace hs4 := hs4.upd0 hU20
            replace hb1 := hb1.upd0 hU20
            replace hO := hO.upd0 hU20
            replace hS13 := hS13.upd0 hU20
            replace hO14 := hO14.upd0 hU20
            replace hs16 := hs16.upd0 hU20
            refine lv_nil (v := .tuple #[.slice a2 k c2, .int .i64 0]) (rc2 Try.results24 rfl rfl (cellIs Try.isAgg22 hb1) (cellIs Try.isAgg26 hb2)) ?_
            rw [ofc_ok (show cs.length ≤ 256 ∧ fidx qbad cs < 0 from ⟨by omega, by omega⟩) q4 q5]
            exact ⟨_, rfl, a2, k, c2, (vtup2 rfl (by first | rfl | exact vint (by omega))), (by first | exact hO.weak (by intro g hg; have h3 : ((w5.heap.size ≤ g) ∧ g < w6.heap.size) := hg; show w.heap.size ≤ g; omega) | simpa using hO.weak (by intro g hg; have h3 : ((w5.heap.size ≤ g) ∧ g < w6.heap.size) := hg; show w.heap.size ≤ g; omega)), HU⟩
          · rw [decide_eq_false q5]
            refine Wl_lit (pv := [(0, .bool false)]) (cs := [.bool false]) Try.underlying78 Try.sizeOf4 Try.zeroValue4 (by decide) (by decide) (by simp only [List.map_toArray, List.map_cons, List.map_nil] <;> rfl) (by kernel_rfl) rfl (by decide) ?_
            intro B21 w21 hB21 hU21 hzz21 hs21
            have hzw21 := hU21.size
            replace hs := hs.upd0 hU21
            replace HU := HU.trans0 hU21
            replace hb2 := hb2.upd0 hU21
            replace hs4 := hs4.upd0 hU21
            replace hb1 := hb1.upd0 hU21
            replace hO := hO.upd0 hU21
            replace hS13 := hS13.upd0 hU21
            replace hO14 := hO14.upd0 hU21
            replace hs21 : Own w21 (Is B21) 4 1 (.slice (some ⟨B21, 0, none⟩) 1 1) 1 (rows encB [false]) := hs21
            refine Wl_callp (r_call2 rfl Try.call41 rfl rfl) (must_no _ hs21.sl (by omega) (by rfl)) ?_
            intro w22 hU22
            have hzw22 := hU22.size
            replace hs := hs.upd0 hU22
            replace HU := HU.trans0 hU22
            replace hb2 := hb2.upd0 hU22
            replace hs4 := hs4.upd0 hU22
            replace hb1 := hb1.upd0 hU22
            replace hO := hO.upd0 hU22
            replace hS13 := hS13.upd0 hU22
            replace hO14 := hO14.upd0 hU22
            replace hs21 := hs21.upd0 hU22
            refine pan_ds rfl ?_
            refine lv_call (by simp) Try.call33 rfl (caught_pan (S := fun g => g = B1) (Φ := fun w' => Blk w' B1 [.slice none 0 0]) _ hb2 Try.call43 (by show ¬ (B2 = B1); first | omega | exact fun h => h) (fc_clr _ hb1)) ?_
            rintro e1 u1 w23 ⟨rfl, v1, rfl, rfl, wq23, hz23_0, hUa23, hUb23, hbe23⟩
            have hzwq23 := hUa23.size
            replace hs := hs.upd hUa23 (by intro x h1 h2; have h3 : ((R x) ∧ x < w.heap.size) := h1; have h4 : x = B1 := h2; omega)
            replace HU := HU.trans hUa23 (by intro x hx; have hx2 : x = B1 := hx; show (False) ∨ w.heap.size ≤ x; omega)
            replace hs4 := hs4.upd hUa23 (by intro x h1 h2; have h3 : x = B4 := h1; have h4 : x = B1 := h2; omega)
            replace hO := hO.upd hUa23 (by intro x h1 h2; have h3 : ((w5.heap.size ≤ x) ∧ x < w6.heap.size) := h1; have h4 : x = B1 := h2; omega)
            replace hS13 := hS13.upd hUa23 (by intro x h1 h2; have h3 : ((w5.heap.size ≤ x) ∧ x < w6.heap.size) := h1; have h4 : x = B1 := h2; omega)
            replace hO14 := hO14.upd hUa23 (by intro x h1 h2; have h3 : ((w13.heap.size ≤ x) ∧ x < w14.heap.size) := h1; have h4 : x = B1 := h2; omega)
            replace hs21 := hs21.upd hUa23 (by intro x h1 h2; have h3 : x = B21 := h1; have h4 : x = B1 := h2; omega)
            have hzw23 := hUb23.size
            replace hs := hs.upd1 hUb23 (by intro h1; have h3 : ((R B2) ∧ B2 < w.heap.size) := h1; omega)
            replace HU := HU.trans1 hUb23 (by show (False) ∨ w.heap.size ≤ B2; omega)
            replace hs4 := hs4.upd1 hUb23 (by intro h1; have h3 : B2 = B4 := h1; omega)
            replace hO := hO.upd1 hUb23 (by intro h1; have h3 : ((w5.heap.size ≤ B2) ∧ B2 < w6.heap.size) := h1; omega)
            replace hS13 := hS13.upd1 hUb23 (by intro h1; have h3 : ((w5.heap.size ≤ B2) ∧ B2 < w6.heap.size) := h1; omega)
            replace hO14 := hO14.upd1 hUb23 (by intro h1; have h3 : ((w13.heap.size ≤ B2) ∧ B2 < w14.heap.size) := h1; omega)
            replace hs21 := hs21.upd1 hUb23 (by intro h1; have h3 : B2 = B21 := h1; omega)
            replace hz23_0 := hz23_0.upd1 hUb23 (by omega)
            refine lv_nil (v := .tuple #[.slice none 0 0, .int .i64 12]) (rc2 Try.results24 rfl rfl (cellIs Try.isAgg22 hz23_0) (cellIs Try.isAgg26 hbe23)) ?_
            rw [ofc_ne (show cs.length ≤ 256 ∧ fidx qbad cs < 0 from ⟨by omega, by omega⟩) q4 q5]
            exact ⟨_, rfl, none, 0, 0, (vtup2 rfl (by first | rfl | exact vint (by omega))), (by first | exact Own.nil _ _ 3 1 | simpa using Own.nil _ _ 3 1), HU⟩
        · refine Wl_callp (r_call1 rfl Try.call35 rfl) (of_no _ hO.sl (by omega) q4) ?_
          intro w24 hU24
          have hzw24 := hU24.size
          replace hs := hs.upd0 hU24
          replace HU := HU.trans0 hU24
          replace hb2 := hb2.upd0 hU24
          replace hs4 := hs4.upd0 hU24
          replace hb1 := hb1.upd0 hU24
          replace hO := hO.upd0 hU24
          refine pan_ds rfl ?_
          refine lv_call (by simp) Try.call33 rfl (caught_pan (S := fun g => g = B1) (Φ := fun w' => Blk w' B1 [.slice none 0 0]) _ hb2 Try.call43 (by show ¬ (B2 = B1); first | omega | exact fun h => h) (fc_clr _ hb1)) ?_
          rintro e1 u1 w25 ⟨rfl, v1, rfl, rfl, wq25, hz25_0, hUa25, hUb25, hbe25⟩
          have hzwq25 := hUa25.size
          replace hs := hs.upd hUa25 (by intro x h1 h2; have h3 : ((R x) ∧ x < w.heap.size) := h1; have h4 : x = B1 := h2; omega)
          replace HU := HU.trans hUa25 (by intro x hx; have hx2 : x = B1 := hx; show (False) ∨ w.heap.size ≤ x; omega)
          replace hs4 := hs4.upd hUa25 (by intro x h1 h2; have h3 : x = B4 := h1; have h4 : x = B1 := h2; omega)
          replace hO := hO.upd hUa25 (by intro x h1 h2; have h3 : ((w5.heap.size ≤ x) ∧ x < w6.heap.size) := h1; have h4 : x = B1 := h2; omega)
          have hzw25 := hUb25.size
          replace hs := hs.upd1 hUb25 (by intro h1; have h3 : ((R B2) ∧ B2 < w.heap.size) := h1; omega)
          replace HU := HU.trans1 hUb25 (by show (False) ∨ w.heap.size ≤ B2; omega)
          replace hs4 := hs4.upd1 hUb25 (by intro h1; have h3 : B2 = B4 := h1; omega)
          replace hO := hO.upd1 hUb25 (by intro h1; have h3 : ((w5.heap.size ≤ B2) ∧ B2 < w6.heap.size) := h1; omega)
          replace hz25_0 := hz25_0.upd1 hUb25 (by omega)
          refine lv_nil (v := .tuple #[.slice none 0 0, .int .i64 12]) (rc2 Try.results24 rfl rfl (cellIs Try.isAgg22 hz25_0) (cellIs Try.isAgg26 hbe25)) ?_
          rw [ofc_tree (show cs.length ≤ 256 ∧ fidx qbad cs < 0 from ⟨by omega, by omega⟩) q4]
          exact ⟨_, rfl, none, 0, 0, (vtup2 rfl (by first | rfl | exact vint (by omega))), (by first | exact Own.nil _ _ 3 1 | simpa using Own.nil _ _ 3 1), HU⟩
    · rw [decide_eq_false q2]
      refine Wl_lit (pv := [(0, .bool true), (1, .bool false)]) (cs := [.bool true, .bool false]) Try.underlying78 Try.sizeOf4 Try.zeroValue4 (by decide) (by decide) (by simp only [List.map_toArray, List.map_cons, List.map_nil] <;> rfl) (by kernel_rfl) rfl (by decide) ?_
      intro B26 w26 hB26 hU26 hzz26 hs26
      have hzw26 := hU26.size
      replace hs := hs.upd0 hU26
      replace HU := HU.trans0 hU26
      replace hb1 := hb1.upd0 hU26
      replace hb2 := hb2.upd0 hU26
      replace hs26 : Own w26 (Is B26) 4 1 (.slice (some ⟨B26, 0, none⟩) 2 2) 2 (rows encB [true, false]) := hs26
      refine Wl_callp (r_call2 rfl Try.call41 rfl rfl) (must_no _ hs26.sl (by omega) (by rfl)) ?_
      intro w27 hU27
      have hzw27 := hU27.size
      replace hs := hs.upd0 hU27
      replace HU := HU.trans0 hU27
      replace hb1 := hb1.upd0 hU27
      replace hb2 := hb2.upd0 hU27
      replace hs26 := hs26.upd0 hU27
      refine pan_ds rfl ?_
      refine lv_call (by simp) Try.call33 rfl (caught_pan (S := fun g => g = B1) (Φ := fun w' => Blk w' B1 [.slice none 0 0]) _ hb2 Try.call43 (by show ¬ (B2 = B1); first | omega | exact fun h => h) (fc_clr _ hb1)) ?_
      rintro e1 u1 w28 ⟨rfl, v1, rfl, rfl, wq28, hz28_0, hUa28, hUb28, hbe28⟩
      have hzwq28 := hUa28.size
      replace hs := hs.upd hUa28 (by intro x h1 h2; have h3 : ((R x) ∧ x < w.heap.size) := h1; have h4 : x = B1 := h2; omega)
      replace HU := HU.trans hUa28 (by intro x hx; have hx2 : x = B1 := hx; show (False) ∨ w.heap.size ≤ x; omega)
      replace hs26 := hs26.upd hUa28 (by intro x h1 h2; have h3 : x = B26 := h1; have h4 : x = B1 := h2; omega)
      have hzw28 := hUb28.size
      replace hs := hs.upd1 hUb28 (by intro h1; have h3 : ((R B2) ∧ B2 < w.heap.size) := h1; omega)
      replace HU := HU.trans1 hUb28 (by show (False) ∨ w.heap.size ≤ B2; omega)
      replace hs26 := hs26.upd1 hUb28 (by intro h1; have h3 : B2 = B26 := h1; omega)
      replace hz28_0 := hz28_0.upd1 hUb28 (by omega)
      refine lv_nil (v := .tuple #[.slice none 0 0, .int .i64 2]) (rc2 Try.results24 rfl rfl (cellIs Try.isAgg22 hz28_0) (cellIs Try.isAgg26 hbe28)) ?_
      rw [ofc_arg (fun h => by omega)]
      exact ⟨_, rfl, none, 0, 0, (vtup2 rfl (by first | rfl | exact vint (by omega))), (by first | exact Own.nil _ _ 3 1 | simpa using Own.nil _ _ 3 1), HU⟩
  · rw [decide_eq_false q1]
    by_cases q6 : (fidx (qbad) cs) < 0
    · rw [decide_eq_true q6]
      refine Wl_lit (pv := [(0, .bool false), (1, .bool true)]) (cs := [.bool false, .bool true]) Try.underlying78 Try.sizeOf4 Try.zeroValue4 (by decide) (by decide) (by simp only [List.map_toArray, List.map_cons, List.map_nil] <;> rfl) (by kernel_rfl) rfl (by decide) ?_
      intro B29 w29 hB29 hU29 hzz29 hs29
      have hzw29 := hU29.size
      replace hs := hs.upd0 hU29
      replace HU := HU.trans0 hU29
      replace hb1 := hb1.upd0 hU29
      replace hb2 := hb2.upd0 hU29
      replace hs29 : Own w29 (Is B29) 4 1 (.slice (some ⟨B29, 0, none⟩) 2 2) 2 (rows encB [false, true]) := hs29
      refine Wl_callp (r_call2 rfl Try.call41 rfl rfl) (must_no _ hs29.sl (by omega) (by rfl)) ?_
      intro w30 hU30
      have hzw30 := hU30.size
      replace hs := hs.upd0 hU30
      replace HU := HU.trans0 hU30
      replace hb1 := hb1.upd0 hU30
      replace hb2 := hb2.upd0 hU30
      replace hs29 := hs29.upd0 hU30
      refine pan_ds rfl ?_
      refine lv_call (by simp) Try.call33 rfl (caught_pan (S := fun g => g = B1) (Φ := fun w' => Blk w' B1 [.slice none 0 0]) _ hb2 Try.call43 (by show ¬ (B2 = B1); first | omega | exact fun h => h) (fc_clr _ hb1)) ?_
      rintro e1 u1 w31 ⟨rfl, v1, rfl, rfl, wq31, hz31_0, hUa31, hUb31, hbe31⟩
      have hzwq31 := hUa31.size
      replace hs := hs.upd hUa31 (by intro x h1 h2; have h3 : ((R x) ∧ x < w.heap.size) := h1; have h4 : x = B1 := h2; omega)
      replace HU := HU.trans hUa31 (by intro x hx; have hx2 : x = B1 := hx; show (False) ∨ w.heap.size ≤ x; omega)
      replace hs29 := hs29.upd hUa31 (by intro x h1 h2; have h3 : x = B29 := h1; have h4 : x = B1 := h2; omega)
      have hzw31 := hUb31.size
      replace hs := hs.upd1 hUb31 (by intro h1; have h3 : ((R B2) ∧ B2 < w.heap.size) := h1; omega)
      replace HU := HU.trans1 hUb31 (by show (False) ∨ w.heap.size ≤ B2; omega)
      replace hs29 := hs29.upd1 hUb31 (by intro h1; have h3 : B2 = B29 := h1; omega)
      replace hz31_0 := hz31_0.upd1 hUb31 (by omega)
      refine lv_nil (v := .tuple #[.slice none 0 0, .int .i64 2]) (rc2 Try.results24 rfl rfl (cellIs Try.isAgg22 hz31_0) (cellIs Try.isAgg26 hbe31)) ?_
      rw [ofc_arg (fun h => by omega)]
      exact ⟨_, rfl, none, 0, 0, (vtup2 rfl (by first | rfl | exact vint (by omega))), (by first | exact Own.nil _ _ 3 1 | simpa using Own.nil _ _ 3 1), HU⟩
    · rw [decide_eq_false q6]
      refine Wl_lit (pv := [(0, .bool false), (1, .bool false)]) (cs := [.bool false, .bool false]) Try.underlying78 Try.sizeOf4 Try.zeroValue4 (by decide) (by decide) (by simp only [List.map_toArray, List.map_cons, List.map_nil] <;> rfl) (by kernel_rfl) rfl (by decide) ?_
      intro B32 w32 hB32 hU32 hzz32 hs32
      have hzw32 := hU32.size
      replace hs := hs.upd0 hU32
      replace HU := HU.trans0 hU32
      replace hb1 := hb1.upd0 hU32
      replace hb2 := hb2.upd0 hU32
      replace hs32 : Own w32 (Is B32) 4 1 (.slice (some ⟨B32, 0, none⟩) 2 2) 2 (rows encB [false, false]) := hs32
      refine Wl_callp (r_call2 rfl Try.call41 rfl rfl) (must_no _ hs32.sl (by omega) (by rfl)) ?_
      intro w33 hU33
      have hzw33 := hU33.size
      replace hs := hs.upd0 hU33
      replace HU := HU.trans0 hU33
      replace hb1 := hb1.upd0 hU33
      replace hb2 := hb2.upd0 hU33
      replace hs32 := hs32.upd0 hU33
      refine pan_ds rfl ?_
      refine lv_call (by simp) Try.call33 rfl (caught_pan (S := fun g => g = B1) (Φ := fun w' => Blk w' B1 [.slice none 0 0]) _ hb2 Try.call43 (by show ¬ (B2 = B1); first | omega | exact fun h => h) (fc_clr _ hb1)) ?_
      rintro e1 u1 w34 ⟨rfl, v1, rfl, rfl, wq34, hz34_0, hUa34, hUb34, hbe34⟩
      have hzwq34 := hUa34.size
      replace hs := hs.upd hUa34 (by intro x h1 h2; have h3 : ((R x) ∧ x < w.heap.size) := h1; have h4 : x = B1 := h2; omega)
      replace HU := HU.trans hUa34 (by intro x hx; have hx2 : x = B1 := hx; show (False) ∨ w.heap.size ≤ x; omega)
      replace hs32 := hs32.upd hUa34 (by intro x h1 h2; have h3 : x = B32 := h1; have h4 : x = B1 := h2; omega)
      have hzw34 := hUb34.size
      replace hs := hs.upd1 hUb34 (by intro h1; have h3 : ((R B2) ∧ B2 < w.heap.size) := h1; omega)
      replace HU := HU.trans1 hUb34 (by show (False) ∨ w.heap.size ≤ B2; omega)
      replace hs32 := hs32.upd1 hUb34 (by intro h1; have h3 : B2 = B32 := h1; omega)
      replace hz34_0 := hz34_0.upd1 hUb34 (by omega)
      refine lv_nil (v := .tuple #[.slice none 0 0, .int .i64 2]) (rc2 Try.results24 rfl rfl (cellIs Try.isAgg22 hz34_0) (cellIs Try.isAgg26 hbe34)) ?_
      rw [ofc_arg (fun h => by omega)]
      exact ⟨_, rfl, none, 0, 0, (vtup2 rfl (by first | rfl | exact vint (by omega))), (by first | exact Own.nil _ _ 3 1 | simpa using Own.nil _ _ 3 1), HU⟩

end Go.Proofs.Ytakbopikohghmaa
