/-
  Several texts of this project, put together.
-/
import Derived.Test.YtbjjhfoeckkacaaDoorSQ
set_option linter.unusedVariables false
set_option linter.unusedSimpArgs false
set_option linter.deprecated false
set_option maxRecDepth 100000
namespace Go.Proofs.YtbjjhfoeckkacaaDoor
open Go.Fw _root_.Go.Proofs.Tryd
theorem r_min3 {P : Program} {ro : Option Nat} {w : World} {t : TypeId} {p : String} {e : Array Edge} {ρ' : Operand → Value} {dd : Option Tmp} {g : Option (Nat × Bool)} {xt yt zt : TypeId} {x y z : Operand} {k : IntKind} {a b c : Int} (hx : ρ' x = .int k a) (hy : ρ' y = .int k b) (hz : ρ' z = .int k c) :
  (Oper.semAt ro ρ' ⟨dd, .call { callee := .builtin .min, args := #[x, y, z], argTypes := #[xt, yt, zt] }, t, p, e, g⟩).run P w = .ok (.value (.int k (min (min a b) c))) w := by
 rw [sem_op (by simp)]; simp [execOp, resolve, invoke, builtin, hx, hy, hz, Builtin.min_, Builtin.min2]; omega
def b3 (ks ss st : List Int) : Nat → List BK
 | 0 => []
 | k + 1 => b3 ks ss st k ++ [(0, ks.getD k 0, ss.getD k 0, st.getD k 0, false)]
theorem b3_len (ks ss st : List Int) (k : Nat) : (b3 ks ss st k).length = k := by induction k with | zero => rfl | succ k ih => rw [b3, List.length_append, ih]; rfl
theorem b3_ok {ks ss st : List Int} (h1 : ∀ i, rg (ks.getD i 0)) (h2 : ∀ i, rg (ss.getD i 0)) (h3 : ∀ i, rg (st.getD i 0)) (k : Nat) : ∀ x ∈ b3 ks ss st k, okB x := by
 induction k with
 | zero => intro x hx; cases hx
 | succ k ih =>
  intro x hx
  rcases List.mem_append.1 hx with h | h
  ·exact ih x h
  rw [List.mem_singleton.1 h]; exact ⟨h1 k, h2 k, h3 k⟩
def pln (i0 i1 i2 : Int) (s3 : Bool) (h : Hd) (ck : Int) (bl : List BK) : PT := ⟨i0, i1, s3, i2, h, bl, ck⟩
theorem ok_pln {i0 i1 i2 ck : Int} {s3 : Bool} {h : Hd} {bl : List BK} (h0 : rg i0) (h1 : rg i1) (h2 : rg i2) (h3 : rg h.1) (h4 : rg h.2.1) (h5 : 0 ≤ h.2.2.1 ∧ h.2.2.1 < 4294967296) (h6 : 0 ≤ ck ∧ ck < 4294967296) (hb : ∀ x ∈ bl, okB x) (hn : bl.length ≤ 100000) :
  okP (pln i0 i1 i2 s3 h ck bl) := ⟨h0, h1, h2, h3, h4, h5, h6, hb, hn⟩
set_option maxHeartbeats 4000000 in
theorem showlines {i0 i1 i2 ck : Int} {s3 : Bool} {hd : Hd} {a b d : Option Addr} {n6 n7 n8 c6 c7 c8 : Nat} {ks ss st : List Int} {g0 : Nat} (w : World) (ht : Tab w g0) (h0 : rg i0) (h1 : rg i1) (h2 : rg i2) (h3 : rg hd.1) (h4 : rg hd.2.1) (h5 : 0 ≤ hd.2.2.1 ∧ hd.2.2.1 < 4294967296) (h6 : 0 ≤ ck ∧ ck < 4294967296) (hs6 : Sl w (fun g => g < w.heap.size) 1 (.slice a n6 c6) n6 (ints .i64 ks)) (hs7 : Sl w (fun g => g < w.heap.size) 1 (.slice b n7 c7) n7 (ints .i64 ss)) (hs8 : Sl w (fun g => g < w.heap.size) 1 (.slice d n8 c8) n8 (ints .i64 st)) (r6 : ∀ i, rg (ks.getD i 0)) (r7 : ∀ i, rg (ss.getD i 0)) (r8 : ∀ i, rg (st.getD i 0)) (m6 : n6 ≤ 140737488351232) (m7 : n7 ≤ 140737488351232) (m8 : n8 ≤ 140737488351232) :
  Calls Tryd.prog 5 #[.int .i64 i0, .int .i64 i1, .int .i64 i2, .bool (decide (s3 = true)), .agg #[.int .i64 hd.1, .int .i64 hd.2.1, .int .u32 hd.2.2.1, .bool (decide (hd.2.2.2 = true))], .int .u32 ck, .slice a n6 c6, .slice b n7 c7, .slice d n8 c8] w (Ret fun v w' => v = .bool true ∧ Upd No w w') := by
 have HU := Upd.rno w
 have hl_hs6 := ilen hs6
 have hc_hs6 := hs6.cap.1
 have hl_hs7 := ilen hs7
 have hc_hs7 := hs7.cap.1
 have hl_hs8 := ilen hs8
 have hc_hs8 := hs8.cap.1
 have htl := ht.1
 refine calls_of_W func5 rfl ntmps5 (by simp) ?_
 refine W_seq (W_region ?_)
 refine Wl_box (v := .agg #[.int .i64 hd.1, .int .i64 hd.2.1, .int .u32 hd.2.2.1, .bool (decide (hd.2.2.2 = true))]) (cs := [.int .i64 hd.1, .int .i64 hd.2.1, .int .u32 hd.2.2.1, .bool (decide (hd.2.2.2 = true))]) rfl rfl ?_
 intro B1 w1 hB1 hU1 hzz1 hb1
 have hzw1 := hU1.size
 replace ht := ht.upd0 hU1
 replace hs6 := hs6.upd0 hU1
 replace hs7 := hs7.upd0 hU1
 replace hs8 := hs8.upd0 hU1
 replace HU := HU.trans0 hU1
 refine Was (.bool false) ?_
 refine Wl_nil (W_seq (W_region ?_))
 refine Wmv (.slice a n6 c6) ?_
 refine Wl_v (r_len underlying42 rfl) ?_
 refine Wmv (.slice b n7 c7) ?_
 refine Wl_v (r_len underlying42 rfl) ?_
 refine Wmv (.slice d n8 c8) ?_
 refine Wl_v (r_len underlying42 rfl) ?_
 refine Wl_v (r_min3 rfl rfl rfl) ?_
 refine Was (.int .i64 (min (min ((n6 : Nat) : Int) ((n7 : Nat) : Int)) ((n8 : Nat) : Int))) ?_
 refine Wl_nil (W_seq (W_seq (W_region ?_)))
 refine Wmv (.int .i64 (min (min ((n6 : Nat) : Int) ((n7 : Nat) : Int)) ((n8 : Nat) : Int))) ?_
 refine Wl_v (r_gt rfl rfl) ?_
 refine Wl_nil ?_
 by_cases q1 : 20 < (min (min ((n6 : Nat) : Int) ((n7 : Nat) : Int)) ((n8 : Nat) : Int))
 ·rw [decide_eq_true q1]
  refine W_cond_t rfl ?_
  refine W_seq (W_region ?_)
  refine Wl_call (r_call0 rfl call10 ) (works44 _ ht) ?_
  rintro v w2 ⟨rfl, hU2⟩
  have hzw2 := hU2.size
  replace HU := HU.trans0 hU2
  refine Was (.bool true) ?_
  refine Wl_nil ?_
  refine W_ret ?_
  refine ret_end (v := .bool true) rfl (res1 results5 rfl) ?_
  exact ⟨_, rfl, rfl, HU⟩
 rw [decide_eq_false q1]
 refine W_cond_f rfl ?_
 refine W_skip (W_seq (W_region ?_))
 refine Wmv (.int .i64 i0) ?_
 refine Wmv (.int .i64 i1) ?_
 refine Wmv (.bool (decide (s3 = true))) ?_
 refine Wmv (.int .i64 i2) ?_
 refine Wl_v (r_loada (b := B1) (off := 0) (cs := [.int .i64 hd.1, .int .i64 hd.2.1, .int .u32 hd.2.2.1, .bool (decide (hd.2.2.2 = true))]) isAgg41 sizeOf41 rfl rfl (fun j hj => by rw [hb1.cell]; match j, hj with | 0, _ => rfl | 1, _ => rfl | 2, _ => rfl | 3, _ => rfl)) ?_
 refine Wmv (.int .u32 ck) ?_
 refine Wl_v (r_build (pl := #[(0, 1), (1, 1), (2, 1), (3, 1), (4, 4), (8, 1), (9, 1)]) (pv := [(0, .int .i64 i0), (1, .int .i64 i1), (2, .bool (decide (s3 = true))), (3, .int .i64 i2), (4, .agg #[.int .i64 hd.1, .int .i64 hd.2.1, .int .u32 hd.2.2.1, .bool (decide (hd.2.2.2 = true))]), (6, .int .u32 ck)]) (cs := #[.int .i64 i0, .int .i64 i1, .bool (decide (s3 = true)), .int .i64 i2, .int .i64 hd.1, .int .i64 hd.2.1, .int .u32 hd.2.2.1, .bool (decide (hd.2.2.2 = true)), .slice none 0 0, .int .u32 ck]) zeroValue45 underlying45 (fun w => by kernel_rfl) (by simp only [List.map_toArray, List.map_cons, List.map_nil] <;> rfl) (by kernel_rfl)) ?_
 refine Wl_alloc (cs := [.int .i64 0, .int .i64 0, .bool false, .int .i64 0, .int .i64 0, .int .i64 0, .int .u32 0, .bool false, .slice none 0 0, .int .u32 0]) zeroValue45 rfl ?_
 intro B3 w3 hB3 hU3 hzz3 hb3
 have hzw3 := hU3.size
 replace ht := ht.upd0 hU3
 replace hs6 := hs6.upd0 hU3
 replace hs7 := hs7.upd0 hU3
 replace hs8 := hs8.upd0 hU3
 replace HU := HU.trans0 hU3
 replace hb1 := hb1.upd0 hU3
 refine Wl_storea (off := 0) (vs := [.int .i64 i0, .int .i64 i1, .bool (decide (s3 = true)), .int .i64 i2, .int .i64 hd.1, .int .i64 hd.2.1, .int .u32 hd.2.2.1, .bool (decide (hd.2.2.2 = true)), .slice none 0 0, .int .u32 ck]) (cs' := [.int .i64 i0, .int .i64 i1, .bool (decide (s3 = true)), .int .i64 i2, .int .i64 hd.1, .int .i64 hd.2.1, .int .u32 hd.2.2.1, .bool (decide (hd.2.2.2 = true)), .slice none 0 0, .int .u32 ck]) sizeOf45 rfl rfl rfl (by simp only [List.mem_cons, List.not_mem_nil, or_false, forall_eq_or_imp, forall_eq]; exact ⟨rfl, rfl, rfl, rfl, rfl, rfl, rfl, rfl, rfl, rfl⟩) hb3 (by simp) rfl ?_
 intro w4 hU4 hzz4 hb3n
 replace hb3 := hb3n; clear hb3n
 have hzw4 := hU4.size
 replace ht := ht.upd1 hU4 (by omega)
 replace hs6 := hs6.upd1 hU4 (show ¬ (B3 < w.heap.size) by omega)
 replace hs7 := hs7.upd1 hU4 (show ¬ (B3 < w.heap.size) by omega)
 replace hs8 := hs8.upd1 hU4 (show ¬ (B3 < w.heap.size) by omega)
 replace HU := HU.t1 hU4 (by omega)
 replace hb1 := hb1.upd1 hU4 (by omega)
 refine Wl_nil (W_seq (W_region ?_))
 refine Wmv (.int .i64 i0) ?_
 refine Wmv (.int .i64 i1) ?_
 refine Wmv (.bool (decide (s3 = true))) ?_
 refine Wmv (.int .i64 i2) ?_
 refine Wl_v (r_loada (b := B1) (off := 0) (cs := [.int .i64 hd.1, .int .i64 hd.2.1, .int .u32 hd.2.2.1, .bool (decide (hd.2.2.2 = true))]) isAgg41 sizeOf41 rfl rfl (fun j hj => by rw [hb1.cell]; match j, hj with | 0, _ => rfl | 1, _ => rfl | 2, _ => rfl | 3, _ => rfl)) ?_
 refine Wmv (.int .u32 ck) ?_
 refine Wl_v (r_build (pl := #[(0, 1), (1, 1), (2, 1), (3, 1), (4, 4), (8, 1), (9, 1)]) (pv := [(0, .int .i64 i0), (1, .int .i64 i1), (2, .bool (decide (s3 = true))), (3, .int .i64 i2), (4, .agg #[.int .i64 hd.1, .int .i64 hd.2.1, .int .u32 hd.2.2.1, .bool (decide (hd.2.2.2 = true))]), (6, .int .u32 ck)]) (cs := #[.int .i64 i0, .int .i64 i1, .bool (decide (s3 = true)), .int .i64 i2, .int .i64 hd.1, .int .i64 hd.2.1, .int .u32 hd.2.2.1, .bool (decide (hd.2.2.2 = true)), .slice none 0 0, .int .u32 ck]) zeroValue48 underlying48 (fun w => by kernel_rfl) (by simp only [List.map_toArray, List.map_cons, List.map_nil] <;> rfl) (by kernel_rfl)) ?_
 refine Wl_alloc (cs := [.int .i64 0, .int .i64 0, .bool false, .int .i64 0, .int .i64 0, .int .i64 0, .int .u32 0, .bool false, .slice none 0 0, .int .u32 0]) zeroValue48 rfl ?_
 intro B5 w5 hB5 hU5 hzz5 hb5
 have hzw5 := hU5.size
 replace ht := ht.upd0 hU5
 replace hs6 := hs6.upd0 hU5
 replace hs7 := hs7.upd0 hU5
 replace hs8 := hs8.upd0 hU5
 replace HU := HU.trans0 hU5
 replace hb3 := hb3.upd0 hU5
 refine Wl_storea (off := 0) (vs := [.int .i64 i0, .int .i64 i1, .bool (decide (s3 = true)), .int .i64 i2, .int .i64 hd.1, .int .i64 hd.2.1, .int .u32 hd.2.2.1, .bool (decide (hd.2.2.2 = true)), .slice none 0 0, .int .u32 ck]) (cs' := [.int .i64 i0, .int .i64 i1, .bool (decide (s3 = true)), .int .i64 i2, .int .i64 hd.1, .int .i64 hd.2.1, .int .u32 hd.2.2.1, .bool (decide (hd.2.2.2 = true)), .slice none 0 0, .int .u32 ck]) sizeOf48 rfl rfl rfl (by simp only [List.mem_cons, List.not_mem_nil, or_false, forall_eq_or_imp, forall_eq]; exact ⟨rfl, rfl, rfl, rfl, rfl, rfl, rfl, rfl, rfl, rfl⟩) hb5 (by simp) rfl ?_
 intro w6 hU6 hzz6 hb5n
 replace hb5 := hb5n; clear hb5n
 have hzw6 := hU6.size
 replace ht := ht.upd1 hU6 (by omega)
 replace hs6 := hs6.upd1 hU6 (show ¬ (B5 < w.heap.size) by omega)
 replace hs7 := hs7.upd1 hU6 (show ¬ (B5 < w.heap.size) by omega)
 replace hs8 := hs8.upd1 hU6 (show ¬ (B5 < w.heap.size) by omega)
 replace HU := HU.t1 hU6 (by omega)
 replace hb3 := hb3.upd1 hU6 (by omega)
 refine Wl_nil (W_seq (W_seq (W_region ?_)))
 refine Was (.int .i64 0) ?_
 refine Wl_nil (W_block ?_)
 refine W_loop (fun mu ρ ds w' => ∃ (k : Nat) (ax : Option Addr) (mx : Nat) (dx : Nat) (gx : Nat) (ay : Option Addr) (my : Nat) (dy : Nat) (gy : Nat), (min (min ((n6 : Nat) : Int) ((n7 : Nat) : Int)) ((n8 : Nat) : Int)).toNat - k = mu ∧ ds = [] ∧ Liv ρ [(6, .slice a n6 c6), (7, .slice b n7 c7), (8, .slice d n8 c8), (19, .int .i64 (min (min ((n6 : Nat) : Int) ((n7 : Nat) : Int)) ((n8 : Nat) : Int))), (20, .pointer (some ⟨B3, 0, none⟩)), (21, .pointer (some ⟨B5, 0, none⟩)), (22, .int .i64 ((k : Nat) : Int))] ∧ ((k : Nat) : Int) ≤ min (min ((n6 : Nat) : Int) ((n7 : Nat) : Int)) ((n8 : Nat) : Int) ∧ mx = k ∧ my = k ∧ (gx ≠ gy ∨ k = 0) ∧ Blk w' B3 [.int .i64 i0, .int .i64 i1, .bool (decide (s3 = true)), .int .i64 i2, .int .i64 hd.1, .int .i64 hd.2.1, .int .u32 hd.2.2.1, .bool (decide (hd.2.2.2 = true)), .slice ax mx dx, .int .u32 ck] ∧ Blk w' B5 [.int .i64 i0, .int .i64 i1, .bool (decide (s3 = true)), .int .i64 i2, .int .i64 hd.1, .int .i64 hd.2.1, .int .u32 hd.2.2.1, .bool (decide (hd.2.2.2 = true)), .slice ay my dy, .int .u32 ck] ∧ Own w' (fun g => g = gx ∧ 0 < mx ∧ w6.heap.size ≤ g) 51 5 (.slice ax mx dx) mx (rows encK (b3 ks ss st k)) ∧ Own w' (fun g => g = gy ∧ 0 < my ∧ w6.heap.size ≤ g) 53 5 (.slice ay my dy) my (rows encK (b3 ks ss st k)) ∧ Upd (fun g => g = B3 ∨ g = B5 ∨ w6.heap.size ≤ g) w6 w') _ ⟨0, none, 0, 0, 0, none, 0, 0, 0, rfl, rfl, ⟨rfl, rfl, rfl, rfl, rfl, rfl, (by first | rfl | exact vint (by omega) | exact vint (by simp)), trivial⟩, (by omega), rfl, rfl, (.inr rfl), hb3, hb5, (by exact Own.nil _ _ _ _), (by exact Own.nil _ _ _ _), Upd.refl _ _⟩ ?_
 rintro m7 ρ7 ds7 w7 ⟨k, ax, mx, dx, gx, ay, my, dy, gy, rfl, rfl, hl7, hk, hmx, hmy, hgg, hb3, hb5, hOx, hOy, hU7⟩
 obtain ⟨ρ7x, rfl⟩ : ∃ ρx, ρ7 = upds ρx [(6, .slice a n6 c6), (7, .slice b n7 c7), (8, .slice d n8 c8), (19, .int .i64 (min (min ((n6 : Nat) : Int) ((n7 : Nat) : Int)) ((n8 : Nat) : Int))), (20, .pointer (some ⟨B3, 0, none⟩)), (21, .pointer (some ⟨B5, 0, none⟩)), (22, .int .i64 ((k : Nat) : Int))] := ⟨_, upds_self hl7⟩
 clear hl7
 have hzw7 := hU7.size
 replace ht := ht.upd hU7 (by intro x hx; have hx2 : x = B3 ∨ x = B5 ∨ w6.heap.size ≤ x := hx; omega)
 replace hs6 := hs6.upd hU7 (by intro x h1 h2; have h3 : x < w.heap.size := h1; have h4 : x = B3 ∨ x = B5 ∨ w6.heap.size ≤ x := h2; omega)
 replace hs7 := hs7.upd hU7 (by intro x h1 h2; have h3 : x < w.heap.size := h1; have h4 : x = B3 ∨ x = B5 ∨ w6.heap.size ≤ x := h2; omega)
 replace hs8 := hs8.upd hU7 (by intro x h1 h2; have h3 : x < w.heap.size := h1; have h4 : x = B3 ∨ x = B5 ∨ w6.heap.size ≤ x := h2; omega)
 replace HU := HU.trans hU7 (by intro x hx; have hx2 : x = B3 ∨ x = B5 ∨ w6.heap.size ≤ x := hx; show (False) ∨ w.heap.size ≤ x; omega)
 replace hOx := hOx.tight
 replace hOy := hOy.tight
 have hl_hOx := rlen encK_len (by decide) hOx.sl
 have hl_hOy := rlen encK_len (by decide) hOy.sl
 rw [b3_len] at hl_hOx hl_hOy
 have hc_hOx := hOx.sl.cap.1
 have hc_hOy := hOy.sl.cap.1
 have hk6 := r6 k
 have hk7 := r7 k
 have hk8 := r8 k
 have HL7 := hU7
 refine W_seq (W_seq (W_region ?_))
 refine Wmv (.int .i64 ((k : Nat) : Int)) ?_
 refine Wmv (.int .i64 (min (min ((n6 : Nat) : Int) ((n7 : Nat) : Int)) ((n8 : Nat) : Int))) ?_
 refine Wl_v (r_lt rfl rfl) ?_
 refine Wl_nil ?_
 by_cases q2 : ((k : Nat) : Int) < (min (min ((n6 : Nat) : Int) ((n7 : Nat) : Int)) ((n8 : Nat) : Int))
 ·rw [decide_eq_true q2]
  refine W_cond_t rfl ?_
  refine W_skip (W_seq (W_block (W_seq ?_)))
  refine W_drawt rfl (l0 := tf 0 19) (by kernel_rfl) ?_
  refine Tk 0 (tf 1 19) rfl (YI_v (v := .pointer (some ⟨B3, 8, none⟩)) rfl (fun w' hw' => r_fld underlying45 rfl sizeOf43 rfl rfl)) ?_
  refine Tk 1 (tf 2 19) rfl (YI_v (v := .slice ax mx dx) rfl (fun w' hw' => r_load isAgg43 rfl (by rw [(hb3.upd0 hw').cell]; rfl))) ?_
  refine Tk 2 (tf 3 19) rfl (YI_v (v := .slice a n6 c6) rfl (fun w' hw' => r_mv (v := .slice a n6 c6) rfl)) ?_
  refine Tk 3 (tf 4 19) rfl (YI_v (v := .int .i64 ((k : Nat) : Int)) rfl (fun w' hw' => r_mv (v := .int .i64 ((k : Nat) : Int)) rfl)) ?_
  obtain ⟨ib8, io8, ha8, hib8, hc8⟩ := (hs6).iat (i := k) (by omega)
  replace hib8 : ib8 < w.heap.size := hib8
  refine Tk 4 (tf 5 19) rfl (YI_v (v := .pointer (some ⟨ib8, io8 + k, none⟩)) rfl (fun w' hw' => r_idx (b := ib8) (off := io8) (m := n6) (c := c6) (o' := io8 + k) underlying42 sizeOf3 (by rw [← ha8]; rfl) rfl (by omega) (by omega) (by omega))) ?_
  refine Tk 5 (tf 6 19) rfl (YI_v (v := .int .i64 (ks.getD k 0)) rfl (fun w' hw' => r_load isAgg3 rfl (hw'.cellk hc8))) ?_
  refine Tk 6 (tf 7 19) rfl (YI_v (v := .slice b n7 c7) rfl (fun w' hw' => r_mv (v := .slice b n7 c7) rfl)) ?_
  refine Tk 7 (tf 8 19) rfl (YI_v (v := .int .i64 ((k : Nat) : Int)) rfl (fun w' hw' => r_mv (v := .int .i64 ((k : Nat) : Int)) rfl)) ?_
  obtain ⟨ib9, io9, ha9, hib9, hc9⟩ := (hs7).iat (i := k) (by omega)
  replace hib9 : ib9 < w.heap.size := hib9
  refine Tk 8 (tf 9 19) rfl (YI_v (v := .pointer (some ⟨ib9, io9 + k, none⟩)) rfl (fun w' hw' => r_idx (b := ib9) (off := io9) (m := n7) (c := c7) (o' := io9 + k) underlying42 sizeOf3 (by rw [← ha9]; rfl) rfl (by omega) (by omega) (by omega))) ?_
  refine Tk 9 (tf 10 19) rfl (YI_v (v := .int .i64 (ss.getD k 0)) rfl (fun w' hw' => r_load isAgg3 rfl (hw'.cellk hc9))) ?_
  refine Tk 10 (tf 11 19) rfl (YI_v (v := .slice d n8 c8) rfl (fun w' hw' => r_mv (v := .slice d n8 c8) rfl)) ?_
  refine Tk 11 (tf 12 19) rfl (YI_v (v := .int .i64 ((k : Nat) : Int)) rfl (fun w' hw' => r_mv (v := .int .i64 ((k : Nat) : Int)) rfl)) ?_
  obtain ⟨ib10, io10, ha10, hib10, hc10⟩ := (hs8).iat (i := k) (by omega)
  replace hib10 : ib10 < w.heap.size := hib10
  refine Tk 12 (tf 13 19) rfl (YI_v (v := .pointer (some ⟨ib10, io10 + k, none⟩)) rfl (fun w' hw' => r_idx (b := ib10) (off := io10) (m := n8) (c := c8) (o' := io10 + k) underlying42 sizeOf3 (by rw [← ha10]; rfl) rfl (by omega) (by omega) (by omega))) ?_
  refine Tk 13 (tf 14 19) rfl (YI_v (v := .int .i64 (st.getD k 0)) rfl (fun w' hw' => r_load isAgg3 rfl (hw'.cellk hc10))) ?_
  refine Tk 14 (tf 15 19) rfl (YI_v (v := .agg #[.int .i64 0, .int .i64 (ks.getD k 0), .int .i64 (ss.getD k 0), .int .i64 (st.getD k 0), .bool false]) rfl (fun w' hw' => r_build (pl := #[(0, 1), (1, 1), (2, 1), (3, 1), (4, 1)]) (pv := [(1, .int .i64 (ks.getD k 0)), (2, .int .i64 (ss.getD k 0)), (3, .int .i64 (st.getD k 0))]) (cs := #[.int .i64 0, .int .i64 (ks.getD k 0), .int .i64 (ss.getD k 0), .int .i64 (st.getD k 0), .bool false]) zeroValue51 underlying51 (fun w => by kernel_rfl) (by simp only [List.map_toArray, List.map_cons, List.map_nil] <;> rfl) (by kernel_rfl))) ?_
  intro w11 hU11
  have hzw11 := hU11.size
  replace hs6 := hs6.upd0 hU11
  replace hs7 := hs7.upd0 hU11
  replace hs8 := hs8.upd0 hU11
  replace hb3 := hb3.upd0 hU11
  replace hb5 := hb5.upd0 hU11
  replace hOx := hOx.upd0 hU11
  replace hOy := hOy.upd0 hU11
  replace HL7 := HL7.trans0 hU11
  replace hc8 := cell_upd0 hU11 hc8
  replace hc9 := cell_upd0 hU11 hc9
  replace hc10 := cell_upd0 hU11 hc10
  refine Wa_one (i := 15) (listed' := tf 16 19) (by kernel_rfl) rfl (by kernel_rfl) ?_
  refine Ws_of_Wl ?_
  have hW : Upd No w7 w11 := hU11
  refine Wl_lit (pv := [(0, .agg #[.int .i64 0, .int .i64 (ks.getD k 0), .int .i64 (ss.getD k 0), .int .i64 (st.getD k 0), .bool false])]) (cs := [.int .i64 0, .int .i64 (ks.getD k 0), .int .i64 (ss.getD k 0), .int .i64 (st.getD k 0), .bool false]) underlying43 sizeOf51 zeroValue51 (by decide) (by decide) (by simp only [List.map_toArray, List.map_cons, List.map_nil] <;> rfl) (by kernel_rfl) rfl (by decide) ?_
  intro B12 w12 hB12 hU12 hzz12 hs12
  have hzw12 := hU12.size
  replace hs6 := hs6.upd0 hU12
  replace hs7 := hs7.upd0 hU12
  replace hs8 := hs8.upd0 hU12
  replace hb3 := hb3.upd0 hU12
  replace hb5 := hb5.upd0 hU12
  replace hOx := hOx.upd0 hU12
  replace hOy := hOy.upd0 hU12
  replace HL7 := HL7.trans0 hU12
  replace hc8 := cell_upd0 hU12 hc8
  replace hc9 := cell_upd0 hU12 hc9
  replace hc10 := cell_upd0 hU12 hc10
  try replace hW := hW.trans0 hU12
  replace hs12 : Own w12 (Is B12) 51 5 (.slice (some ⟨B12, 0, none⟩) 1 1) 1 (rows encK [(0, ks.getD k 0, ss.getD k 0, st.getD k 0, false)]) := hs12
  refine Wl_nil ?_
  intro w13 hS13
  have hX : Upd No w7 w13 := hW.trans0 hS13.upd
  refine ⟨fun _ => ⟨hX, ?_⟩, fun h => absurd h (by rw [show barOp _ 15 = false from by kernel_rfl]; simp)⟩
  have hU13 := hS13.upd
  have hzw13 := hU13.size
  replace hs6 := hs6.upd0 hU13
  replace hs7 := hs7.upd0 hU13
  replace hs8 := hs8.upd0 hU13
  replace hb3 := hb3.upd0 hU13
  replace hb5 := hb5.upd0 hU13
  replace hOx := hOx.upd0 hU13
  replace hOy := hOy.upd0 hU13
  replace HL7 := HL7.trans0 hU13
  replace hc8 := cell_upd0 hU13 hc8
  replace hc9 := cell_upd0 hU13 hc9
  replace hc10 := cell_upd0 hU13 hc10
  replace hs12 := hs12.upd0 hU13
  try replace hW := hW.trans0 hU13
  refine Wt_base hX ?_
  intro w14 hU14
  have hzw14 := hU14.size
  replace hs6 := hs6.upd0 hU14
  replace hs7 := hs7.upd0 hU14
  replace hs8 := hs8.upd0 hU14
  replace hb3 := hb3.upd0 hU14
  replace hb5 := hb5.upd0 hU14
  replace hOx := hOx.upd0 hU14
  replace hOy := hOy.upd0 hU14
  replace HL7 := HL7.trans0 hU14
  replace hc8 := cell_upd0 hU14 hc8
  replace hc9 := cell_upd0 hU14 hc9
  replace hc10 := cell_upd0 hU14 hc10
  replace hs12 := hs12.upd0 hU14
  try replace hW := hW.trans0 hU14
  refine Wa_one (i := 16) (listed' := tf 17 19) (by kernel_rfl) rfl (by kernel_rfl) ?_
  refine Ws_of_Wl ?_
  have hW : Upd No w13 w14 := hU14
  refine Wl_appendc (cs3 := rows encK ((b3 ks ss st k) ++ [(0, ks.getD k 0, ss.getD k 0, st.getD k 0, false)])) (tot := mx + 1) (by first | rfl | exact (rows_app _ _).symm | simp) underlying43 (ti := Tryd.t51) (z := .agg #[.int .i64 0, .int .i64 0, .int .i64 0, .int .i64 0, .bool false]) (sz := 5) (by' := 40) rfl rfl rfl rfl rfl (by decide) rfl hOx rfl hs12.sl (rows_one encK_one _) (by omega) (by simp only [maxLen]; omega) (by omega) ?_
  intro a15 c15 w15 hU15 hzz15 hO15
  clear hOx
  have hzw15 := hU15.size
  replace hs6 := hs6.upd hU15 (by intro x h1 h2; have h3 : x < w.heap.size := h1; have h4 : ((x = gx ∧ 0 < mx ∧ w6.heap.size ≤ x) ∧ x < w7.heap.size) := h2; omega)
  replace hs7 := hs7.upd hU15 (by intro x h1 h2; have h3 : x < w.heap.size := h1; have h4 : ((x = gx ∧ 0 < mx ∧ w6.heap.size ≤ x) ∧ x < w7.heap.size) := h2; omega)
  replace hs8 := hs8.upd hU15 (by intro x h1 h2; have h3 : x < w.heap.size := h1; have h4 : ((x = gx ∧ 0 < mx ∧ w6.heap.size ≤ x) ∧ x < w7.heap.size) := h2; omega)
  replace hb3 := hb3.upd hU15 (by intro hx; have hx2 : ((B3 = gx ∧ 0 < mx ∧ w6.heap.size ≤ B3) ∧ B3 < w7.heap.size) := hx; omega)
  replace hb5 := hb5.upd hU15 (by intro hx; have hx2 : ((B5 = gx ∧ 0 < mx ∧ w6.heap.size ≤ B5) ∧ B5 < w7.heap.size) := hx; omega)
  replace hOy := hOy.upd hU15 (by intro x h1 h2; have h3 : ((x = gy ∧ 0 < my ∧ w6.heap.size ≤ x) ∧ x < w7.heap.size) := h1; have h4 : ((x = gx ∧ 0 < mx ∧ w6.heap.size ≤ x) ∧ x < w7.heap.size) := h2; omega)
  replace HL7 := HL7.trans hU15 (by intro x hx; have hx2 : ((x = gx ∧ 0 < mx ∧ w6.heap.size ≤ x) ∧ x < w7.heap.size) := hx; show (x = B3 ∨ x = B5 ∨ w6.heap.size ≤ x) ∨ w6.heap.size ≤ x; omega)
  replace hO15 := hO15.tight
  have hl_hO15 := rlen encK_len (by decide) hO15.sl
  have hc_hO15 := hO15.sl.cap.1
  obtain ⟨go16, hgo16, hOo16⟩ := hO15.one (by omega)
  replace hgo16 : ((((((go16 = gx ∧ 0 < mx ∧ w6.heap.size ≤ go16) ∧ go16 < w7.heap.size)) ∨ go16 = w14.heap.size)) ∧ go16 < w15.heap.size) := hgo16
  clear hO15
  replace hOo16 := hOo16.tight
  refine Wl_nil ?_
  intro w17 hS17
  refine ⟨fun h => absurd h (by rw [show barOp _ 16 = true from by kernel_rfl]; simp), fun _ => ⟨Upd No w17, ?_⟩⟩
  have hU17 := hS17.upd
  have hzw17 := hU17.size
  replace hs6 := hs6.upd0 hU17
  replace hs7 := hs7.upd0 hU17
  replace hs8 := hs8.upd0 hU17
  replace hb3 := hb3.upd0 hU17
  replace hb5 := hb5.upd0 hU17
  replace hOy := hOy.upd0 hU17
  replace HL7 := HL7.trans0 hU17
  replace hOo16 := hOo16.upd0 hU17
  try replace hW := hW.trans0 hU17
  refine Wt_base (Upd.refl _ _) ?_
  refine Tk 17 (tf 18 19) rfl (YI_v (v := .pointer (some ⟨B3, 8, none⟩)) rfl (fun w' hw' => r_fld underlying45 rfl sizeOf43 rfl rfl)) ?_
  intro w18 hU18
  have hzw18 := hU18.size
  replace hs6 := hs6.upd0 hU18
  replace hs7 := hs7.upd0 hU18
  replace hs8 := hs8.upd0 hU18
  replace hb3 := hb3.upd0 hU18
  replace hb5 := hb5.upd0 hU18
  replace hOy := hOy.upd0 hU18
  replace HL7 := HL7.trans0 hU18
  replace hOo16 := hOo16.upd0 hU18
  try replace hW := hW.trans0 hU18
  refine Wa_one (i := 18) (listed' := tf 19 19) (by kernel_rfl) rfl (by kernel_rfl) ?_
  refine Ws_of_Wl ?_
  have hW : Upd No w17 w18 := hU18
  refine Wl_store (v := .slice a15 (mx + 1) c15) (cs' := [.int .i64 i0, .int .i64 i1, .bool (decide (s3 = true)), .int .i64 i2, .int .i64 hd.1, .int .i64 hd.2.1, .int .u32 hd.2.2.1, .bool (decide (hd.2.2.2 = true)), .slice a15 (mx + 1) c15, .int .u32 ck]) sizeOf43 rfl rfl rfl rfl hb3 rfl rfl ?_
  intro w19 hU19 hzz19 hb3n
  replace hb3 := hb3n; clear hb3n
  have hzw19 := hU19.size
  replace hs6 := hs6.upd1 hU19 (show ¬ (B3 < w.heap.size) by omega)
  replace hs7 := hs7.upd1 hU19 (show ¬ (B3 < w.heap.size) by omega)
  replace hs8 := hs8.upd1 hU19 (show ¬ (B3 < w.heap.size) by omega)
  replace hb5 := hb5.upd1 hU19 (by omega)
  replace hOy := hOy.upd1 hU19 (by intro h1; have h3 : ((B3 = gy ∧ 0 < my ∧ w6.heap.size ≤ B3) ∧ B3 < w7.heap.size) := h1; omega)
  replace HL7 := HL7.trans1 hU19 (by show (B3 = B3 ∨ B3 = B5 ∨ w6.heap.size ≤ B3) ∨ w6.heap.size ≤ B3; omega)
  replace hOo16 := hOo16.upd1 hU19 (by intro h1; have h3 : ((B3 = go16) ∧ B3 < w15.heap.size) := h1; omega)
  refine Wl_nil ?_
  intro w20 hS20
  refine ⟨fun h => absurd h (by rw [show barOp _ 18 = true from by kernel_rfl]; simp), fun _ => ⟨Upd No w20, ?_⟩⟩
  have hU20 := hS20.upd
  have hzw20 := hU20.size
  replace hs6 := hs6.upd0 hU20
  replace hs7 := hs7.upd0 hU20
  replace hs8 := hs8.upd0 hU20
  replace hb3 := hb3.upd0 hU20
  replace hb5 := hb5.upd0 hU20
  replace hOy := hOy.upd0 hU20
  replace HL7 := HL7.trans0 hU20
  replace hOo16 := hOo16.upd0 hU20
  try replace hW := hW.trans0 hU20
  refine Wa_done (by kernel_rfl) ?_
  refine W_drawt rfl (l0 := tf 0 19) (by kernel_rfl) ?_
  refine Tk 0 (tf 1 19) rfl (YI_v (v := .pointer (some ⟨B5, 8, none⟩)) rfl (fun w' hw' => r_fld underlying48 rfl sizeOf46 rfl rfl)) ?_
  refine Tk 1 (tf 2 19) rfl (YI_v (v := .slice ay my dy) rfl (fun w' hw' => r_load isAgg46 rfl (by rw [(hb5.upd0 hw').cell]; rfl))) ?_
  refine Tk 2 (tf 3 19) rfl (YI_v (v := .slice a n6 c6) rfl (fun w' hw' => r_mv (v := .slice a n6 c6) rfl)) ?_
  refine Tk 3 (tf 4 19) rfl (YI_v (v := .int .i64 ((k : Nat) : Int)) rfl (fun w' hw' => r_mv (v := .int .i64 ((k : Nat) : Int)) rfl)) ?_
  obtain ⟨ib21, io21, ha21, hib21, hc21⟩ := (hs6).iat (i := k) (by omega)
  replace hib21 : ib21 < w.heap.size := hib21
  refine Tk 4 (tf 5 19) rfl (YI_v (v := .pointer (some ⟨ib21, io21 + k, none⟩)) rfl (fun w' hw' => r_idx (b := ib21) (off := io21) (m := n6) (c := c6) (o' := io21 + k) underlying42 sizeOf3 (by rw [← ha21]; rfl) rfl (by omega) (by omega) (by omega))) ?_
  refine Tk 5 (tf 6 19) rfl (YI_v (v := .int .i64 (ks.getD k 0)) rfl (fun w' hw' => r_load isAgg3 rfl (hw'.cellk hc21))) ?_
  refine Tk 6 (tf 7 19) rfl (YI_v (v := .slice b n7 c7) rfl (fun w' hw' => r_mv (v := .slice b n7 c7) rfl)) ?_
  refine Tk 7 (tf 8 19) rfl (YI_v (v := .int .i64 ((k : Nat) : Int)) rfl (fun w' hw' => r_mv (v := .int .i64 ((k : Nat) : Int)) rfl)) ?_
  obtain ⟨ib22, io22, ha22, hib22, hc22⟩ := (hs7).iat (i := k) (by omega)
  replace hib22 : ib22 < w.heap.size := hib22
  refine Tk 8 (tf 9 19) rfl (YI_v (v := .pointer (some ⟨ib22, io22 + k, none⟩)) rfl (fun w' hw' => r_idx (b := ib22) (off := io22) (m := n7) (c := c7) (o' := io22 + k) underlying42 sizeOf3 (by rw [← ha22]; rfl) rfl (by omega) (by omega) (by omega))) ?_
  refine Tk 9 (tf 10 19) rfl (YI_v (v := .int .i64 (ss.getD k 0)) rfl (fun w' hw' => r_load isAgg3 rfl (hw'.cellk hc22))) ?_
  refine Tk 10 (tf 11 19) rfl (YI_v (v := .slice d n8 c8) rfl (fun w' hw' => r_mv (v := .slice d n8 c8) rfl)) ?_
  refine Tk 11 (tf 12 19) rfl (YI_v (v := .int .i64 ((k : Nat) : Int)) rfl (fun w' hw' => r_mv (v := .int .i64 ((k : Nat) : Int)) rfl)) ?_
  obtain ⟨ib23, io23, ha23, hib23, hc23⟩ := (hs8).iat (i := k) (by omega)
  replace hib23 : ib23 < w.heap.size := hib23
  refine Tk 12 (tf 13 19) rfl (YI_v (v := .pointer (some ⟨ib23, io23 + k, none⟩)) rfl (fun w' hw' => r_idx (b := ib23) (off := io23) (m := n8) (c := c8) (o' := io23 + k) underlying42 sizeOf3 (by rw [← ha23]; rfl) rfl (by omega) (by omega) (by omega))) ?_
  refine Tk 13 (tf 14 19) rfl (YI_v (v := .int .i64 (st.getD k 0)) rfl (fun w' hw' => r_load isAgg3 rfl (hw'.cellk hc23))) ?_
  refine Tk 14 (tf 15 19) rfl (YI_v (v := .agg #[.int .i64 0, .int .i64 (ks.getD k 0), .int .i64 (ss.getD k 0), .int .i64 (st.getD k 0), .bool false]) rfl (fun w' hw' => r_build (pl := #[(0, 1), (1, 1), (2, 1), (3, 1), (4, 1)]) (pv := [(1, .int .i64 (ks.getD k 0)), (2, .int .i64 (ss.getD k 0)), (3, .int .i64 (st.getD k 0))]) (cs := #[.int .i64 0, .int .i64 (ks.getD k 0), .int .i64 (ss.getD k 0), .int .i64 (st.getD k 0), .bool false]) zeroValue53 underlying53 (fun w => by kernel_rfl) (by simp only [List.map_toArray, List.map_cons, List.map_nil] <;> rfl) (by kernel_rfl))) ?_
  intro w24 hU24
  have hzw24 := hU24.size
  replace hb3 := hb3.upd0 hU24
  replace hb5 := hb5.upd0 hU24
  replace hOy := hOy.upd0 hU24
  replace HL7 := HL7.trans0 hU24
  replace hOo16 := hOo16.upd0 hU24
  replace hc21 := cell_upd0 hU24 hc21
  replace hc22 := cell_upd0 hU24 hc22
  replace hc23 := cell_upd0 hU24 hc23
  try replace hW := hW.trans0 hU24
  refine Wa_one (i := 15) (listed' := tf 16 19) (by kernel_rfl) rfl (by kernel_rfl) ?_
  refine Ws_of_Wl ?_
  have hW : Upd No w20 w24 := hU24
  refine Wl_lit (pv := [(0, .agg #[.int .i64 0, .int .i64 (ks.getD k 0), .int .i64 (ss.getD k 0), .int .i64 (st.getD k 0), .bool false])]) (cs := [.int .i64 0, .int .i64 (ks.getD k 0), .int .i64 (ss.getD k 0), .int .i64 (st.getD k 0), .bool false]) underlying46 sizeOf53 zeroValue53 (by decide) (by decide) (by simp only [List.map_toArray, List.map_cons, List.map_nil] <;> rfl) (by kernel_rfl) rfl (by decide) ?_
  intro B25 w25 hB25 hU25 hzz25 hs25
  have hzw25 := hU25.size
  replace hb3 := hb3.upd0 hU25
  replace hb5 := hb5.upd0 hU25
  replace hOy := hOy.upd0 hU25
  replace HL7 := HL7.trans0 hU25
  replace hOo16 := hOo16.upd0 hU25
  replace hc21 := cell_upd0 hU25 hc21
  replace hc22 := cell_upd0 hU25 hc22
  replace hc23 := cell_upd0 hU25 hc23
  try replace hW := hW.trans0 hU25
  replace hs25 : Own w25 (Is B25) 53 5 (.slice (some ⟨B25, 0, none⟩) 1 1) 1 (rows encK [(0, ks.getD k 0, ss.getD k 0, st.getD k 0, false)]) := hs25
  refine Wl_nil ?_
  intro w26 hS26
  have hX : Upd No w20 w26 := hW.trans0 hS26.upd
  refine ⟨fun _ => ⟨hX, ?_⟩, fun h => absurd h (by rw [show barOp _ 15 = false from by kernel_rfl]; simp)⟩
  have hU26 := hS26.upd
  have hzw26 := hU26.size
  replace hb3 := hb3.upd0 hU26
  replace hb5 := hb5.upd0 hU26
  replace hOy := hOy.upd0 hU26
  replace HL7 := HL7.trans0 hU26
  replace hOo16 := hOo16.upd0 hU26
  replace hc21 := cell_upd0 hU26 hc21
  replace hc22 := cell_upd0 hU26 hc22
  replace hc23 := cell_upd0 hU26 hc23
  replace hs25 := hs25.upd0 hU26
  try replace hW := hW.trans0 hU26
  refine Wt_base hX ?_
  intro w27 hU27
  have hzw27 := hU27.size
  replace hb3 := hb3.upd0 hU27
  replace hb5 := hb5.upd0 hU27
  replace hOy := hOy.upd0 hU27
  replace HL7 := HL7.trans0 hU27
  replace hOo16 := hOo16.upd0 hU27
  replace hc21 := cell_upd0 hU27 hc21
  replace hc22 := cell_upd0 hU27 hc22
  replace hc23 := cell_upd0 hU27 hc23
  replace hs25 := hs25.upd0 hU27
  try replace hW := hW.trans0 hU27
  refine Wa_one (i := 16) (listed' := tf 17 19) (by kernel_rfl) rfl (by kernel_rfl) ?_
  refine Ws_of_Wl ?_
  have hW : Upd No w26 w27 := hU27
  refine Wl_appendc (cs3 := rows encK ((b3 ks ss st k) ++ [(0, ks.getD k 0, ss.getD k 0, st.getD k 0, false)])) (tot := my + 1) (by first | rfl | exact (rows_app _ _).symm | simp) underlying46 (ti := Tryd.t53) (z := .agg #[.int .i64 0, .int .i64 0, .int .i64 0, .int .i64 0, .bool false]) (sz := 5) (by' := 40) rfl rfl rfl rfl rfl (by decide) rfl hOy rfl hs25.sl (rows_one encK_one _) (by omega) (by simp only [maxLen]; omega) (by omega) ?_
  intro a28 c28 w28 hU28 hzz28 hO28
  clear hOy
  have hzw28 := hU28.size
  replace hb3 := hb3.upd hU28 (by intro hx; have hx2 : ((B3 = gy ∧ 0 < my ∧ w6.heap.size ≤ B3) ∧ B3 < w7.heap.size) := hx; omega)
  replace hb5 := hb5.upd hU28 (by intro hx; have hx2 : ((B5 = gy ∧ 0 < my ∧ w6.heap.size ≤ B5) ∧ B5 < w7.heap.size) := hx; omega)
  replace HL7 := HL7.trans hU28 (by intro x hx; have hx2 : ((x = gy ∧ 0 < my ∧ w6.heap.size ≤ x) ∧ x < w7.heap.size) := hx; show (x = B3 ∨ x = B5 ∨ w6.heap.size ≤ x) ∨ w6.heap.size ≤ x; omega)
  replace hOo16 := hOo16.upd hU28 (by intro x h1 h2; have h3 : ((x = go16) ∧ x < w15.heap.size) := h1; have h4 : ((x = gy ∧ 0 < my ∧ w6.heap.size ≤ x) ∧ x < w7.heap.size) := h2; omega)
  replace hO28 := hO28.tight
  have hl_hO28 := rlen encK_len (by decide) hO28.sl
  have hc_hO28 := hO28.sl.cap.1
  obtain ⟨go29, hgo29, hOo29⟩ := hO28.one (by omega)
  replace hgo29 : ((((((go29 = gy ∧ 0 < my ∧ w6.heap.size ≤ go29) ∧ go29 < w7.heap.size)) ∨ go29 = w27.heap.size)) ∧ go29 < w28.heap.size) := hgo29
  clear hO28
  replace hOo29 := hOo29.tight
  refine Wl_nil ?_
  intro w30 hS30
  refine ⟨fun h => absurd h (by rw [show barOp _ 16 = true from by kernel_rfl]; simp), fun _ => ⟨Upd No w30, ?_⟩⟩
  have hU30 := hS30.upd
  have hzw30 := hU30.size
  replace hb3 := hb3.upd0 hU30
  replace hb5 := hb5.upd0 hU30
  replace HL7 := HL7.trans0 hU30
  replace hOo16 := hOo16.upd0 hU30
  replace hOo29 := hOo29.upd0 hU30
  try replace hW := hW.trans0 hU30
  refine Wt_base (Upd.refl _ _) ?_
  refine Tk 17 (tf 18 19) rfl (YI_v (v := .pointer (some ⟨B5, 8, none⟩)) rfl (fun w' hw' => r_fld underlying48 rfl sizeOf46 rfl rfl)) ?_
  intro w31 hU31
  have hzw31 := hU31.size
  replace hb3 := hb3.upd0 hU31
  replace hb5 := hb5.upd0 hU31
  replace HL7 := HL7.trans0 hU31
  replace hOo16 := hOo16.upd0 hU31
  replace hOo29 := hOo29.upd0 hU31
  try replace hW := hW.trans0 hU31
  refine Wa_one (i := 18) (listed' := tf 19 19) (by kernel_rfl) rfl (by kernel_rfl) ?_
  refine Ws_of_Wl ?_
  have hW : Upd No w30 w31 := hU31
  refine Wl_store (v := .slice a28 (my + 1) c28) (cs' := [.int .i64 i0, .int .i64 i1, .bool (decide (s3 = true)), .int .i64 i2, .int .i64 hd.1, .int .i64 hd.2.1, .int .u32 hd.2.2.1, .bool (decide (hd.2.2.2 = true)), .slice a28 (my + 1) c28, .int .u32 ck]) sizeOf46 rfl rfl rfl rfl hb5 rfl rfl ?_
  intro w32 hU32 hzz32 hb5n
  replace hb5 := hb5n; clear hb5n
  have hzw32 := hU32.size
  replace hb3 := hb3.upd1 hU32 (by omega)
  replace HL7 := HL7.trans1 hU32 (by show (B5 = B3 ∨ B5 = B5 ∨ w6.heap.size ≤ B5) ∨ w6.heap.size ≤ B5; omega)
  replace hOo16 := hOo16.upd1 hU32 (by intro h1; have h3 : ((B5 = go16) ∧ B5 < w15.heap.size) := h1; omega)
  replace hOo29 := hOo29.upd1 hU32 (by intro h1; have h3 : ((B5 = go29) ∧ B5 < w28.heap.size) := h1; omega)
  refine Wl_nil ?_
  intro w33 hS33
  refine ⟨fun h => absurd h (by rw [show barOp _ 18 = true from by kernel_rfl]; simp), fun _ => ⟨Upd No w33, ?_⟩⟩
  have hU33 := hS33.upd
  have hzw33 := hU33.size
  replace hb3 := hb3.upd0 hU33
  replace hb5 := hb5.upd0 hU33
  replace HL7 := HL7.trans0 hU33
  replace hOo16 := hOo16.upd0 hU33
  replace hOo29 := hOo29.upd0 hU33
  try replace hW := hW.trans0 hU33
  refine Wa_done (by kernel_rfl) ?_
  refine W_region ?_
  refine Wmv (.int .i64 ((k : Nat) : Int)) ?_
  refine Wl_v (r_add rfl rfl (wi64 (by omega) (by omega))) ?_
  refine Was (.int .i64 (((k : Nat) : Int) + 1)) ?_
  refine Wl_nil ?_
  refine ⟨_, ?_, (k + 1), a15, (mx + 1), c15, go16, a28, (my + 1), c28, go29, rfl, rfl, ⟨rfl, rfl, rfl, rfl, rfl, rfl, (Eq.trans (b := .int .i64 (((k : Nat) : Int) + 1)) rfl (vint (by omega))), trivial⟩, (by omega), (by omega), (by omega), (by omega), hb3, hb5, (hOo16.weak (by intro g hg; have h3 : ((g = go16) ∧ g < w15.heap.size) := hg; show g = go16 ∧ 0 < (mx + 1) ∧ w6.heap.size ≤ g; omega)), (hOo29.weak (by intro g hg; have h3 : ((g = go29) ∧ g < w28.heap.size) := hg; show g = go29 ∧ 0 < (my + 1) ∧ w6.heap.size ≤ g; omega)), HL7⟩
  omega
 rw [decide_eq_false q2]
 refine W_cond_f rfl ?_
 refine W_exit ?_
 refine W_seq ?_
 refine W_drawt rfl (l0 := tf 0 9) (by kernel_rfl) ?_
 refine Tk 0 (tf 1 9) rfl (YI_v (v := .agg #[.int .i64 i0, .int .i64 i1, .bool (decide (s3 = true)), .int .i64 i2, .int .i64 hd.1, .int .i64 hd.2.1, .int .u32 hd.2.2.1, .bool (decide (hd.2.2.2 = true)), .slice ax mx dx, .int .u32 ck]) rfl (fun w' hw' => r_loada (b := B3) (off := 0) (cs := [.int .i64 i0, .int .i64 i1, .bool (decide (s3 = true)), .int .i64 i2, .int .i64 hd.1, .int .i64 hd.2.1, .int .u32 hd.2.2.1, .bool (decide (hd.2.2.2 = true)), .slice ax mx dx, .int .u32 ck]) isAgg45 sizeOf45 rfl rfl (fun j hj => by rw [(hb3.upd0 hw').cell]; match j, hj with | 0, _ => rfl | 1, _ => rfl | 2, _ => rfl | 3, _ => rfl | 4, _ => rfl | 5, _ => rfl | 6, _ => rfl | 7, _ => rfl | 8, _ => rfl | 9, _ => rfl))) ?_
 refine Tk 1 (tf 2 9) rfl (YI_c (v := .string (strOfNums (lin (pln i0 i1 i2 s3 hd ck (b3 ks ss st (k)))))) rfl (fun w' => r_call1 rfl call17 rfl) (fun w' hw' => line_spec w' (ht.upd0 hw') (ok_pln h0 h1 h2 h3 h4 h5 h6 (b3_ok r6 r7 r8 k) (by rw [b3_len]; omega)) ((hOx.upd0 hw').sl.any))) ?_
 refine Tk 2 (tf 3 9) rfl (YI_v (v := .agg #[.int .i64 i0, .int .i64 i1, .bool (decide (s3 = true)), .int .i64 i2, .int .i64 hd.1, .int .i64 hd.2.1, .int .u32 hd.2.2.1, .bool (decide (hd.2.2.2 = true)), .slice ay my dy, .int .u32 ck]) rfl (fun w' hw' => r_loada (b := B5) (off := 0) (cs := [.int .i64 i0, .int .i64 i1, .bool (decide (s3 = true)), .int .i64 i2, .int .i64 hd.1, .int .i64 hd.2.1, .int .u32 hd.2.2.1, .bool (decide (hd.2.2.2 = true)), .slice ay my dy, .int .u32 ck]) isAgg48 sizeOf48 rfl rfl (fun j hj => by rw [(hb5.upd0 hw').cell]; match j, hj with | 0, _ => rfl | 1, _ => rfl | 2, _ => rfl | 3, _ => rfl | 4, _ => rfl | 5, _ => rfl | 6, _ => rfl | 7, _ => rfl | 8, _ => rfl | 9, _ => rfl))) ?_
 refine Tk 3 (tf 4 9) rfl (YI_c (v := .string (strOfNums (lin (pln i0 i1 i2 s3 hd ck (b3 ks ss st (k)))))) rfl (fun w' => r_call1 rfl call18 rfl) (fun w' hw' => rline_spec w' (ok_pln h0 h1 h2 h3 h4 h5 h6 (b3_ok r6 r7 r8 k) (by rw [b3_len]; omega)) ((hOy.upd0 hw').sl.any))) ?_
 refine Tk 4 (tf 5 9) rfl (YI_v (v := .bool (decide ((lin (pln i0 i1 i2 s3 hd ck (b3 ks ss st (k)))) = (lin (pln i0 i1 i2 s3 hd ck (b3 ks ss st (k))))))) rfl (fun w' hw' => r_eqstr (show Byt (lin (pln i0 i1 i2 s3 hd ck (b3 ks ss st (k)))) from (lin_byt (ok_pln h0 h1 h2 h3 h4 h5 h6 (b3_ok r6 r7 r8 k) (by rw [b3_len]; omega)))) (show Byt (lin (pln i0 i1 i2 s3 hd ck (b3 ks ss st (k)))) from (lin_byt (ok_pln h0 h1 h2 h3 h4 h5 h6 (b3_ok r6 r7 r8 k) (by rw [b3_len]; omega)))) rfl rfl)) ?_
 refine Tk 5 (tf 6 9) rfl (YI_v (v := .bool (decide ((lin (pln i0 i1 i2 s3 hd ck (b3 ks ss st (k)))) = (lin (pln i0 i1 i2 s3 hd ck (b3 ks ss st (k))))))) rfl (fun w' hw' => r_mv (v := .bool (decide ((lin (pln i0 i1 i2 s3 hd ck (b3 ks ss st (k)))) = (lin (pln i0 i1 i2 s3 hd ck (b3 ks ss st (k))))))) rfl)) ?_
 have q3 : (lin (pln i0 i1 i2 s3 hd ck (b3 ks ss st (k)))) = (lin (pln i0 i1 i2 s3 hd ck (b3 ks ss st (k)))) := rfl
 rw [decide_eq_true q3]
 refine Tk 6 (tf 7 9) rfl (YI_c (v := .bool true) rfl (fun w' => r_call0 rfl call10 ) (fun w' hw' => works44 w' (ht.upd0 hw'))) ?_
 refine Tk 7 (tf 8 9) rfl (YI_v rfl (fun w' hw' => r_pick_t (v := .bool true) rfl rfl)) ?_
 refine Tk 8 (tf 9 9) rfl (YI_v (v := .bool true) rfl (fun w' hw' => r_as (v := .bool true) rfl)) ?_
 intro w34 hU34
 have hzw34 := hU34.size
 replace HU := HU.trans0 hU34
 refine Wa_done (by kernel_rfl) ?_
 refine W_ret ?_
 refine ret_end (v := .bool true) rfl (res1 results5 rfl) ?_
 exact ⟨_, rfl, rfl, HU⟩
end Go.Proofs.YtbjjhfoeckkacaaDoor
