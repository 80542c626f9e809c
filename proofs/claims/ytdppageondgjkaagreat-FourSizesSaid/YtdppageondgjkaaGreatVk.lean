/-
 Walks, printed by a small program of this project (gen.py).
-/
import Derived.Test.YtdppageondgjkaaGreatVf
set_option linter.unusedVariables false
set_option linter.unusedSimpArgs false
namespace Go.Proofs.YtdppageondgjkaaGreat
open Go.Fw
open Nu
set_option maxRecDepth 100000 in
theorem rjoin4 {a : Option Addr} {c : Nat} {ja jb jc jd : Option Addr} {ka kb kc kd qa qb qc qd : Nat} {xa xb xc xd : List Int} {R : Nat → Prop} (w : World) (hS : Sl w R 1 (.slice a 4 c) 4 ([.slice ja ka qa, .slice jb kb qb, .slice jc kc qc, .slice jd kd qd])) (ha : Sl w (fun g => g < w.heap.size) 1 (.slice ja ka qa) ka (ints .u8 xa)) (hb : Sl w (fun g => g < w.heap.size) 1 (.slice jb kb qb) kb (ints .u8 xb)) (hc : Sl w (fun g => g < w.heap.size) 1 (.slice jc kc qc) kc (ints .u8 xc)) (hd : Sl w (fun g => g < w.heap.size) 1 (.slice jd kd qd) kd (ints .u8 xd)) (hn : ka + kb + kc + kd ≤ 140737488350000) :
  Calls Tryz.prog 22 #[.slice a 4 c] w (Ret fun v w' => ∃ (a' : Option Addr) (m' : Nat) (c' : Nat), v = .slice a' m' c' ∧ Own w' (fun g => w.heap.size ≤ g) 5 1 (.slice a' m' c') m' (ints .u8 (jn xa xb xc xd)) ∧ Upd No w w') := by
 have HU : Upd (fun b => False) w w := Upd.refl _ _
 have hl_hS := hS.len
 have hc_hS := hS.cap.1
 replace hS := hS.tight
 have hl_ha := ilen ha
 have hc_ha := ha.cap.1
 have hl_hb := ilen hb
 have hc_hb := hb.cap.1
 have hl_hc := ilen hc
 have hc_hc := hc.cap.1
 have hl_hd := ilen hd
 have hc_hd := hd.cap.1
 refine calls_of_W Tryz.func22 rfl Tryz.ntmps22 (by simp) ?_
 refine W_seq (W_region ?_)
 refine Was (.slice none 0 0) ?_
 refine Wl_nil (W_seq (W_region ?_))
 refine Was (.slice none 0 0) ?_
 refine Wl_nil (W_seq (W_seq (W_region ?_)))
 refine Was (.int .i64 0) ?_
 refine Wl_nil (W_block ?_)
 refine W_unroll 5 ?_
 refine unrK_succ ?_
 refine W_seq (W_seq (W_region ?_))
 refine Wmv (.int .i64 0) ?_
 refine Wl_v (v := .bool true) (r_lt (a := 0) (b := 3) rfl rfl) ?_
 refine Wl_nil ?_
 refine W_cond_t rfl ?_
 refine W_skip (W_seq (W_block (W_region ?_)))
 refine Wmv (.slice none 0 0) ?_
 refine Wmv (.slice a 4 c) ?_
 refine Wmv (.int .i64 0) ?_
 refine Wl_idxc (i' := 0) (v := .slice ja ka qa) Tryz.underlying41 Tryz.sizeOf32 rfl rfl (by first | rfl | omega) hS (by decide) rfl ?_
 intro ib1 io1 hc1
 refine Wl_loadc Tryz.isAgg32 rfl hc1 ?_
 refine Wl_v (r_len Tryz.underlying32 rfl) ?_
 refine Wl_v (r_cvt Tryz.underlying3 Tryz.underlying76 rfl (wu64 (by omega) (by omega))) ?_
 refine Wl_call (r_call1 rfl Tryz.call48 rfl) (Nu.rvarint_spec _ (by omega) (by omega)) ?_
 rintro v w2 ⟨a2, c2, rfl, hO2, hU2⟩
 have hzw2 := hU2.size
 replace hS := hS.upd0 hU2
 replace ha := ha.upd0 hU2
 replace hb := hb.upd0 hU2
 replace hc := hc.upd0 hU2
 replace hd := hd.upd0 hU2
 replace HU := HU.trans0 hU2
 replace hO2 := hO2.tight
 have hl_hO2 := ilen hO2.sl
 have hc_hO2 := hO2.sl.cap.1
 have hvl2 := vi_len ((ka : Nat) : Int)
 refine Wl_appendi (xs := []) (ys := vi ((ka : Nat) : Int)) (zs := vi ((ka : Nat) : Int)) (k' := .u8) (tot := (vi ((ka : Nat) : Int)).length) (by first | rfl | exact (rows_app _ _).symm | simp) Tryz.underlying32 (ti := Tryz.t5) (z := .int .u8 0) (sz := 1) (by' := 1) rfl rfl rfl rfl rfl (by decide) rfl (Own.nil _ No _ _) rfl hO2.sl  (by omega) (by simp only [maxLen]; omega) (by omega) ?_
 intro a3 c3 w3 hU3 hzz3 hO3
 have hzw3 := hU3.size
 replace hS := hS.upd0 hU3
 replace ha := ha.upd0 hU3
 replace hb := hb.upd0 hU3
 replace hc := hc.upd0 hU3
 replace hd := hd.upd0 hU3
 replace HU := HU.trans0 hU3
 replace hO3 := hO3.weak (R' := fun g => g = w2.heap.size) (fun g h => h.elim (fun x => x.elim) id)
 replace hO3 := hO3.tight
 have hl_hO3 := ilen hO3.sl
 have hc_hO3 := hO3.sl.cap.1
 refine Was (.slice a3 ((vi ((ka : Nat) : Int)).length) c3) ?_
 refine Wl_nil (W_region ?_)
 refine Wmv (.int .i64 0) ?_
 refine Wl_v (r_add rfl rfl (show _ = (1 : Int) from by decide)) ?_
 refine Was (.int .i64 1) ?_
 refine Wl_nil ?_
 refine unrK_succ ?_
 refine W_seq (W_seq (W_region ?_))
 refine Wmv (.int .i64 1) ?_
 refine Wl_v (v := .bool true) (r_lt (a := 1) (b := 3) rfl rfl) ?_
 refine Wl_nil ?_
 refine W_cond_t rfl ?_
 refine W_skip (W_seq (W_block (W_region ?_)))
 refine Wmv (.slice a3 ((vi ((ka : Nat) : Int)).length) c3) ?_
 refine Wmv (.slice a 4 c) ?_
 refine Wmv (.int .i64 1) ?_
 refine Wl_idxc (i' := 1) (v := .slice jb kb qb) Tryz.underlying41 Tryz.sizeOf32 rfl rfl (by first | rfl | omega) hS (by decide) rfl ?_
 intro ib4 io4 hc4
 refine Wl_loadc Tryz.isAgg32 rfl hc4 ?_
 refine Wl_v (r_len Tryz.underlying32 rfl) ?_
 refine Wl_v (r_cvt Tryz.underlying3 Tryz.underlying76 rfl (wu64 (by omega) (by omega))) ?_
 refine Wl_call (r_call1 rfl Tryz.call48 rfl) (Nu.rvarint_spec _ (by omega) (by omega)) ?_
 rintro v w5 ⟨a5, c5, rfl, hO5, hU5⟩
 have hzw5 := hU5.size
 replace hS := hS.upd0 hU5
 replace ha := ha.upd0 hU5
 replace hb := hb.upd0 hU5
 replace hc := hc.upd0 hU5
 replace hd := hd.upd0 hU5
 replace HU := HU.trans0 hU5
 replace hO3 := hO3.upd0 hU5
 replace hO5 := hO5.tight
 have hl_hO5 := ilen hO5.sl
 have hc_hO5 := hO5.sl.cap.1
 have hvl5 := vi_len ((kb : Nat) : Int)
 refine Wl_appendi (xs := vi ((ka : Nat) : Int)) (ys := vi ((kb : Nat) : Int)) (zs := (vi ((ka : Nat) : Int)) ++ (vi ((kb : Nat) : Int))) (k' := .u8) (tot := ((vi ((ka : Nat) : Int)).length) + ((vi ((kb : Nat) : Int)).length)) (by first | rfl | exact (rows_app _ _).symm | simp) Tryz.underlying32 (ti := Tryz.t5) (z := .int .u8 0) (sz := 1) (by' := 1) rfl rfl rfl rfl rfl (by decide) rfl hO3 rfl hO5.sl  (by omega) (by simp only [maxLen]; omega) (by omega) ?_
 intro a6 c6 w6 hU6 hzz6 hO6
 clear hO3
 have hzw6 := hU6.size
 replace hS := hS.upd hU6 (by intro x h1 h2; have h3 : ((R x) ∧ x < w.heap.size) := h1; have h4 : ((x = w2.heap.size) ∧ x < w3.heap.size) := h2; omega)
 replace ha := ha.upd hU6 (by intro x h1 h2; have h3 : x < w.heap.size := h1; have h4 : ((x = w2.heap.size) ∧ x < w3.heap.size) := h2; omega)
 replace hb := hb.upd hU6 (by intro x h1 h2; have h3 : x < w.heap.size := h1; have h4 : ((x = w2.heap.size) ∧ x < w3.heap.size) := h2; omega)
 replace hc := hc.upd hU6 (by intro x h1 h2; have h3 : x < w.heap.size := h1; have h4 : ((x = w2.heap.size) ∧ x < w3.heap.size) := h2; omega)
 replace hd := hd.upd hU6 (by intro x h1 h2; have h3 : x < w.heap.size := h1; have h4 : ((x = w2.heap.size) ∧ x < w3.heap.size) := h2; omega)
 replace HU := HU.trans hU6 (by intro x hx; have hx2 : ((x = w2.heap.size) ∧ x < w3.heap.size) := hx; show (False) ∨ w.heap.size ≤ x; omega)
 replace hO6 := hO6.tight
 have hl_hO6 := ilen hO6.sl
 have hc_hO6 := hO6.sl.cap.1
 refine Was (.slice a6 (((vi ((ka : Nat) : Int)).length) + ((vi ((kb : Nat) : Int)).length)) c6) ?_
 refine Wl_nil (W_region ?_)
 refine Wmv (.int .i64 1) ?_
 refine Wl_v (r_add rfl rfl (show _ = (2 : Int) from by decide)) ?_
 refine Was (.int .i64 2) ?_
 refine Wl_nil ?_
 refine unrK_succ ?_
 refine W_seq (W_seq (W_region ?_))
 refine Wmv (.int .i64 2) ?_
 refine Wl_v (v := .bool true) (r_lt (a := 2) (b := 3) rfl rfl) ?_
 refine Wl_nil ?_
 refine W_cond_t rfl ?_
 refine W_skip (W_seq (W_block (W_region ?_)))
 refine Wmv (.slice a6 (((vi ((ka : Nat) : Int)).length) + ((vi ((kb : Nat) : Int)).length)) c6) ?_
 refine Wmv (.slice a 4 c) ?_
 refine Wmv (.int .i64 2) ?_
 refine Wl_idxc (i' := 2) (v := .slice jc kc qc) Tryz.underlying41 Tryz.sizeOf32 rfl rfl (by first | rfl | omega) hS (by decide) rfl ?_
 intro ib7 io7 hc7
 refine Wl_loadc Tryz.isAgg32 rfl hc7 ?_
 refine Wl_v (r_len Tryz.underlying32 rfl) ?_
 refine Wl_v (r_cvt Tryz.underlying3 Tryz.underlying76 rfl (wu64 (by omega) (by omega))) ?_
 refine Wl_call (r_call1 rfl Tryz.call48 rfl) (Nu.rvarint_spec _ (by omega) (by omega)) ?_
 rintro v w8 ⟨a8, c8, rfl, hO8, hU8⟩
 have hzw8 := hU8.size
 replace hS := hS.upd0 hU8
 replace ha := ha.upd0 hU8
 replace hb := hb.upd0 hU8
 replace hc := hc.upd0 hU8
 replace hd := hd.upd0 hU8
 replace HU := HU.trans0 hU8
 replace hO6 := hO6.upd0 hU8
 replace hO8 := hO8.tight
 have hl_hO8 := ilen hO8.sl
 have hc_hO8 := hO8.sl.cap.1
 have hvl8 := vi_len ((kc : Nat) : Int)
 refine Wl_appendi (xs := (vi ((ka : Nat) : Int)) ++ (vi ((kb : Nat) : Int))) (ys := vi ((kc : Nat) : Int)) (zs := (vi ((ka : Nat) : Int)) ++ (vi ((kb : Nat) : Int)) ++ (vi ((kc : Nat) : Int))) (k' := .u8) (tot := (((vi ((ka : Nat) : Int)).length) + ((vi ((kb : Nat) : Int)).length)) + ((vi ((kc : Nat) : Int)).length)) (by first | rfl | exact (rows_app _ _).symm | simp) Tryz.underlying32 (ti := Tryz.t5) (z := .int .u8 0) (sz := 1) (by' := 1) rfl rfl rfl rfl rfl (by decide) rfl hO6 rfl hO8.sl  (by omega) (by simp only [maxLen]; omega) (by omega) ?_
 intro a9 c9 w9 hU9 hzz9 hO9
 clear hO6
 have hzw9 := hU9.size
 replace hS := hS.upd hU9 (by intro x h1 h2; have h3 : ((R x) ∧ x < w.heap.size) := h1; have h4 : ((((((x = w2.heap.size) ∧ x < w3.heap.size)) ∨ x = w5.heap.size)) ∧ x < w6.heap.size) := h2; omega)
 replace ha := ha.upd hU9 (by intro x h1 h2; have h3 : x < w.heap.size := h1; have h4 : ((((((x = w2.heap.size) ∧ x < w3.heap.size)) ∨ x = w5.heap.size)) ∧ x < w6.heap.size) := h2; omega)
 replace hb := hb.upd hU9 (by intro x h1 h2; have h3 : x < w.heap.size := h1; have h4 : ((((((x = w2.heap.size) ∧ x < w3.heap.size)) ∨ x = w5.heap.size)) ∧ x < w6.heap.size) := h2; omega)
 replace hc := hc.upd hU9 (by intro x h1 h2; have h3 : x < w.heap.size := h1; have h4 : ((((((x = w2.heap.size) ∧ x < w3.heap.size)) ∨ x = w5.heap.size)) ∧ x < w6.heap.size) := h2; omega)
 replace hd := hd.upd hU9 (by intro x h1 h2; have h3 : x < w.heap.size := h1; have h4 : ((((((x = w2.heap.size) ∧ x < w3.heap.size)) ∨ x = w5.heap.size)) ∧ x < w6.heap.size) := h2; omega)
 replace HU := HU.trans hU9 (by intro x hx; have hx2 : ((((((x = w2.heap.size) ∧ x < w3.heap.size)) ∨ x = w5.heap.size)) ∧ x < w6.heap.size) := hx; show (False) ∨ w.heap.size ≤ x; omega)
 replace hO9 := hO9.tight
 have hl_hO9 := ilen hO9.sl
 have hc_hO9 := hO9.sl.cap.1
 refine Was (.slice a9 ((((vi ((ka : Nat) : Int)).length) + ((vi ((kb : Nat) : Int)).length)) + ((vi ((kc : Nat) : Int)).length)) c9) ?_
 refine Wl_nil (W_region ?_)
 refine Wmv (.int .i64 2) ?_
 refine Wl_v (r_add rfl rfl (show _ = (3 : Int) from by decide)) ?_
 refine Was (.int .i64 3) ?_
 refine Wl_nil ?_
 refine unrK_succ ?_
 refine W_seq (W_seq (W_region ?_))
 refine Wmv (.int .i64 3) ?_
 refine Wl_v (v := .bool false) (r_lt (a := 3) (b := 3) rfl rfl) ?_
 refine Wl_nil ?_
 refine W_cond_f rfl ?_
 refine W_exit ?_
 refine W_seq (W_seq (W_region ?_))
 refine Was (.int .i64 0) ?_
 refine Wl_nil (W_block ?_)
 refine W_unroll 5 ?_
 refine unrK_succ ?_
 refine W_seq (W_seq (W_region ?_))
 refine Wmv (.int .i64 0) ?_
 refine Wl_v (v := .bool true) (r_lt (a := 0) (b := 4) rfl rfl) ?_
 refine Wl_nil ?_
 refine W_cond_t rfl ?_
 refine W_skip (W_seq (W_block (W_region ?_)))
 refine Wmv (.slice a9 ((((vi ((ka : Nat) : Int)).length) + ((vi ((kb : Nat) : Int)).length)) + ((vi ((kc : Nat) : Int)).length)) c9) ?_
 refine Wmv (.slice a 4 c) ?_
 refine Wmv (.int .i64 0) ?_
 refine Wl_idxc (i' := 0) (v := .slice ja ka qa) Tryz.underlying41 Tryz.sizeOf32 rfl rfl (by first | rfl | omega) hS (by decide) rfl ?_
 intro ib10 io10 hc10
 refine Wl_loadc Tryz.isAgg32 rfl hc10 ?_
 refine Wl_appendi (xs := (vi ((ka : Nat) : Int)) ++ (vi ((kb : Nat) : Int)) ++ (vi ((kc : Nat) : Int))) (ys := xa) (zs := (vi ((ka : Nat) : Int)) ++ (vi ((kb : Nat) : Int)) ++ (vi ((kc : Nat) : Int)) ++ xa) (k' := .u8) (tot := ((((vi ((ka : Nat) : Int)).length) + ((vi ((kb : Nat) : Int)).length)) + ((vi ((kc : Nat) : Int)).length)) + ka) (by first | rfl | exact (rows_app _ _).symm | simp) Tryz.underlying32 (ti := Tryz.t5) (z := .int .u8 0) (sz := 1) (by' := 1) rfl rfl rfl rfl rfl (by decide) rfl hO9 rfl ha  (by omega) (by simp only [maxLen]; omega) (by omega) ?_
 intro a11 c11 w11 hU11 hzz11 hO11
 clear hO9
 have hzw11 := hU11.size
 replace hS := hS.upd hU11 (by intro x h1 h2; have h3 : ((R x) ∧ x < w.heap.size) := h1; have h4 : ((((((((((x = w2.heap.size) ∧ x < w3.heap.size)) ∨ x = w5.heap.size)) ∧ x < w6.heap.size)) ∨ x = w8.heap.size)) ∧ x < w9.heap.size) := h2; omega)
 replace hb := hb.upd hU11 (by intro x h1 h2; have h3 : x < w.heap.size := h1; have h4 : ((((((((((x = w2.heap.size) ∧ x < w3.heap.size)) ∨ x = w5.heap.size)) ∧ x < w6.heap.size)) ∨ x = w8.heap.size)) ∧ x < w9.heap.size) := h2; omega)
 replace hc := hc.upd hU11 (by intro x h1 h2; have h3 : x < w.heap.size := h1; have h4 : ((((((((((x = w2.heap.size) ∧ x < w3.heap.size)) ∨ x = w5.heap.size)) ∧ x < w6.heap.size)) ∨ x = w8.heap.size)) ∧ x < w9.heap.size) := h2; omega)
 replace hd := hd.upd hU11 (by intro x h1 h2; have h3 : x < w.heap.size := h1; have h4 : ((((((((((x = w2.heap.size) ∧ x < w3.heap.size)) ∨ x = w5.heap.size)) ∧ x < w6.heap.size)) ∨ x = w8.heap.size)) ∧ x < w9.heap.size) := h2; omega)
 replace HU := HU.trans hU11 (by intro x hx; have hx2 : ((((((((((x = w2.heap.size) ∧ x < w3.heap.size)) ∨ x = w5.heap.size)) ∧ x < w6.heap.size)) ∨ x = w8.heap.size)) ∧ x < w9.heap.size) := hx; show (False) ∨ w.heap.size ≤ x; omega)
 replace hO11 := hO11.tight
 have hl_hO11 := ilen hO11.sl
 have hc_hO11 := hO11.sl.cap.1
 refine Was (.slice a11 (((((vi ((ka : Nat) : Int)).length) + ((vi ((kb : Nat) : Int)).length)) + ((vi ((kc : Nat) : Int)).length)) + ka) c11) ?_
 refine Wl_nil (W_region ?_)
 refine Wmv (.int .i64 0) ?_
 refine Wl_v (r_add rfl rfl (show _ = (1 : Int) from by decide)) ?_
 refine Was (.int .i64 1) ?_
 refine Wl_nil ?_
 refine unrK_succ ?_
 refine W_seq (W_seq (W_region ?_))
 refine Wmv (.int .i64 1) ?_
 refine Wl_v (v := .bool true) (r_lt (a := 1) (b := 4) rfl rfl) ?_
 refine Wl_nil ?_
 refine W_cond_t rfl ?_
 refine W_skip (W_seq (W_block (W_region ?_)))
 refine Wmv (.slice a11 (((((vi ((ka : Nat) : Int)).length) + ((vi ((kb : Nat) : Int)).length)) + ((vi ((kc : Nat) : Int)).length)) + ka) c11) ?_
 refine Wmv (.slice a 4 c) ?_
 refine Wmv (.int .i64 1) ?_
 refine Wl_idxc (i' := 1) (v := .slice jb kb qb) Tryz.underlying41 Tryz.sizeOf32 rfl rfl (by first | rfl | omega) hS (by decide) rfl ?_
 intro ib12 io12 hc12
 refine Wl_loadc Tryz.isAgg32 rfl hc12 ?_
 refine Wl_appendi (xs := (vi ((ka : Nat) : Int)) ++ (vi ((kb : Nat) : Int)) ++ (vi ((kc : Nat) : Int)) ++ xa) (ys := xb) (zs := (vi ((ka : Nat) : Int)) ++ (vi ((kb : Nat) : Int)) ++ (vi ((kc : Nat) : Int)) ++ xa ++ xb) (k' := .u8) (tot := (((((vi ((ka : Nat) : Int)).length) + ((vi ((kb : Nat) : Int)).length)) + ((vi ((kc : Nat) : Int)).length)) + ka) + kb) (by first | rfl | exact (rows_app _ _).symm | simp) Tryz.underlying32 (ti := Tryz.t5) (z := .int .u8 0) (sz := 1) (by' := 1) rfl rfl rfl rfl rfl (by decide) rfl hO11 rfl hb  (by omega) (by simp only [maxLen]; omega) (by omega) ?_
 intro a13 c13 w13 hU13 hzz13 hO13
 clear hO11
 have hzw13 := hU13.size
 replace hS := hS.upd hU13 (by intro x h1 h2; have h3 : ((R x) ∧ x < w.heap.size) := h1; have h4 : ((((((((((((((x = w2.heap.size) ∧ x < w3.heap.size)) ∨ x = w5.heap.size)) ∧ x < w6.heap.size)) ∨ x = w8.heap.size)) ∧ x < w9.heap.size)) ∨ x = w9.heap.size)) ∧ x < w11.heap.size) := h2; omega)
 replace hc := hc.upd hU13 (by intro x h1 h2; have h3 : x < w.heap.size := h1; have h4 : ((((((((((((((x = w2.heap.size) ∧ x < w3.heap.size)) ∨ x = w5.heap.size)) ∧ x < w6.heap.size)) ∨ x = w8.heap.size)) ∧ x < w9.heap.size)) ∨ x = w9.heap.size)) ∧ x < w11.heap.size) := h2; omega)
 replace hd := hd.upd hU13 (by intro x h1 h2; have h3 : x < w.heap.size := h1; have h4 : ((((((((((((((x = w2.heap.size) ∧ x < w3.heap.size)) ∨ x = w5.heap.size)) ∧ x < w6.heap.size)) ∨ x = w8.heap.size)) ∧ x < w9.heap.size)) ∨ x = w9.heap.size)) ∧ x < w11.heap.size) := h2; omega)
 replace HU := HU.trans hU13 (by intro x hx; have hx2 : ((((((((((((((x = w2.heap.size) ∧ x < w3.heap.size)) ∨ x = w5.heap.size)) ∧ x < w6.heap.size)) ∨ x = w8.heap.size)) ∧ x < w9.heap.size)) ∨ x = w9.heap.size)) ∧ x < w11.heap.size) := hx; show (False) ∨ w.heap.size ≤ x; omega)
 replace hO13 := hO13.tight
 have hl_hO13 := ilen hO13.sl
 have hc_hO13 := hO13.sl.cap.1
 refine Was (.slice a13 ((((((vi ((ka : Nat) : Int)).length) + ((vi ((kb : Nat) : Int)).length)) + ((vi ((kc : Nat) : Int)).length)) + ka) + kb) c13) ?_
 refine Wl_nil (W_region ?_)
 refine Wmv (.int .i64 1) ?_
 refine Wl_v (r_add rfl rfl (show _ = (2 : Int) from by decide)) ?_
 refine Was (.int .i64 2) ?_
 refine Wl_nil ?_
 refine unrK_succ ?_
 refine W_seq (W_seq (W_region ?_))
 refine Wmv (.int .i64 2) ?_
 refine Wl_v (v := .bool true) (r_lt (a := 2) (b := 4) rfl rfl) ?_
 refine Wl_nil ?_
 refine W_cond_t rfl ?_
 refine W_skip (W_seq (W_block (W_region ?_)))
 refine Wmv (.slice a13 ((((((vi ((ka : Nat) : Int)).length) + ((vi ((kb : Nat) : Int)).length)) + ((vi ((kc : Nat) : Int)).length)) + ka) + kb) c13) ?_
 refine Wmv (.slice a 4 c) ?_
 refine Wmv (.int .i64 2) ?_
 refine Wl_idxc (i' := 2) (v := .slice jc kc qc) Tryz.underlying41 Tryz.sizeOf32 rfl rfl (by first | rfl | omega) hS (by decide) rfl ?_
 intro ib14 io14 hc14
 refine Wl_loadc Tryz.isAgg32 rfl hc14 ?_
 refine Wl_appendi (xs := (vi ((ka : Nat) : Int)) ++ (vi ((kb : Nat) : Int)) ++ (vi ((kc : Nat) : Int)) ++ xa ++ xb) (ys := xc) (zs := (vi ((ka : Nat) : Int)) ++ (vi ((kb : Nat) : Int)) ++ (vi ((kc : Nat) : Int)) ++ xa ++ xb ++ xc) (k' := .u8) (tot := ((((((vi ((ka : Nat) : Int)).length) + ((vi ((kb : Nat) : Int)).length)) + ((vi ((kc : Nat) : Int)).length)) + ka) + kb) + kc) (by first | rfl | exact (rows_app _ _).symm | simp) Tryz.underlying32 (ti := Tryz.t5) (z := .int .u8 0) (sz := 1) (by' := 1) rfl rfl rfl rfl rfl (by decide) rfl hO13 rfl hc  (by omega) (by simp only [maxLen]; omega) (by omega) ?_
 intro a15 c15 w15 hU15 hzz15 hO15
 clear hO13
 have hzw15 := hU15.size
 replace hS := hS.upd hU15 (by intro x h1 h2; have h3 : ((R x) ∧ x < w.heap.size) := h1; have h4 : ((((((((((((((((((x = w2.heap.size) ∧ x < w3.heap.size)) ∨ x = w5.heap.size)) ∧ x < w6.heap.size)) ∨ x = w8.heap.size)) ∧ x < w9.heap.size)) ∨ x = w9.heap.size)) ∧ x < w11.heap.size)) ∨ x = w11.heap.size)) ∧ x < w13.heap.size) := h2; omega)
 replace hd := hd.upd hU15 (by intro x h1 h2; have h3 : x < w.heap.size := h1; have h4 : ((((((((((((((((((x = w2.heap.size) ∧ x < w3.heap.size)) ∨ x = w5.heap.size)) ∧ x < w6.heap.size)) ∨ x = w8.heap.size)) ∧ x < w9.heap.size)) ∨ x = w9.heap.size)) ∧ x < w11.heap.size)) ∨ x = w11.heap.size)) ∧ x < w13.heap.size) := h2; omega)
 replace HU := HU.trans hU15 (by intro x hx; have hx2 : ((((((((((((((((((x = w2.heap.size) ∧ x < w3.heap.size)) ∨ x = w5.heap.size)) ∧ x < w6.heap.size)) ∨ x = w8.heap.size)) ∧ x < w9.heap.size)) ∨ x = w9.heap.size)) ∧ x < w11.heap.size)) ∨ x = w11.heap.size)) ∧ x < w13.heap.size) := hx; show (False) ∨ w.heap.size ≤ x; omega)
 replace hO15 := hO15.tight
 have hl_hO15 := ilen hO15.sl
 have hc_hO15 := hO15.sl.cap.1
 refine Was (.slice a15 (((((((vi ((ka : Nat) : Int)).length) + ((vi ((kb : Nat) : Int)).length)) + ((vi ((kc : Nat) : Int)).length)) + ka) + kb) + kc) c15) ?_
 refine Wl_nil (W_region ?_)
 refine Wmv (.int .i64 2) ?_
 refine Wl_v (r_add rfl rfl (show _ = (3 : Int) from by decide)) ?_
 refine Was (.int .i64 3) ?_
 refine Wl_nil ?_
 refine unrK_succ ?_
 refine W_seq (W_seq (W_region ?_))
 refine Wmv (.int .i64 3) ?_
 refine Wl_v (v := .bool true) (r_lt (a := 3) (b := 4) rfl rfl) ?_
 refine Wl_nil ?_
 refine W_cond_t rfl ?_
 refine W_skip (W_seq (W_block (W_region ?_)))
 refine Wmv (.slice a15 (((((((vi ((ka : Nat) : Int)).length) + ((vi ((kb : Nat) : Int)).length)) + ((vi ((kc : Nat) : Int)).length)) + ka) + kb) + kc) c15) ?_
 refine Wmv (.slice a 4 c) ?_
 refine Wmv (.int .i64 3) ?_
 refine Wl_idxc (i' := 3) (v := .slice jd kd qd) Tryz.underlying41 Tryz.sizeOf32 rfl rfl (by first | rfl | omega) hS (by decide) rfl ?_
 intro ib16 io16 hc16
 refine Wl_loadc Tryz.isAgg32 rfl hc16 ?_
 refine Wl_appendi (xs := (vi ((ka : Nat) : Int)) ++ (vi ((kb : Nat) : Int)) ++ (vi ((kc : Nat) : Int)) ++ xa ++ xb ++ xc) (ys := xd) (zs := (vi ((ka : Nat) : Int)) ++ (vi ((kb : Nat) : Int)) ++ (vi ((kc : Nat) : Int)) ++ xa ++ xb ++ xc ++ xd) (k' := .u8) (tot := (((((((vi ((ka : Nat) : Int)).length) + ((vi ((kb : Nat) : Int)).length)) + ((vi ((kc : Nat) : Int)).length)) + ka) + kb) + kc) + kd) (by first | rfl | exact (rows_app _ _).symm | simp) Tryz.underlying32 (ti := Tryz.t5) (z := .int .u8 0) (sz := 1) (by' := 1) rfl rfl rfl rfl rfl (by decide) rfl hO15 rfl hd  (by omega) (by simp only [maxLen]; omega) (by omega) ?_
 intro a17 c17 w17 hU17 hzz17 hO17
 clear hO15
 have hzw17 := hU17.size
 replace HU := HU.trans hU17 (by intro x hx; have hx2 : ((((((((((((((((((((((x = w2.heap.size) ∧ x < w3.heap.size)) ∨ x = w5.heap.size)) ∧ x < w6.heap.size)) ∨ x = w8.heap.size)) ∧ x < w9.heap.size)) ∨ x = w9.heap.size)) ∧ x < w11.heap.size)) ∨ x = w11.heap.size)) ∧ x < w13.heap.size)) ∨ x = w13.heap.size)) ∧ x < w15.heap.size) := hx; show (False) ∨ w.heap.size ≤ x; omega)
 replace hO17 := hO17.tight
 have hl_hO17 := ilen hO17.sl
 have hc_hO17 := hO17.sl.cap.1
 refine Was (.slice a17 ((((((((vi ((ka : Nat) : Int)).length) + ((vi ((kb : Nat) : Int)).length)) + ((vi ((kc : Nat) : Int)).length)) + ka) + kb) + kc) + kd) c17) ?_
 refine Wl_nil (W_region ?_)
 refine Wmv (.int .i64 3) ?_
 refine Wl_v (r_add rfl rfl (show _ = (4 : Int) from by decide)) ?_
 refine Was (.int .i64 4) ?_
 refine Wl_nil ?_
 refine unrK_succ ?_
 refine W_seq (W_seq (W_region ?_))
 refine Wmv (.int .i64 4) ?_
 refine Wl_v (v := .bool false) (r_lt (a := 4) (b := 4) rfl rfl) ?_
 refine Wl_nil ?_
 refine W_cond_f rfl ?_
 refine W_exit ?_
 refine W_seq (W_region ?_)
 refine Wmv (.slice a17 ((((((((vi ((ka : Nat) : Int)).length) + ((vi ((kb : Nat) : Int)).length)) + ((vi ((kc : Nat) : Int)).length)) + ka) + kb) + kc) + kd) c17) ?_
 refine Was (.slice a17 ((((((((vi ((ka : Nat) : Int)).length) + ((vi ((kb : Nat) : Int)).length)) + ((vi ((kc : Nat) : Int)).length)) + ka) + kb) + kc) + kd) c17) ?_
 refine Wl_nil ?_
 refine W_ret ?_
 refine ret_end (v := .slice a17 ((((((((vi ((ka : Nat) : Int)).length) + ((vi ((kb : Nat) : Int)).length)) + ((vi ((kc : Nat) : Int)).length)) + ka) + kb) + kc) + kd) c17) rfl (res1 Tryz.results22 rfl) ?_
 exact ⟨_, rfl, a17, (((((((vi ((ka : Nat) : Int)).length) + ((vi ((kb : Nat) : Int)).length)) + ((vi ((kc : Nat) : Int)).length)) + ka) + kb) + kc) + kd, c17, rfl, (by unfold jn; rw [hl_ha, hl_hb, hl_hc]; simpa [List.append_assoc] using hO17.weak (by intro g hg; have h3 : ((((((((((((((((((((((((((g = w2.heap.size) ∧ g < w3.heap.size)) ∨ g = w5.heap.size)) ∧ g < w6.heap.size)) ∨ g = w8.heap.size)) ∧ g < w9.heap.size)) ∨ g = w9.heap.size)) ∧ g < w11.heap.size)) ∨ g = w11.heap.size)) ∧ g < w13.heap.size)) ∨ g = w13.heap.size)) ∧ g < w15.heap.size)) ∨ g = w15.heap.size)) ∧ g < w17.heap.size) := hg; show w.heap.size ≤ g; omega)), HU⟩
end Go.Proofs.YtdppageondgjkaaGreat
