/-
 Walks, printed by a small program of this project (gen.py).
-/
import Derived.Test.YtdppageondgjkaaGreatVf
set_option linter.unusedVariables false
set_option linter.unusedSimpArgs false
set_option maxRecDepth 100000
namespace Go.Proofs.YtdppageondgjkaaGreat
open Go.Fw _root_.Go.Proofs.Tryz
open Nu
set_option maxHeartbeats 8000000 in
theorem rstr_all {a2 : Option Addr} {m d : Nat} {b : List Int} {R : Nat → Prop} (w : World) (hsb : Sl w R 1 (.slice a2 m d) m (ints .u8 b)) (hb : Byt b) (hm : m ≤ 100000) :
  Calls Tryz.prog 26 #[.slice a2 m d] w (Dual (e4 b = 0) (Ret fun v w' => ∃ (a' : Option Addr) (c' : Nat) (ja : Option Addr) (ka : Nat) (qa : Nat) (jb : Option Addr) (kb : Nat) (qb : Nat) (jc : Option Addr) (kc : Nat) (qc : Nat) (jd : Option Addr) (kd : Nat) (qd : Nat), v = .tuple #[.slice a' 4 c', .int .i64 0] ∧ Own w' (fun g => w.heap.size ≤ g) 32 1 (.slice a' 4 c') 4 ([.slice ja ka qa, .slice jb kb qb, .slice jc kc qc, .slice jd kd qd]) ∧ Sl w' R 1 (.slice ja ka qa) ka (ints .u8 ((gbytes b (gnum b (gnum b (gnum b 0 131072).2.1 131072).2.1 131072).2.1 (gnum b 0 131072).1).1)) ∧ Sl w' R 1 (.slice jb kb qb) kb (ints .u8 ((gbytes b (gbytes b (gnum b (gnum b (gnum b 0 131072).2.1 131072).2.1 131072).2.1 (gnum b 0 131072).1).2.1 (gnum b (gnum b 0 131072).2.1 131072).1).1)) ∧ Sl w' R 1 (.slice jc kc qc) kc (ints .u8 ((gbytes b (gbytes b (gbytes b (gnum b (gnum b (gnum b 0 131072).2.1 131072).2.1 131072).2.1 (gnum b 0 131072).1).2.1 (gnum b (gnum b 0 131072).2.1 131072).1).2.1 (gnum b (gnum b (gnum b 0 131072).2.1 131072).2.1 131072).1).1)) ∧ Sl w' R 1 (.slice jd kd qd) kd (ints .u8 (b.drop (gbytes b (gbytes b (gbytes b (gnum b (gnum b (gnum b 0 131072).2.1 131072).2.1 131072).2.1 (gnum b 0 131072).1).2.1 (gnum b (gnum b 0 131072).2.1 131072).1).2.1 (gnum b (gnum b (gnum b 0 131072).2.1 131072).2.1 131072).1).2.1)) ∧ Upd No w w') (Ret fun v w' => v = .tuple #[.slice none 0 0, .int .i64 (e4 b)] ∧ Upd No w w')) := by
 have HU := Upd.rno w
 have hl_hsb := ilen hsb
 have hc_hsb := hsb.cap.1
 replace hsb := hsb.tight
 refine calls_of_W func26 rfl ntmps26 (by simp) ?_
 refine W_seq (W_region ?_)
 refine Was (.slice none 0 0) ?_
 refine Was (.int .i64 0) ?_
 refine Wl_nil (W_seq (W_region ?_))
 refine Wl_alloc (cs := [.int .i64 0, .int .i64 0, .int .i64 0]) zeroValue84 rfl ?_
 intro B1 w1 hB1 hU1 hzz1 hb1
 have hzw1 := hU1.size
 replace hsb := hsb.upd0 hU1
 replace HU := HU.trans0 hU1
 refine Wl_nil (W_seq (W_region ?_))
 refine Was (.int .i64 0) ?_
 refine Wl_nil (W_seq (W_seq (W_region ?_)))
 refine Was (.int .i64 0) ?_
 refine Wl_nil (W_block ?_)
 refine W_unroll 4 ?_
 refine unrK_succ ?_
 refine W_seq (W_seq (W_region ?_))
 refine Wmv (.int .i64 0) ?_
 refine Wl_v (v := .bool true) (r_lt (a := 0) (b := 3) rfl rfl) ?_
 refine Wl_nil ?_
 refine W_cond_t rfl ?_
 refine W_skip (W_seq (W_block (W_seq (W_region ?_))))
 refine Wmv (.slice a2 m d) ?_
 refine Wmv (.int .i64 0) ?_
 refine Wl_call (r_call3 rfl call54 rfl rfl rfl) (Nu.rnumber_spec (p := 0) _ hsb.any hb (by omega) (by omega) (by omega)) ?_
 rintro v w2 ⟨rfl, hU2⟩
 have hzw2 := hU2.size
 replace hsb := hsb.upd0 hU2
 replace HU := HU.trans0 hU2
 replace hb1 := hb1.upd0 hU2
 have hgp2 := gnum_props (bs := b) (p := 0) (most := 131072) (by omega)
 refine Wmv (.tuple #[.int .i64 ((gnum b 0 131072).1), .int .i64 (((gnum b 0 131072).2.1 : Nat) : Int), .int .i64 ((gnum b 0 131072).2.2)]) ?_
 refine Wl_v (r_ext (v := .int .i64 ((gnum b 0 131072).1)) rfl rfl) ?_
 refine Wl_v (r_ext (v := .int .i64 (((gnum b 0 131072).2.1 : Nat) : Int)) rfl rfl) ?_
 refine Wl_v (r_ext (v := .int .i64 ((gnum b 0 131072).2.2)) rfl rfl) ?_
 refine Was (.int .i64 ((gnum b 0 131072).1)) ?_
 refine Was (.int .i64 (((gnum b 0 131072).2.1 : Nat) : Int)) ?_
 refine Was (.int .i64 ((gnum b 0 131072).2.2)) ?_
 refine Wl_nil (W_seq (W_seq (W_region ?_)))
 refine Wmv (.int .i64 ((gnum b 0 131072).2.2)) ?_
 refine Wl_v (r_ne rfl rfl) ?_
 refine Wl_nil ?_
 by_cases q1 : ((gnum b 0 131072).2.2) ≠ 0
 ·rw [decide_eq_true q1]
  refine W_cond_t rfl ?_
  refine W_seq (W_region ?_)
  refine Wmv (.int .i64 ((gnum b 0 131072).2.2)) ?_
  refine Was (.slice none 0 0) ?_
  refine Was (.int .i64 ((gnum b 0 131072).2.2)) ?_
  refine Wl_nil ?_
  refine W_ret ?_
  refine ret_end (v := .tuple #[.slice none 0 0, .int .i64 ((gnum b 0 131072).2.2)]) rfl (res2 results26 rfl rfl) ?_
  have hE := (e4_3 (by rw [e3_1 q1]; exact q1)).trans (e3_1 q1)
  exact Or.inr ⟨by rw [hE]; exact q1, _, rfl, by rw [hE], HU⟩
 rw [decide_eq_false q1]
 refine W_cond_f rfl ?_
 refine W_skip (W_region ?_)
 refine Wmv (.int .i64 0) ?_
 refine Wmv (.int .i64 ((gnum b 0 131072).1)) ?_
 refine Wmv (.int .i64 (((gnum b 0 131072).2.1 : Nat) : Int)) ?_
 refine Wl_v (r_idxa (len := 3) (i' := 0) (o' := 0) underlying84 sizeOf3 rfl rfl (by omega) (by omega) (by omega)) ?_
 refine Wl_store (v := .int .i64 ((gnum b 0 131072).1)) (cs' := [.int .i64 ((gnum b 0 131072).1), .int .i64 0, .int .i64 0]) sizeOf3 rfl rfl rfl rfl hb1 rfl rfl ?_
 intro w3 hU3 hzz3 hb1n
 replace hb1 := hb1n; clear hb1n
 have hzw3 := hU3.size
 replace hsb := hsb.upd1 hU3 (show ¬ (((R B1) ∧ B1 < w.heap.size)) by omega)
 replace HU := HU.t1 hU3 (by omega)
 refine Was (.int .i64 (((gnum b 0 131072).2.1 : Nat) : Int)) ?_
 refine Wl_nil (W_region ?_)
 refine Wmv (.int .i64 0) ?_
 refine Wl_v (r_add rfl rfl (show _ = (1 : Int) from by decide)) ?_
 refine Was (.int .i64 1) ?_
 refine Wl_nil ?_
 refine unrK_succ ?_
 refine W_seq (W_seq (W_region ?_))
 refine Wmv (.int .i64 1) ?_
 refine Wl_v (v := .bool true) (r_lt (a := 1) (b := 3) rfl rfl) ?_
 refine Wl_nil ?_
 refine W_cond_t rfl ?_
 refine W_skip (W_seq (W_block (W_seq (W_region ?_))))
 refine Wmv (.slice a2 m d) ?_
 refine Wmv (.int .i64 (((gnum b 0 131072).2.1 : Nat) : Int)) ?_
 refine Wl_call (r_call3 rfl call54 rfl rfl rfl) (Nu.rnumber_spec _ hsb.any hb (by omega) (by omega) (by omega)) ?_
 rintro v w4 ⟨rfl, hU4⟩
 have hzw4 := hU4.size
 replace hsb := hsb.upd0 hU4
 replace HU := HU.trans0 hU4
 replace hb1 := hb1.upd0 hU4
 have hgp4 := gnum_props (bs := b) (p := (gnum b 0 131072).2.1) (most := 131072) (by omega)
 refine Wmv (.tuple #[.int .i64 ((gnum b ((gnum b 0 131072).2.1) 131072).1), .int .i64 (((gnum b ((gnum b 0 131072).2.1) 131072).2.1 : Nat) : Int), .int .i64 ((gnum b ((gnum b 0 131072).2.1) 131072).2.2)]) ?_
 refine Wl_v (r_ext (v := .int .i64 ((gnum b ((gnum b 0 131072).2.1) 131072).1)) rfl rfl) ?_
 refine Wl_v (r_ext (v := .int .i64 (((gnum b ((gnum b 0 131072).2.1) 131072).2.1 : Nat) : Int)) rfl rfl) ?_
 refine Wl_v (r_ext (v := .int .i64 ((gnum b ((gnum b 0 131072).2.1) 131072).2.2)) rfl rfl) ?_
 refine Was (.int .i64 ((gnum b ((gnum b 0 131072).2.1) 131072).1)) ?_
 refine Was (.int .i64 (((gnum b ((gnum b 0 131072).2.1) 131072).2.1 : Nat) : Int)) ?_
 refine Was (.int .i64 ((gnum b ((gnum b 0 131072).2.1) 131072).2.2)) ?_
 refine Wl_nil (W_seq (W_seq (W_region ?_)))
 refine Wmv (.int .i64 ((gnum b ((gnum b 0 131072).2.1) 131072).2.2)) ?_
 refine Wl_v (r_ne rfl rfl) ?_
 refine Wl_nil ?_
 by_cases q2 : ((gnum b ((gnum b 0 131072).2.1) 131072).2.2) ≠ 0
 ·rw [decide_eq_true q2]
  refine W_cond_t rfl ?_
  refine W_seq (W_region ?_)
  refine Wmv (.int .i64 ((gnum b ((gnum b 0 131072).2.1) 131072).2.2)) ?_
  refine Was (.slice none 0 0) ?_
  refine Was (.int .i64 ((gnum b ((gnum b 0 131072).2.1) 131072).2.2)) ?_
  refine Wl_nil ?_
  refine W_ret ?_
  refine ret_end (v := .tuple #[.slice none 0 0, .int .i64 ((gnum b ((gnum b 0 131072).2.1) 131072).2.2)]) rfl (res2 results26 rfl rfl) ?_
  have hE := (e4_3 (by rw [e3_2 (Classical.not_not.1 q1) q2]; exact q2)).trans (e3_2 (Classical.not_not.1 q1) q2)
  exact Or.inr ⟨by rw [hE]; exact q2, _, rfl, by rw [hE], HU⟩
 rw [decide_eq_false q2]
 refine W_cond_f rfl ?_
 refine W_skip (W_region ?_)
 refine Wmv (.int .i64 1) ?_
 refine Wmv (.int .i64 ((gnum b ((gnum b 0 131072).2.1) 131072).1)) ?_
 refine Wmv (.int .i64 (((gnum b ((gnum b 0 131072).2.1) 131072).2.1 : Nat) : Int)) ?_
 refine Wl_v (r_idxa (len := 3) (i' := 1) (o' := 1) underlying84 sizeOf3 rfl rfl (by omega) (by omega) (by omega)) ?_
 refine Wl_store (v := .int .i64 ((gnum b ((gnum b 0 131072).2.1) 131072).1)) (cs' := [.int .i64 ((gnum b 0 131072).1), .int .i64 ((gnum b ((gnum b 0 131072).2.1) 131072).1), .int .i64 0]) sizeOf3 rfl rfl rfl rfl hb1 rfl rfl ?_
 intro w5 hU5 hzz5 hb1n
 replace hb1 := hb1n; clear hb1n
 have hzw5 := hU5.size
 replace hsb := hsb.upd1 hU5 (show ¬ (((R B1) ∧ B1 < w.heap.size)) by omega)
 replace HU := HU.t1 hU5 (by omega)
 refine Was (.int .i64 (((gnum b ((gnum b 0 131072).2.1) 131072).2.1 : Nat) : Int)) ?_
 refine Wl_nil (W_region ?_)
 refine Wmv (.int .i64 1) ?_
 refine Wl_v (r_add rfl rfl (show _ = (2 : Int) from by decide)) ?_
 refine Was (.int .i64 2) ?_
 refine Wl_nil ?_
 refine unrK_succ ?_
 refine W_seq (W_seq (W_region ?_))
 refine Wmv (.int .i64 2) ?_
 refine Wl_v (v := .bool true) (r_lt (a := 2) (b := 3) rfl rfl) ?_
 refine Wl_nil ?_
 refine W_cond_t rfl ?_
 refine W_skip (W_seq (W_block (W_seq (W_region ?_))))
 refine Wmv (.slice a2 m d) ?_
 refine Wmv (.int .i64 (((gnum b ((gnum b 0 131072).2.1) 131072).2.1 : Nat) : Int)) ?_
 refine Wl_call (r_call3 rfl call54 rfl rfl rfl) (Nu.rnumber_spec _ hsb.any hb (by omega) (by omega) (by omega)) ?_
 rintro v w6 ⟨rfl, hU6⟩
 have hzw6 := hU6.size
 replace hsb := hsb.upd0 hU6
 replace HU := HU.trans0 hU6
 replace hb1 := hb1.upd0 hU6
 have hgp6 := gnum_props (bs := b) (p := (gnum b ((gnum b 0 131072).2.1) 131072).2.1) (most := 131072) (by omega)
 refine Wmv (.tuple #[.int .i64 ((gnum b ((gnum b ((gnum b 0 131072).2.1) 131072).2.1) 131072).1), .int .i64 (((gnum b ((gnum b ((gnum b 0 131072).2.1) 131072).2.1) 131072).2.1 : Nat) : Int), .int .i64 ((gnum b ((gnum b ((gnum b 0 131072).2.1) 131072).2.1) 131072).2.2)]) ?_
 refine Wl_v (r_ext (v := .int .i64 ((gnum b ((gnum b ((gnum b 0 131072).2.1) 131072).2.1) 131072).1)) rfl rfl) ?_
 refine Wl_v (r_ext (v := .int .i64 (((gnum b ((gnum b ((gnum b 0 131072).2.1) 131072).2.1) 131072).2.1 : Nat) : Int)) rfl rfl) ?_
 refine Wl_v (r_ext (v := .int .i64 ((gnum b ((gnum b ((gnum b 0 131072).2.1) 131072).2.1) 131072).2.2)) rfl rfl) ?_
 refine Was (.int .i64 ((gnum b ((gnum b ((gnum b 0 131072).2.1) 131072).2.1) 131072).1)) ?_
 refine Was (.int .i64 (((gnum b ((gnum b ((gnum b 0 131072).2.1) 131072).2.1) 131072).2.1 : Nat) : Int)) ?_
 refine Was (.int .i64 ((gnum b ((gnum b ((gnum b 0 131072).2.1) 131072).2.1) 131072).2.2)) ?_
 refine Wl_nil (W_seq (W_seq (W_region ?_)))
 refine Wmv (.int .i64 ((gnum b ((gnum b ((gnum b 0 131072).2.1) 131072).2.1) 131072).2.2)) ?_
 refine Wl_v (r_ne rfl rfl) ?_
 refine Wl_nil ?_
 by_cases q3 : ((gnum b ((gnum b ((gnum b 0 131072).2.1) 131072).2.1) 131072).2.2) ≠ 0
 ·rw [decide_eq_true q3]
  refine W_cond_t rfl ?_
  refine W_seq (W_region ?_)
  refine Wmv (.int .i64 ((gnum b ((gnum b ((gnum b 0 131072).2.1) 131072).2.1) 131072).2.2)) ?_
  refine Was (.slice none 0 0) ?_
  refine Was (.int .i64 ((gnum b ((gnum b ((gnum b 0 131072).2.1) 131072).2.1) 131072).2.2)) ?_
  refine Wl_nil ?_
  refine W_ret ?_
  refine ret_end (v := .tuple #[.slice none 0 0, .int .i64 ((gnum b ((gnum b ((gnum b 0 131072).2.1) 131072).2.1) 131072).2.2)]) rfl (res2 results26 rfl rfl) ?_
  have hE := (e4_3 (by rw [e3_3 (Classical.not_not.1 q1) (Classical.not_not.1 q2)]; exact q3)).trans (e3_3 (Classical.not_not.1 q1) (Classical.not_not.1 q2))
  exact Or.inr ⟨by rw [hE]; exact q3, _, rfl, by rw [hE], HU⟩
 rw [decide_eq_false q3]
 refine W_cond_f rfl ?_
 refine W_skip (W_region ?_)
 refine Wmv (.int .i64 2) ?_
 refine Wmv (.int .i64 ((gnum b ((gnum b ((gnum b 0 131072).2.1) 131072).2.1) 131072).1)) ?_
 refine Wmv (.int .i64 (((gnum b ((gnum b ((gnum b 0 131072).2.1) 131072).2.1) 131072).2.1 : Nat) : Int)) ?_
 refine Wl_v (r_idxa (len := 3) (i' := 2) (o' := 2) underlying84 sizeOf3 rfl rfl (by omega) (by omega) (by omega)) ?_
 refine Wl_store (v := .int .i64 ((gnum b ((gnum b ((gnum b 0 131072).2.1) 131072).2.1) 131072).1)) (cs' := [.int .i64 ((gnum b 0 131072).1), .int .i64 ((gnum b ((gnum b 0 131072).2.1) 131072).1), .int .i64 ((gnum b ((gnum b ((gnum b 0 131072).2.1) 131072).2.1) 131072).1)]) sizeOf3 rfl rfl rfl rfl hb1 rfl rfl ?_
 intro w7 hU7 hzz7 hb1n
 replace hb1 := hb1n; clear hb1n
 have hzw7 := hU7.size
 replace hsb := hsb.upd1 hU7 (show ¬ (((R B1) ∧ B1 < w.heap.size)) by omega)
 replace HU := HU.t1 hU7 (by omega)
 refine Was (.int .i64 (((gnum b ((gnum b ((gnum b 0 131072).2.1) 131072).2.1) 131072).2.1 : Nat) : Int)) ?_
 refine Wl_nil (W_region ?_)
 refine Wmv (.int .i64 2) ?_
 refine Wl_v (r_add rfl rfl (show _ = (3 : Int) from by decide)) ?_
 refine Was (.int .i64 3) ?_
 refine Wl_nil ?_
 refine unrK_succ ?_
 refine W_seq (W_seq (W_region ?_))
 refine Wmv (.int .i64 3) ?_
 refine Wl_v (v := .bool false) (r_lt (a := 3) (b := 3) rfl rfl) ?_
 refine Wl_nil ?_
 refine W_cond_f rfl ?_
 refine W_exit ?_
 refine W_seq (W_region ?_)
 refine Was (.slice none 0 0) ?_
 refine Wl_nil (W_seq (W_seq (W_region ?_)))
 refine Was (.int .i64 0) ?_
 refine Wl_nil (W_block ?_)
 refine W_unroll 4 ?_
 refine unrK_succ ?_
 refine W_seq (W_seq (W_region ?_))
 refine Wmv (.int .i64 0) ?_
 refine Wl_v (v := .bool true) (r_lt (a := 0) (b := 3) rfl rfl) ?_
 refine Wl_nil ?_
 refine W_cond_t rfl ?_
 refine W_skip (W_seq (W_block (W_seq (W_region ?_))))
 refine Wmv (.slice a2 m d) ?_
 refine Wmv (.int .i64 (((gnum b ((gnum b ((gnum b 0 131072).2.1) 131072).2.1) 131072).2.1 : Nat) : Int)) ?_
 refine Wmv (.int .i64 0) ?_
 refine Wl_v (r_idxa (len := 3) (i' := 0) (o' := 0) underlying84 sizeOf3 rfl rfl (by omega) (by omega) (by omega)) ?_
 refine Wl_load (v := .int .i64 ((gnum b 0 131072).1)) isAgg3 rfl hb1 rfl ?_
 refine Wl_call (r_call3 rfl call55 rfl rfl rfl) (Nu.rbytes_spec _ hsb hb (by omega) (by omega)) ?_
 rintro v w8 ⟨a8, m8, c8, rfl, hB8, hm_8, hU8⟩
 have hzw8 := hU8.size
 replace hsb := hsb.upd0 hU8
 replace HU := HU.trans0 hU8
 replace hb1 := hb1.upd0 hU8
 have hl_hB8 := ilen hB8
 have hc_hB8 := hB8.cap.1
 have hgy8 := gbytes_props (bs := b) (p := (gnum b ((gnum b ((gnum b 0 131072).2.1) 131072).2.1) 131072).2.1) (k := (gnum b 0 131072).1) (by omega)
 refine Wmv (.tuple #[.slice a8 m8 c8, .int .i64 (((gbytes b ((gnum b ((gnum b ((gnum b 0 131072).2.1) 131072).2.1) 131072).2.1) ((gnum b 0 131072).1)).2.1 : Nat) : Int), .int .i64 ((gbytes b ((gnum b ((gnum b ((gnum b 0 131072).2.1) 131072).2.1) 131072).2.1) ((gnum b 0 131072).1)).2.2)]) ?_
 refine Wl_v (r_ext (v := .slice a8 m8 c8) rfl rfl) ?_
 refine Wl_v (r_ext (v := .int .i64 (((gbytes b ((gnum b ((gnum b ((gnum b 0 131072).2.1) 131072).2.1) 131072).2.1) ((gnum b 0 131072).1)).2.1 : Nat) : Int)) rfl rfl) ?_
 refine Wl_v (r_ext (v := .int .i64 ((gbytes b ((gnum b ((gnum b ((gnum b 0 131072).2.1) 131072).2.1) 131072).2.1) ((gnum b 0 131072).1)).2.2)) rfl rfl) ?_
 refine Was (.slice a8 m8 c8) ?_
 refine Was (.int .i64 (((gbytes b ((gnum b ((gnum b ((gnum b 0 131072).2.1) 131072).2.1) 131072).2.1) ((gnum b 0 131072).1)).2.1 : Nat) : Int)) ?_
 refine Was (.int .i64 ((gbytes b ((gnum b ((gnum b ((gnum b 0 131072).2.1) 131072).2.1) 131072).2.1) ((gnum b 0 131072).1)).2.2)) ?_
 refine Wl_nil (W_seq (W_seq (W_region ?_)))
 refine Wmv (.int .i64 ((gbytes b ((gnum b ((gnum b ((gnum b 0 131072).2.1) 131072).2.1) 131072).2.1) ((gnum b 0 131072).1)).2.2)) ?_
 refine Wl_v (r_ne rfl rfl) ?_
 refine Wl_nil ?_
 by_cases q4 : ((gbytes b ((gnum b ((gnum b ((gnum b 0 131072).2.1) 131072).2.1) 131072).2.1) ((gnum b 0 131072).1)).2.2) ≠ 0
 ·rw [decide_eq_true q4]
  refine W_cond_t rfl ?_
  refine W_seq (W_region ?_)
  refine Wmv (.int .i64 ((gbytes b ((gnum b ((gnum b ((gnum b 0 131072).2.1) 131072).2.1) 131072).2.1) ((gnum b 0 131072).1)).2.2)) ?_
  refine Was (.slice none 0 0) ?_
  refine Was (.int .i64 ((gbytes b ((gnum b ((gnum b ((gnum b 0 131072).2.1) 131072).2.1) 131072).2.1) ((gnum b 0 131072).1)).2.2)) ?_
  refine Wl_nil ?_
  refine W_ret ?_
  refine ret_end (v := .tuple #[.slice none 0 0, .int .i64 ((gbytes b ((gnum b ((gnum b ((gnum b 0 131072).2.1) 131072).2.1) 131072).2.1) ((gnum b 0 131072).1)).2.2)]) rfl (res2 results26 rfl rfl) ?_
  have hE := e4_y1 ((e3_3 (Classical.not_not.1 q1) (Classical.not_not.1 q2)).trans (Classical.not_not.1 q3)) q4
  exact Or.inr ⟨by rw [hE]; exact q4, _, rfl, by rw [hE], HU⟩
 rw [decide_eq_false q4]
 refine W_cond_f rfl ?_
 refine W_skip (W_region ?_)
 refine Wmv (.slice none 0 0) ?_
 refine Wmv (.slice a8 m8 c8) ?_
 refine Wl_lit (pv := [(0, .slice a8 m8 c8)]) (cs := [.slice a8 m8 c8]) underlying41 sizeOf32 zeroValue32 (by decide) (by decide) (by simp only [List.map_toArray, List.map_cons, List.map_nil] <;> rfl) (by kernel_rfl) rfl (by decide) ?_
 intro B9 w9 hB9 hU9 hzz9 hs9
 have hzw9 := hU9.size
 replace hsb := hsb.upd0 hU9
 replace HU := HU.trans0 hU9
 replace hb1 := hb1.upd0 hU9
 replace hB8 := hB8.upd0 hU9
 refine Wl_appendc (cs3 := [.slice a8 m8 c8]) (tot := 1) (by first | rfl | exact (rows_app _ _).symm | simp) underlying41 (ti := Tryz.t32) (z := .slice none 0 0) (sz := 1) (by' := 24) rfl rfl rfl rfl rfl (by decide) rfl (Own.nil _ No _ _) rfl hs9.sl (by intro u hu; simp at hu; subst hu; rfl) (by omega) (by simp only [maxLen]; omega) (by omega) ?_
 intro a10 c10 w10 hU10 hzz10 hO10
 have hzw10 := hU10.size
 replace hsb := hsb.upd0 hU10
 replace HU := HU.trans0 hU10
 replace hb1 := hb1.upd0 hU10
 replace hB8 := hB8.upd0 hU10
 replace hO10 := hO10.weak (R' := fun g => g = w9.heap.size) (fun g h => h.elim (fun x => x.elim) id)
 replace hO10 := hO10.tight
 have hl_hO10 := hO10.sl.len
 have hc_hO10 := hO10.sl.cap.1
 refine Wmv (.int .i64 (((gbytes b ((gnum b ((gnum b ((gnum b 0 131072).2.1) 131072).2.1) 131072).2.1) ((gnum b 0 131072).1)).2.1 : Nat) : Int)) ?_
 refine Was (.slice a10 1 c10) ?_
 refine Was (.int .i64 (((gbytes b ((gnum b ((gnum b ((gnum b 0 131072).2.1) 131072).2.1) 131072).2.1) ((gnum b 0 131072).1)).2.1 : Nat) : Int)) ?_
 refine Wl_nil (W_region ?_)
 refine Wmv (.int .i64 0) ?_
 refine Wl_v (r_add rfl rfl (show _ = (1 : Int) from by decide)) ?_
 refine Was (.int .i64 1) ?_
 refine Wl_nil ?_
 refine unrK_succ ?_
 refine W_seq (W_seq (W_region ?_))
 refine Wmv (.int .i64 1) ?_
 refine Wl_v (v := .bool true) (r_lt (a := 1) (b := 3) rfl rfl) ?_
 refine Wl_nil ?_
 refine W_cond_t rfl ?_
 refine W_skip (W_seq (W_block (W_seq (W_region ?_))))
 refine Wmv (.slice a2 m d) ?_
 refine Wmv (.int .i64 (((gbytes b ((gnum b ((gnum b ((gnum b 0 131072).2.1) 131072).2.1) 131072).2.1) ((gnum b 0 131072).1)).2.1 : Nat) : Int)) ?_
 refine Wmv (.int .i64 1) ?_
 refine Wl_v (r_idxa (len := 3) (i' := 1) (o' := 1) underlying84 sizeOf3 rfl rfl (by omega) (by omega) (by omega)) ?_
 refine Wl_load (v := .int .i64 ((gnum b ((gnum b 0 131072).2.1) 131072).1)) isAgg3 rfl hb1 rfl ?_
 refine Wl_call (r_call3 rfl call55 rfl rfl rfl) (Nu.rbytes_spec _ hsb hb (by omega) (by omega)) ?_
 rintro v w11 ⟨a11, m11, c11, rfl, hB11, hm_11, hU11⟩
 have hzw11 := hU11.size
 replace hsb := hsb.upd0 hU11
 replace HU := HU.trans0 hU11
 replace hb1 := hb1.upd0 hU11
 replace hB8 := hB8.upd0 hU11
 replace hO10 := hO10.upd0 hU11
 have hl_hB11 := ilen hB11
 have hc_hB11 := hB11.cap.1
 have hgy11 := gbytes_props (bs := b) (p := (gbytes b ((gnum b ((gnum b ((gnum b 0 131072).2.1) 131072).2.1) 131072).2.1) ((gnum b 0 131072).1)).2.1) (k := (gnum b ((gnum b 0 131072).2.1) 131072).1) (by omega)
 refine Wmv (.tuple #[.slice a11 m11 c11, .int .i64 (((gbytes b ((gbytes b ((gnum b ((gnum b ((gnum b 0 131072).2.1) 131072).2.1) 131072).2.1) ((gnum b 0 131072).1)).2.1) ((gnum b ((gnum b 0 131072).2.1) 131072).1)).2.1 : Nat) : Int), .int .i64 ((gbytes b ((gbytes b ((gnum b ((gnum b ((gnum b 0 131072).2.1) 131072).2.1) 131072).2.1) ((gnum b 0 131072).1)).2.1) ((gnum b ((gnum b 0 131072).2.1) 131072).1)).2.2)]) ?_
 refine Wl_v (r_ext (v := .slice a11 m11 c11) rfl rfl) ?_
 refine Wl_v (r_ext (v := .int .i64 (((gbytes b ((gbytes b ((gnum b ((gnum b ((gnum b 0 131072).2.1) 131072).2.1) 131072).2.1) ((gnum b 0 131072).1)).2.1) ((gnum b ((gnum b 0 131072).2.1) 131072).1)).2.1 : Nat) : Int)) rfl rfl) ?_
 refine Wl_v (r_ext (v := .int .i64 ((gbytes b ((gbytes b ((gnum b ((gnum b ((gnum b 0 131072).2.1) 131072).2.1) 131072).2.1) ((gnum b 0 131072).1)).2.1) ((gnum b ((gnum b 0 131072).2.1) 131072).1)).2.2)) rfl rfl) ?_
 refine Was (.slice a11 m11 c11) ?_
 refine Was (.int .i64 (((gbytes b ((gbytes b ((gnum b ((gnum b ((gnum b 0 131072).2.1) 131072).2.1) 131072).2.1) ((gnum b 0 131072).1)).2.1) ((gnum b ((gnum b 0 131072).2.1) 131072).1)).2.1 : Nat) : Int)) ?_
 refine Was (.int .i64 ((gbytes b ((gbytes b ((gnum b ((gnum b ((gnum b 0 131072).2.1) 131072).2.1) 131072).2.1) ((gnum b 0 131072).1)).2.1) ((gnum b ((gnum b 0 131072).2.1) 131072).1)).2.2)) ?_
 refine Wl_nil (W_seq (W_seq (W_region ?_)))
 refine Wmv (.int .i64 ((gbytes b ((gbytes b ((gnum b ((gnum b ((gnum b 0 131072).2.1) 131072).2.1) 131072).2.1) ((gnum b 0 131072).1)).2.1) ((gnum b ((gnum b 0 131072).2.1) 131072).1)).2.2)) ?_
 refine Wl_v (r_ne rfl rfl) ?_
 refine Wl_nil ?_
 by_cases q5 : ((gbytes b ((gbytes b ((gnum b ((gnum b ((gnum b 0 131072).2.1) 131072).2.1) 131072).2.1) ((gnum b 0 131072).1)).2.1) ((gnum b ((gnum b 0 131072).2.1) 131072).1)).2.2) ≠ 0
 ·rw [decide_eq_true q5]
  refine W_cond_t rfl ?_
  refine W_seq (W_region ?_)
  refine Wmv (.int .i64 ((gbytes b ((gbytes b ((gnum b ((gnum b ((gnum b 0 131072).2.1) 131072).2.1) 131072).2.1) ((gnum b 0 131072).1)).2.1) ((gnum b ((gnum b 0 131072).2.1) 131072).1)).2.2)) ?_
  refine Was (.slice none 0 0) ?_
  refine Was (.int .i64 ((gbytes b ((gbytes b ((gnum b ((gnum b ((gnum b 0 131072).2.1) 131072).2.1) 131072).2.1) ((gnum b 0 131072).1)).2.1) ((gnum b ((gnum b 0 131072).2.1) 131072).1)).2.2)) ?_
  refine Wl_nil ?_
  refine W_ret ?_
  refine ret_end (v := .tuple #[.slice none 0 0, .int .i64 ((gbytes b ((gbytes b ((gnum b ((gnum b ((gnum b 0 131072).2.1) 131072).2.1) 131072).2.1) ((gnum b 0 131072).1)).2.1) ((gnum b ((gnum b 0 131072).2.1) 131072).1)).2.2)]) rfl (res2 results26 rfl rfl) ?_
  have hE := e4_y2 ((e3_3 (Classical.not_not.1 q1) (Classical.not_not.1 q2)).trans (Classical.not_not.1 q3)) (Classical.not_not.1 q4) q5
  exact Or.inr ⟨by rw [hE]; exact q5, _, rfl, by rw [hE], HU⟩
 rw [decide_eq_false q5]
 refine W_cond_f rfl ?_
 refine W_skip (W_region ?_)
 refine Wmv (.slice a10 1 c10) ?_
 refine Wmv (.slice a11 m11 c11) ?_
 refine Wl_lit (pv := [(0, .slice a11 m11 c11)]) (cs := [.slice a11 m11 c11]) underlying41 sizeOf32 zeroValue32 (by decide) (by decide) (by simp only [List.map_toArray, List.map_cons, List.map_nil] <;> rfl) (by kernel_rfl) rfl (by decide) ?_
 intro B12 w12 hB12 hU12 hzz12 hs12
 have hzw12 := hU12.size
 replace hsb := hsb.upd0 hU12
 replace HU := HU.trans0 hU12
 replace hb1 := hb1.upd0 hU12
 replace hB8 := hB8.upd0 hU12
 replace hO10 := hO10.upd0 hU12
 replace hB11 := hB11.upd0 hU12
 refine Wl_appendc (cs3 := [.slice a8 m8 c8, .slice a11 m11 c11]) (tot := 2) (by first | rfl | exact (rows_app _ _).symm | simp) underlying41 (ti := Tryz.t32) (z := .slice none 0 0) (sz := 1) (by' := 24) rfl rfl rfl rfl rfl (by decide) rfl hO10 rfl hs12.sl (by intro u hu; simp at hu; subst hu; rfl) (by omega) (by simp only [maxLen]; omega) (by omega) ?_
 intro a13 c13 w13 hU13 hzz13 hO13
 clear hO10
 have hzw13 := hU13.size
 replace hsb := hsb.upd hU13 (by intro x h1 h2; have h3 : ((R x) ∧ x < w.heap.size) := h1; have h4 : ((x = w9.heap.size) ∧ x < w10.heap.size) := h2; omega)
 replace HU := HU.trans hU13 (by intro x hx; have hx2 : ((x = w9.heap.size) ∧ x < w10.heap.size) := hx; show (False) ∨ w.heap.size ≤ x; omega)
 replace hb1 := hb1.upd hU13 (by intro hx; have hx2 : ((B1 = w9.heap.size) ∧ B1 < w10.heap.size) := hx; omega)
 replace hB8 := hB8.upd hU13 (by intro x h1 h2; have h3 : ((R x) ∧ x < w.heap.size) := h1; have h4 : ((x = w9.heap.size) ∧ x < w10.heap.size) := h2; omega)
 replace hB11 := hB11.upd hU13 (by intro x h1 h2; have h3 : ((R x) ∧ x < w.heap.size) := h1; have h4 : ((x = w9.heap.size) ∧ x < w10.heap.size) := h2; omega)
 replace hO13 := hO13.tight
 have hl_hO13 := hO13.sl.len
 have hc_hO13 := hO13.sl.cap.1
 refine Wmv (.int .i64 (((gbytes b ((gbytes b ((gnum b ((gnum b ((gnum b 0 131072).2.1) 131072).2.1) 131072).2.1) ((gnum b 0 131072).1)).2.1) ((gnum b ((gnum b 0 131072).2.1) 131072).1)).2.1 : Nat) : Int)) ?_
 refine Was (.slice a13 2 c13) ?_
 refine Was (.int .i64 (((gbytes b ((gbytes b ((gnum b ((gnum b ((gnum b 0 131072).2.1) 131072).2.1) 131072).2.1) ((gnum b 0 131072).1)).2.1) ((gnum b ((gnum b 0 131072).2.1) 131072).1)).2.1 : Nat) : Int)) ?_
 refine Wl_nil (W_region ?_)
 refine Wmv (.int .i64 1) ?_
 refine Wl_v (r_add rfl rfl (show _ = (2 : Int) from by decide)) ?_
 refine Was (.int .i64 2) ?_
 refine Wl_nil ?_
 refine unrK_succ ?_
 refine W_seq (W_seq (W_region ?_))
 refine Wmv (.int .i64 2) ?_
 refine Wl_v (v := .bool true) (r_lt (a := 2) (b := 3) rfl rfl) ?_
 refine Wl_nil ?_
 refine W_cond_t rfl ?_
 refine W_skip (W_seq (W_block (W_seq (W_region ?_))))
 refine Wmv (.slice a2 m d) ?_
 refine Wmv (.int .i64 (((gbytes b ((gbytes b ((gnum b ((gnum b ((gnum b 0 131072).2.1) 131072).2.1) 131072).2.1) ((gnum b 0 131072).1)).2.1) ((gnum b ((gnum b 0 131072).2.1) 131072).1)).2.1 : Nat) : Int)) ?_
 refine Wmv (.int .i64 2) ?_
 refine Wl_v (r_idxa (len := 3) (i' := 2) (o' := 2) underlying84 sizeOf3 rfl rfl (by omega) (by omega) (by omega)) ?_
 refine Wl_load (v := .int .i64 ((gnum b ((gnum b ((gnum b 0 131072).2.1) 131072).2.1) 131072).1)) isAgg3 rfl hb1 rfl ?_
 refine Wl_call (r_call3 rfl call55 rfl rfl rfl) (Nu.rbytes_spec _ hsb hb (by omega) (by omega)) ?_
 rintro v w14 ⟨a14, m14, c14, rfl, hB14, hm_14, hU14⟩
 have hzw14 := hU14.size
 replace hsb := hsb.upd0 hU14
 replace HU := HU.trans0 hU14
 replace hB8 := hB8.upd0 hU14
 replace hB11 := hB11.upd0 hU14
 replace hO13 := hO13.upd0 hU14
 have hl_hB14 := ilen hB14
 have hc_hB14 := hB14.cap.1
 have hgy14 := gbytes_props (bs := b) (p := (gbytes b ((gbytes b ((gnum b ((gnum b ((gnum b 0 131072).2.1) 131072).2.1) 131072).2.1) ((gnum b 0 131072).1)).2.1) ((gnum b ((gnum b 0 131072).2.1) 131072).1)).2.1) (k := (gnum b ((gnum b ((gnum b 0 131072).2.1) 131072).2.1) 131072).1) (by omega)
 refine Wmv (.tuple #[.slice a14 m14 c14, .int .i64 (((gbytes b ((gbytes b ((gbytes b ((gnum b ((gnum b ((gnum b 0 131072).2.1) 131072).2.1) 131072).2.1) ((gnum b 0 131072).1)).2.1) ((gnum b ((gnum b 0 131072).2.1) 131072).1)).2.1) ((gnum b ((gnum b ((gnum b 0 131072).2.1) 131072).2.1) 131072).1)).2.1 : Nat) : Int), .int .i64 ((gbytes b ((gbytes b ((gbytes b ((gnum b ((gnum b ((gnum b 0 131072).2.1) 131072).2.1) 131072).2.1) ((gnum b 0 131072).1)).2.1) ((gnum b ((gnum b 0 131072).2.1) 131072).1)).2.1) ((gnum b ((gnum b ((gnum b 0 131072).2.1) 131072).2.1) 131072).1)).2.2)]) ?_
 refine Wl_v (r_ext (v := .slice a14 m14 c14) rfl rfl) ?_
 refine Wl_v (r_ext (v := .int .i64 (((gbytes b ((gbytes b ((gbytes b ((gnum b ((gnum b ((gnum b 0 131072).2.1) 131072).2.1) 131072).2.1) ((gnum b 0 131072).1)).2.1) ((gnum b ((gnum b 0 131072).2.1) 131072).1)).2.1) ((gnum b ((gnum b ((gnum b 0 131072).2.1) 131072).2.1) 131072).1)).2.1 : Nat) : Int)) rfl rfl) ?_
 refine Wl_v (r_ext (v := .int .i64 ((gbytes b ((gbytes b ((gbytes b ((gnum b ((gnum b ((gnum b 0 131072).2.1) 131072).2.1) 131072).2.1) ((gnum b 0 131072).1)).2.1) ((gnum b ((gnum b 0 131072).2.1) 131072).1)).2.1) ((gnum b ((gnum b ((gnum b 0 131072).2.1) 131072).2.1) 131072).1)).2.2)) rfl rfl) ?_
 refine Was (.slice a14 m14 c14) ?_
 refine Was (.int .i64 (((gbytes b ((gbytes b ((gbytes b ((gnum b ((gnum b ((gnum b 0 131072).2.1) 131072).2.1) 131072).2.1) ((gnum b 0 131072).1)).2.1) ((gnum b ((gnum b 0 131072).2.1) 131072).1)).2.1) ((gnum b ((gnum b ((gnum b 0 131072).2.1) 131072).2.1) 131072).1)).2.1 : Nat) : Int)) ?_
 refine Was (.int .i64 ((gbytes b ((gbytes b ((gbytes b ((gnum b ((gnum b ((gnum b 0 131072).2.1) 131072).2.1) 131072).2.1) ((gnum b 0 131072).1)).2.1) ((gnum b ((gnum b 0 131072).2.1) 131072).1)).2.1) ((gnum b ((gnum b ((gnum b 0 131072).2.1) 131072).2.1) 131072).1)).2.2)) ?_
 refine Wl_nil (W_seq (W_seq (W_region ?_)))
 refine Wmv (.int .i64 ((gbytes b ((gbytes b ((gbytes b ((gnum b ((gnum b ((gnum b 0 131072).2.1) 131072).2.1) 131072).2.1) ((gnum b 0 131072).1)).2.1) ((gnum b ((gnum b 0 131072).2.1) 131072).1)).2.1) ((gnum b ((gnum b ((gnum b 0 131072).2.1) 131072).2.1) 131072).1)).2.2)) ?_
 refine Wl_v (r_ne rfl rfl) ?_
 refine Wl_nil ?_
 by_cases q6 : ((gbytes b ((gbytes b ((gbytes b ((gnum b ((gnum b ((gnum b 0 131072).2.1) 131072).2.1) 131072).2.1) ((gnum b 0 131072).1)).2.1) ((gnum b ((gnum b 0 131072).2.1) 131072).1)).2.1) ((gnum b ((gnum b ((gnum b 0 131072).2.1) 131072).2.1) 131072).1)).2.2) ≠ 0
 ·rw [decide_eq_true q6]
  refine W_cond_t rfl ?_
  refine W_seq (W_region ?_)
  refine Wmv (.int .i64 ((gbytes b ((gbytes b ((gbytes b ((gnum b ((gnum b ((gnum b 0 131072).2.1) 131072).2.1) 131072).2.1) ((gnum b 0 131072).1)).2.1) ((gnum b ((gnum b 0 131072).2.1) 131072).1)).2.1) ((gnum b ((gnum b ((gnum b 0 131072).2.1) 131072).2.1) 131072).1)).2.2)) ?_
  refine Was (.slice none 0 0) ?_
  refine Was (.int .i64 ((gbytes b ((gbytes b ((gbytes b ((gnum b ((gnum b ((gnum b 0 131072).2.1) 131072).2.1) 131072).2.1) ((gnum b 0 131072).1)).2.1) ((gnum b ((gnum b 0 131072).2.1) 131072).1)).2.1) ((gnum b ((gnum b ((gnum b 0 131072).2.1) 131072).2.1) 131072).1)).2.2)) ?_
  refine Wl_nil ?_
  refine W_ret ?_
  refine ret_end (v := .tuple #[.slice none 0 0, .int .i64 ((gbytes b ((gbytes b ((gbytes b ((gnum b ((gnum b ((gnum b 0 131072).2.1) 131072).2.1) 131072).2.1) ((gnum b 0 131072).1)).2.1) ((gnum b ((gnum b 0 131072).2.1) 131072).1)).2.1) ((gnum b ((gnum b ((gnum b 0 131072).2.1) 131072).2.1) 131072).1)).2.2)]) rfl (res2 results26 rfl rfl) ?_
  have hE := e4_y3 ((e3_3 (Classical.not_not.1 q1) (Classical.not_not.1 q2)).trans (Classical.not_not.1 q3)) (Classical.not_not.1 q4) (Classical.not_not.1 q5)
  exact Or.inr ⟨by rw [hE]; exact q6, _, rfl, by rw [hE], HU⟩
 rw [decide_eq_false q6]
 refine W_cond_f rfl ?_
 refine W_skip (W_region ?_)
 refine Wmv (.slice a13 2 c13) ?_
 refine Wmv (.slice a14 m14 c14) ?_
 refine Wl_lit (pv := [(0, .slice a14 m14 c14)]) (cs := [.slice a14 m14 c14]) underlying41 sizeOf32 zeroValue32 (by decide) (by decide) (by simp only [List.map_toArray, List.map_cons, List.map_nil] <;> rfl) (by kernel_rfl) rfl (by decide) ?_
 intro B15 w15 hB15 hU15 hzz15 hs15
 have hzw15 := hU15.size
 replace hsb := hsb.upd0 hU15
 replace HU := HU.trans0 hU15
 replace hB8 := hB8.upd0 hU15
 replace hB11 := hB11.upd0 hU15
 replace hO13 := hO13.upd0 hU15
 replace hB14 := hB14.upd0 hU15
 refine Wl_appendc (cs3 := [.slice a8 m8 c8, .slice a11 m11 c11, .slice a14 m14 c14]) (tot := 3) (by first | rfl | exact (rows_app _ _).symm | simp) underlying41 (ti := Tryz.t32) (z := .slice none 0 0) (sz := 1) (by' := 24) rfl rfl rfl rfl rfl (by decide) rfl hO13 rfl hs15.sl (by intro u hu; simp at hu; subst hu; rfl) (by omega) (by simp only [maxLen]; omega) (by omega) ?_
 intro a16 c16 w16 hU16 hzz16 hO16
 clear hO13
 have hzw16 := hU16.size
 replace hsb := hsb.upd hU16 (by intro x h1 h2; have h3 : ((R x) ∧ x < w.heap.size) := h1; have h4 : ((((((x = w9.heap.size) ∧ x < w10.heap.size)) ∨ x = w12.heap.size)) ∧ x < w13.heap.size) := h2; omega)
 replace HU := HU.trans hU16 (by intro x hx; have hx2 : ((((((x = w9.heap.size) ∧ x < w10.heap.size)) ∨ x = w12.heap.size)) ∧ x < w13.heap.size) := hx; show (False) ∨ w.heap.size ≤ x; omega)
 replace hB8 := hB8.upd hU16 (by intro x h1 h2; have h3 : ((R x) ∧ x < w.heap.size) := h1; have h4 : ((((((x = w9.heap.size) ∧ x < w10.heap.size)) ∨ x = w12.heap.size)) ∧ x < w13.heap.size) := h2; omega)
 replace hB11 := hB11.upd hU16 (by intro x h1 h2; have h3 : ((R x) ∧ x < w.heap.size) := h1; have h4 : ((((((x = w9.heap.size) ∧ x < w10.heap.size)) ∨ x = w12.heap.size)) ∧ x < w13.heap.size) := h2; omega)
 replace hB14 := hB14.upd hU16 (by intro x h1 h2; have h3 : ((R x) ∧ x < w.heap.size) := h1; have h4 : ((((((x = w9.heap.size) ∧ x < w10.heap.size)) ∨ x = w12.heap.size)) ∧ x < w13.heap.size) := h2; omega)
 replace hO16 := hO16.tight
 have hl_hO16 := hO16.sl.len
 have hc_hO16 := hO16.sl.cap.1
 refine Wmv (.int .i64 (((gbytes b ((gbytes b ((gbytes b ((gnum b ((gnum b ((gnum b 0 131072).2.1) 131072).2.1) 131072).2.1) ((gnum b 0 131072).1)).2.1) ((gnum b ((gnum b 0 131072).2.1) 131072).1)).2.1) ((gnum b ((gnum b ((gnum b 0 131072).2.1) 131072).2.1) 131072).1)).2.1 : Nat) : Int)) ?_
 refine Was (.slice a16 3 c16) ?_
 refine Was (.int .i64 (((gbytes b ((gbytes b ((gbytes b ((gnum b ((gnum b ((gnum b 0 131072).2.1) 131072).2.1) 131072).2.1) ((gnum b 0 131072).1)).2.1) ((gnum b ((gnum b 0 131072).2.1) 131072).1)).2.1) ((gnum b ((gnum b ((gnum b 0 131072).2.1) 131072).2.1) 131072).1)).2.1 : Nat) : Int)) ?_
 refine Wl_nil (W_region ?_)
 refine Wmv (.int .i64 2) ?_
 refine Wl_v (r_add rfl rfl (show _ = (3 : Int) from by decide)) ?_
 refine Was (.int .i64 3) ?_
 refine Wl_nil ?_
 refine unrK_succ ?_
 refine W_seq (W_seq (W_region ?_))
 refine Wmv (.int .i64 3) ?_
 refine Wl_v (v := .bool false) (r_lt (a := 3) (b := 3) rfl rfl) ?_
 refine Wl_nil ?_
 refine W_cond_f rfl ?_
 refine W_exit ?_
 refine W_seq (W_region ?_)
 refine Wmv (.slice a16 3 c16) ?_
 refine Wmv (.slice a2 m d) ?_
 refine Wmv (.int .i64 (((gbytes b ((gbytes b ((gbytes b ((gnum b ((gnum b ((gnum b 0 131072).2.1) 131072).2.1) 131072).2.1) ((gnum b 0 131072).1)).2.1) ((gnum b ((gnum b 0 131072).2.1) 131072).1)).2.1) ((gnum b ((gnum b ((gnum b 0 131072).2.1) 131072).2.1) 131072).1)).2.1 : Nat) : Int)) ?_
 refine Wl_v (r_slicelen (l' := ((gbytes b ((gbytes b ((gbytes b ((gnum b ((gnum b ((gnum b 0 131072).2.1) 131072).2.1) 131072).2.1) ((gnum b 0 131072).1)).2.1) ((gnum b ((gnum b 0 131072).2.1) 131072).1)).2.1) ((gnum b ((gnum b ((gnum b 0 131072).2.1) 131072).2.1) 131072).1)).2.1)) (n' := m - ((gbytes b ((gbytes b ((gbytes b ((gnum b ((gnum b ((gnum b 0 131072).2.1) 131072).2.1) 131072).2.1) ((gnum b 0 131072).1)).2.1) ((gnum b ((gnum b 0 131072).2.1) 131072).1)).2.1) ((gnum b ((gnum b ((gnum b 0 131072).2.1) 131072).2.1) 131072).1)).2.1)) underlying32 sizeOf5 rfl rfl (by omega) (by omega) (by omega)) ?_
 have hT17 := Sl.cutl (l := ((gbytes b ((gbytes b ((gbytes b ((gnum b ((gnum b ((gnum b 0 131072).2.1) 131072).2.1) 131072).2.1) ((gnum b 0 131072).1)).2.1) ((gnum b ((gnum b 0 131072).2.1) 131072).1)).2.1) ((gnum b ((gnum b ((gnum b 0 131072).2.1) 131072).2.1) 131072).1)).2.1)) (n := m - ((gbytes b ((gbytes b ((gbytes b ((gnum b ((gnum b ((gnum b 0 131072).2.1) 131072).2.1) 131072).2.1) ((gnum b 0 131072).1)).2.1) ((gnum b ((gnum b 0 131072).2.1) 131072).1)).2.1) ((gnum b ((gnum b ((gnum b 0 131072).2.1) 131072).2.1) 131072).1)).2.1)) hsb (by omega) (by omega)
 have hl_hT17 := ilen hT17
 have hc_hT17 := hT17.cap.1
 refine Wl_lit (pv := [(0, .slice (if d = ((gbytes b ((gbytes b ((gbytes b ((gnum b ((gnum b ((gnum b 0 131072).2.1) 131072).2.1) 131072).2.1) ((gnum b 0 131072).1)).2.1) ((gnum b ((gnum b 0 131072).2.1) 131072).1)).2.1) ((gnum b ((gnum b ((gnum b 0 131072).2.1) 131072).2.1) 131072).1)).2.1) then a2 else a2.map (·.add (((gbytes b ((gbytes b ((gbytes b ((gnum b ((gnum b ((gnum b 0 131072).2.1) 131072).2.1) 131072).2.1) ((gnum b 0 131072).1)).2.1) ((gnum b ((gnum b 0 131072).2.1) 131072).1)).2.1) ((gnum b ((gnum b ((gnum b 0 131072).2.1) 131072).2.1) 131072).1)).2.1) * 1))) (m - ((gbytes b ((gbytes b ((gbytes b ((gnum b ((gnum b ((gnum b 0 131072).2.1) 131072).2.1) 131072).2.1) ((gnum b 0 131072).1)).2.1) ((gnum b ((gnum b 0 131072).2.1) 131072).1)).2.1) ((gnum b ((gnum b ((gnum b 0 131072).2.1) 131072).2.1) 131072).1)).2.1)) (d - ((gbytes b ((gbytes b ((gbytes b ((gnum b ((gnum b ((gnum b 0 131072).2.1) 131072).2.1) 131072).2.1) ((gnum b 0 131072).1)).2.1) ((gnum b ((gnum b 0 131072).2.1) 131072).1)).2.1) ((gnum b ((gnum b ((gnum b 0 131072).2.1) 131072).2.1) 131072).1)).2.1)))]) (cs := [.slice (if d = ((gbytes b ((gbytes b ((gbytes b ((gnum b ((gnum b ((gnum b 0 131072).2.1) 131072).2.1) 131072).2.1) ((gnum b 0 131072).1)).2.1) ((gnum b ((gnum b 0 131072).2.1) 131072).1)).2.1) ((gnum b ((gnum b ((gnum b 0 131072).2.1) 131072).2.1) 131072).1)).2.1) then a2 else a2.map (·.add (((gbytes b ((gbytes b ((gbytes b ((gnum b ((gnum b ((gnum b 0 131072).2.1) 131072).2.1) 131072).2.1) ((gnum b 0 131072).1)).2.1) ((gnum b ((gnum b 0 131072).2.1) 131072).1)).2.1) ((gnum b ((gnum b ((gnum b 0 131072).2.1) 131072).2.1) 131072).1)).2.1) * 1))) (m - ((gbytes b ((gbytes b ((gbytes b ((gnum b ((gnum b ((gnum b 0 131072).2.1) 131072).2.1) 131072).2.1) ((gnum b 0 131072).1)).2.1) ((gnum b ((gnum b 0 131072).2.1) 131072).1)).2.1) ((gnum b ((gnum b ((gnum b 0 131072).2.1) 131072).2.1) 131072).1)).2.1)) (d - ((gbytes b ((gbytes b ((gbytes b ((gnum b ((gnum b ((gnum b 0 131072).2.1) 131072).2.1) 131072).2.1) ((gnum b 0 131072).1)).2.1) ((gnum b ((gnum b 0 131072).2.1) 131072).1)).2.1) ((gnum b ((gnum b ((gnum b 0 131072).2.1) 131072).2.1) 131072).1)).2.1))]) underlying41 sizeOf32 zeroValue32 (by decide) (by decide) (by simp only [List.map_toArray, List.map_cons, List.map_nil] <;> rfl) (by kernel_rfl) rfl (by decide) ?_
 intro B18 w18 hB18 hU18 hzz18 hs18
 have hzw18 := hU18.size
 replace HU := HU.trans0 hU18
 replace hB8 := hB8.upd0 hU18
 replace hB11 := hB11.upd0 hU18
 replace hB14 := hB14.upd0 hU18
 replace hO16 := hO16.upd0 hU18
 replace hT17 := hT17.upd0 hU18
 refine Wl_appendc (cs3 := [.slice a8 m8 c8, .slice a11 m11 c11, .slice a14 m14 c14, .slice (if d = ((gbytes b ((gbytes b ((gbytes b ((gnum b ((gnum b ((gnum b 0 131072).2.1) 131072).2.1) 131072).2.1) ((gnum b 0 131072).1)).2.1) ((gnum b ((gnum b 0 131072).2.1) 131072).1)).2.1) ((gnum b ((gnum b ((gnum b 0 131072).2.1) 131072).2.1) 131072).1)).2.1) then a2 else a2.map (·.add (((gbytes b ((gbytes b ((gbytes b ((gnum b ((gnum b ((gnum b 0 131072).2.1) 131072).2.1) 131072).2.1) ((gnum b 0 131072).1)).2.1) ((gnum b ((gnum b 0 131072).2.1) 131072).1)).2.1) ((gnum b ((gnum b ((gnum b 0 131072).2.1) 131072).2.1) 131072).1)).2.1) * 1))) (m - ((gbytes b ((gbytes b ((gbytes b ((gnum b ((gnum b ((gnum b 0 131072).2.1) 131072).2.1) 131072).2.1) ((gnum b 0 131072).1)).2.1) ((gnum b ((gnum b 0 131072).2.1) 131072).1)).2.1) ((gnum b ((gnum b ((gnum b 0 131072).2.1) 131072).2.1) 131072).1)).2.1)) (d - ((gbytes b ((gbytes b ((gbytes b ((gnum b ((gnum b ((gnum b 0 131072).2.1) 131072).2.1) 131072).2.1) ((gnum b 0 131072).1)).2.1) ((gnum b ((gnum b 0 131072).2.1) 131072).1)).2.1) ((gnum b ((gnum b ((gnum b 0 131072).2.1) 131072).2.1) 131072).1)).2.1))]) (tot := 4) (by first | rfl | exact (rows_app _ _).symm | simp) underlying41 (ti := Tryz.t32) (z := .slice none 0 0) (sz := 1) (by' := 24) rfl rfl rfl rfl rfl (by decide) rfl hO16 rfl hs18.sl (by intro u hu; simp at hu; subst hu; rfl) (by omega) (by simp only [maxLen]; omega) (by omega) ?_
 intro a19 c19 w19 hU19 hzz19 hO19
 clear hO16
 have hzw19 := hU19.size
 replace HU := HU.trans hU19 (by intro x hx; have hx2 : ((((((((((x = w9.heap.size) ∧ x < w10.heap.size)) ∨ x = w12.heap.size)) ∧ x < w13.heap.size)) ∨ x = w15.heap.size)) ∧ x < w16.heap.size) := hx; show (False) ∨ w.heap.size ≤ x; omega)
 replace hB8 := hB8.upd hU19 (by intro x h1 h2; have h3 : ((R x) ∧ x < w.heap.size) := h1; have h4 : ((((((((((x = w9.heap.size) ∧ x < w10.heap.size)) ∨ x = w12.heap.size)) ∧ x < w13.heap.size)) ∨ x = w15.heap.size)) ∧ x < w16.heap.size) := h2; omega)
 replace hB11 := hB11.upd hU19 (by intro x h1 h2; have h3 : ((R x) ∧ x < w.heap.size) := h1; have h4 : ((((((((((x = w9.heap.size) ∧ x < w10.heap.size)) ∨ x = w12.heap.size)) ∧ x < w13.heap.size)) ∨ x = w15.heap.size)) ∧ x < w16.heap.size) := h2; omega)
 replace hB14 := hB14.upd hU19 (by intro x h1 h2; have h3 : ((R x) ∧ x < w.heap.size) := h1; have h4 : ((((((((((x = w9.heap.size) ∧ x < w10.heap.size)) ∨ x = w12.heap.size)) ∧ x < w13.heap.size)) ∨ x = w15.heap.size)) ∧ x < w16.heap.size) := h2; omega)
 replace hT17 := hT17.upd hU19 (by intro x h1 h2; have h3 : ((R x) ∧ x < w.heap.size) := h1; have h4 : ((((((((((x = w9.heap.size) ∧ x < w10.heap.size)) ∨ x = w12.heap.size)) ∧ x < w13.heap.size)) ∨ x = w15.heap.size)) ∧ x < w16.heap.size) := h2; omega)
 replace hO19 := hO19.tight
 have hl_hO19 := hO19.sl.len
 have hc_hO19 := hO19.sl.cap.1
 refine Was (.slice a19 4 c19) ?_
 refine Was (.int .i64 0) ?_
 refine Wl_nil ?_
 refine W_ret ?_
 refine ret_end (v := .tuple #[.slice a19 4 c19, .int .i64 0]) rfl (res2 results26 rfl rfl) ?_
 refine Or.inl ⟨(e4_y3 ((e3_3 (Classical.not_not.1 q1) (Classical.not_not.1 q2)).trans (Classical.not_not.1 q3)) (Classical.not_not.1 q4) (Classical.not_not.1 q5)).trans (Classical.not_not.1 q6), ?_⟩
 exact ⟨_, rfl, a19, c19, a8, m8, c8, a11, m11, c11, a14, m14, c14, (if d = ((gbytes b ((gbytes b ((gbytes b ((gnum b ((gnum b ((gnum b 0 131072).2.1) 131072).2.1) 131072).2.1) ((gnum b 0 131072).1)).2.1) ((gnum b ((gnum b 0 131072).2.1) 131072).1)).2.1) ((gnum b ((gnum b ((gnum b 0 131072).2.1) 131072).2.1) 131072).1)).2.1) then a2 else a2.map (·.add (((gbytes b ((gbytes b ((gbytes b ((gnum b ((gnum b ((gnum b 0 131072).2.1) 131072).2.1) 131072).2.1) ((gnum b 0 131072).1)).2.1) ((gnum b ((gnum b 0 131072).2.1) 131072).1)).2.1) ((gnum b ((gnum b ((gnum b 0 131072).2.1) 131072).2.1) 131072).1)).2.1) * 1))), m - ((gbytes b ((gbytes b ((gbytes b ((gnum b ((gnum b ((gnum b 0 131072).2.1) 131072).2.1) 131072).2.1) ((gnum b 0 131072).1)).2.1) ((gnum b ((gnum b 0 131072).2.1) 131072).1)).2.1) ((gnum b ((gnum b ((gnum b 0 131072).2.1) 131072).2.1) 131072).1)).2.1), d - ((gbytes b ((gbytes b ((gbytes b ((gnum b ((gnum b ((gnum b 0 131072).2.1) 131072).2.1) 131072).2.1) ((gnum b 0 131072).1)).2.1) ((gnum b ((gnum b 0 131072).2.1) 131072).1)).2.1) ((gnum b ((gnum b ((gnum b 0 131072).2.1) 131072).2.1) 131072).1)).2.1), rfl, (hO19.weak (by intro g hg; have h3 : ((((((((((((((g = w9.heap.size) ∧ g < w10.heap.size)) ∨ g = w12.heap.size)) ∧ g < w13.heap.size)) ∨ g = w15.heap.size)) ∧ g < w16.heap.size)) ∨ g = w18.heap.size)) ∧ g < w19.heap.size) := hg; show w.heap.size ≤ g; omega)), (hB8.weak (by intro g hg; have h3 : ((R g) ∧ g < w.heap.size) := hg; exact h3.1)), (hB11.weak (by intro g hg; have h3 : ((R g) ∧ g < w.heap.size) := hg; exact h3.1)), (hB14.weak (by intro g hg; have h3 : ((R g) ∧ g < w.heap.size) := hg; exact h3.1)), (hT17.weak (by intro g hg; have h3 : ((R g) ∧ g < w.heap.size) := hg; exact h3.1)), HU⟩
theorem rstr_ok {a2 : Option Addr} {m d : Nat} {b : List Int} {R : Nat → Prop} (w : World) (hsb : Sl w R 1 (.slice a2 m d) m (ints .u8 b)) (hb : Byt b) (hm : m ≤ 100000) (he : e4 b = 0) :
  Calls Tryz.prog 26 #[.slice a2 m d] w (Ret fun v w' => ∃ (a' : Option Addr) (c' : Nat) (ja : Option Addr) (ka : Nat) (qa : Nat) (jb : Option Addr) (kb : Nat) (qb : Nat) (jc : Option Addr) (kc : Nat) (qc : Nat) (jd : Option Addr) (kd : Nat) (qd : Nat), v = .tuple #[.slice a' 4 c', .int .i64 0] ∧ Own w' (fun g => w.heap.size ≤ g) 32 1 (.slice a' 4 c') 4 ([.slice ja ka qa, .slice jb kb qb, .slice jc kc qc, .slice jd kd qd]) ∧ Sl w' R 1 (.slice ja ka qa) ka (ints .u8 ((gbytes b (gnum b (gnum b (gnum b 0 131072).2.1 131072).2.1 131072).2.1 (gnum b 0 131072).1).1)) ∧ Sl w' R 1 (.slice jb kb qb) kb (ints .u8 ((gbytes b (gbytes b (gnum b (gnum b (gnum b 0 131072).2.1 131072).2.1 131072).2.1 (gnum b 0 131072).1).2.1 (gnum b (gnum b 0 131072).2.1 131072).1).1)) ∧ Sl w' R 1 (.slice jc kc qc) kc (ints .u8 ((gbytes b (gbytes b (gbytes b (gnum b (gnum b (gnum b 0 131072).2.1 131072).2.1 131072).2.1 (gnum b 0 131072).1).2.1 (gnum b (gnum b 0 131072).2.1 131072).1).2.1 (gnum b (gnum b (gnum b 0 131072).2.1 131072).2.1 131072).1).1)) ∧ Sl w' R 1 (.slice jd kd qd) kd (ints .u8 (b.drop (gbytes b (gbytes b (gbytes b (gnum b (gnum b (gnum b 0 131072).2.1 131072).2.1 131072).2.1 (gnum b 0 131072).1).2.1 (gnum b (gnum b 0 131072).2.1 131072).1).2.1 (gnum b (gnum b (gnum b 0 131072).2.1 131072).2.1 131072).1).2.1)) ∧ Upd No w w') :=
 (rstr_all w hsb hb hm).mono fun e w1 h => Or.elim h (fun h => h.2) (fun h => absurd he h.1)
theorem rstr_no {a2 : Option Addr} {m d : Nat} {b : List Int} {R : Nat → Prop} (w : World) (hsb : Sl w R 1 (.slice a2 m d) m (ints .u8 b)) (hb : Byt b) (hm : m ≤ 100000) (he : ¬ e4 b = 0) :
  Calls Tryz.prog 26 #[.slice a2 m d] w (Ret fun v w' => v = .tuple #[.slice none 0 0, .int .i64 (e4 b)] ∧ Upd No w w') :=
 (rstr_all w hsb hb hm).mono fun e w1 h => Or.elim h (fun h => absurd h.1 he) (fun h => h.2)
end Go.Proofs.YtdppageondgjkaaGreat
