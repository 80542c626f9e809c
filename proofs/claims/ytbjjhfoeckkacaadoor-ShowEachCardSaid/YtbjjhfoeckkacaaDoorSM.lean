/-
  Several texts of this project, put together.
-/
import Derived.Test.YtbjjhfoeckkacaaDoorSJ
set_option linter.unusedVariables false
set_option linter.unusedSimpArgs false
set_option linter.deprecated false
set_option maxRecDepth 100000
namespace Go.Proofs.YtbjjhfoeckkacaaDoor
open Go.Fw _root_.Go.Proofs.Tryd
def encI (x : List Int × Fn × Fn) : List Value := [.string (strOfNums x.1), .func x.2.1 #[] #[], .func x.2.2 #[] #[]]
theorem encI_len (x : List Int × Fn × Fn) : (encI x).length = 3 := rfl
theorem joined_spec {R : Nat → Prop} {a : Option Addr} {n c : Nat} {l : List (List Int)} (w : World) (hs : Sl w R 1 (.slice a n c) n (rows encS l)) (hb : ∀ x ∈ l, Byt x) (hl : ∀ x ∈ l, x.length ≤ 200) (hn : n ≤ 1000000) :
  Calls Tryd.prog 30 #[.slice a n c] w (Ret fun v w' => v = .string (strOfNums (jnw l)) ∧ Upd No w w') := by
 have HU := Upd.rno w
 have hl_hs := rlen encS_len (by decide) hs
 have hc_hs := hs.cap.1
 replace hs := hs.tight
 refine calls_of_W func30 rfl ntmps30 (by simp) ?_
 refine W_seq (W_region ?_)
 refine Was (.string (strOfNums [])) ?_
 refine Wl_nil (W_seq (W_region ?_))
 refine Wmv (.slice a n c) ?_
 refine Wl_call (r_call2 rfl call44 rfl rfl) (join_spec _ hs hb hl (by omega)) ?_
 rintro v w1 ⟨rfl, hU1⟩
 have hzw1 := hU1.size
 replace HU := HU.trans0 hU1
 refine Was (.string (strOfNums (jnw l))) ?_
 refine Wl_nil ?_
 refine W_ret ?_
 refine ret_end (v := .string (strOfNums (jnw l))) rfl (res1 results30 rfl) ?_
 exact ⟨_, rfl, rfl, HU⟩
theorem two_ok {x y : List Int} {k : Nat} (h1 : x.length ≤ k ∧ Byt x) (h2 : y.length ≤ k ∧ Byt y) : (∀ z ∈ [x, y], Byt z) ∧ ∀ z ∈ [x, y], z.length ≤ k := by
 refine ⟨fun z hz => ?_, fun z hz => ?_⟩ <;> (simp only [List.mem_cons, List.not_mem_nil, or_false] at hz; rcases hz with rfl | rfl)
 ·exact h1.2
 ·exact h2.2
 ·exact h1.1
 exact h2.1
theorem dig_ok {n : Int} (h : rg n) : (dig n).length ≤ 200 ∧ Byt (dig n) := ⟨by have := dig_len h; omega, dig_byt n⟩
theorem lit_ok {l : List Int} (h : (l.all fun x => decide (0 ≤ x ∧ x < 256)) = true ∧ l.length ≤ 200) : l.length ≤ 200 ∧ Byt l := ⟨h.2, byt_lit h.1⟩
theorem jnw2 (x y : List Int) : jnw [x, y] = x ++ 32 :: y := rfl
set_option maxHeartbeats 2000000 in
theorem text_spec {x : BK} {g0 : Nat} (w : World) (ht : Tab w g0) (hok : okB x) :
  Calls Tryd.prog 33 #[.agg #[.int .i64 x.1, .int .i64 x.2.1, .int .i64 x.2.2.1, .int .i64 x.2.2.2.1, .bool (decide (x.2.2.2.2 = true))]] w (Ret fun v w' => v = .string (strOfNums (btx x)) ∧ Upd No w w') := by
 have HU := Upd.rno w
 have htl := ht.1
 have hd1 := dig_len hok.2.1
 have hd2 := dig_len hok.2.2
 refine calls_of_W func33 rfl ntmps33 (by simp) ?_
 refine W_seq (W_region ?_)
 refine Wl_box (v := .agg #[.int .i64 x.1, .int .i64 x.2.1, .int .i64 x.2.2.1, .int .i64 x.2.2.2.1, .bool (decide (x.2.2.2.2 = true))]) (cs := [.int .i64 x.1, .int .i64 x.2.1, .int .i64 x.2.2.1, .int .i64 x.2.2.2.1, .bool (decide (x.2.2.2.2 = true))]) rfl rfl ?_
 intro B1 w1 hB1 hU1 hzz1 hb1
 have hzw1 := hU1.size
 replace ht := ht.upd0 hU1
 replace HU := HU.trans0 hU1
 refine Was (.string (strOfNums [])) ?_
 refine Wl_nil (W_seq (W_region ?_))
 refine Wl_v (r_builda (pv := [(0, .string (strOfNums [114, 97, 119])), (1, .string (strOfNums [114, 117, 110])), (2, .string (strOfNums [99, 111, 100, 101, 100]))]) (cs := #[.string (strOfNums [114, 97, 119]), .string (strOfNums [114, 117, 110]), .string (strOfNums [99, 111, 100, 101, 100])]) zeroValue109 underlying109 sizeOf9 (by simp only [List.map_toArray, List.map_cons, List.map_nil] <;> rfl) (by kernel_rfl)) ?_
 refine Wl_alloc (cs := [.string (strOfNums []), .string (strOfNums []), .string (strOfNums [])]) zeroValue109 rfl ?_
 intro B2 w2 hB2 hU2 hzz2 hb2
 have hzw2 := hU2.size
 replace ht := ht.upd0 hU2
 replace HU := HU.trans0 hU2
 replace hb1 := hb1.upd0 hU2
 refine Wl_storea (off := 0) (vs := [.string (strOfNums [114, 97, 119]), .string (strOfNums [114, 117, 110]), .string (strOfNums [99, 111, 100, 101, 100])]) (cs' := [.string (strOfNums [114, 97, 119]), .string (strOfNums [114, 117, 110]), .string (strOfNums [99, 111, 100, 101, 100])]) sizeOf109 rfl rfl rfl (by simp only [List.mem_cons, List.not_mem_nil, or_false, forall_eq_or_imp, forall_eq]; exact ⟨rfl, rfl, rfl⟩) hb2 (by simp) rfl ?_
 intro w3 hU3 hzz3 hb2n
 replace hb2 := hb2n; clear hb2n
 have hzw3 := hU3.size
 replace ht := ht.upd1 hU3 (by omega)
 replace HU := HU.t1 hU3 (by omega)
 replace hb1 := hb1.upd1 hU3 (by omega)
 refine Wl_nil (W_seq (W_seq (W_region ?_)))
 refine Wl_v (r_fld underlying51 rfl sizeOf49 rfl rfl) ?_
 refine Wl_load (v := .int .i64 x.2.1) isAgg49 rfl hb1 rfl ?_
 refine Wl_v (r_lt rfl rfl) ?_
 refine Wmv (.bool (decide (x.2.1 < 0))) ?_
 by_cases q1 : x.2.1 < 0
 ·rw [decide_eq_true q1]
  refine Wl_guard_f rfl (Wl_guard_f rfl (Wl_guard_f rfl ?_))
  refine Wl_v (r_pick_t (v := .bool true) rfl rfl) ?_
  refine Wl_nil ?_
  refine W_cond_t rfl ?_
  refine W_seq (W_region ?_)
  refine Wl_v (r_fld underlying51 rfl sizeOf3 rfl rfl) ?_
  refine Wl_load (v := .int .i64 x.2.2.1) isAgg3 rfl hb1 rfl ?_
  refine Wl_call (r_call1 rfl call31 rfl) (itoa_spec _ ht (show rg x.2.2.1 from hok.2.1)) ?_
  rintro v w4 ⟨rfl, hU4⟩
  have hzw4 := hU4.size
  replace HU := HU.trans0 hU4
  refine Wl_lit (pv := [(0, .string (strOfNums [110, 111, 110, 101])), (1, .string (strOfNums (dig x.2.2.1)))]) (cs := [.string (strOfNums [110, 111, 110, 101]), .string (strOfNums (dig x.2.2.1))]) underlying86 sizeOf9 zeroValue9 (by decide) (by decide) (by simp only [List.map_toArray, List.map_cons, List.map_nil] <;> rfl) (by kernel_rfl) rfl (by decide) ?_
  intro B5 w5 hB5 hU5 hzz5 hs5
  have hzw5 := hU5.size
  replace HU := HU.trans0 hU5
  replace hs5 : Own w5 (Is B5) 9 1 (.slice (some ⟨B5, 0, none⟩) 2 2) 2 (rows encS [([110, 111, 110, 101]), (dig x.2.2.1)]) := hs5
  refine Wl_call (r_call1 rfl call30 rfl) (joined_spec _ hs5.sl (two_ok (lit_ok (l := [110, 111, 110, 101]) (by decide)) (dig_ok hok.2.1)).1 (two_ok (lit_ok (l := [110, 111, 110, 101]) (by decide)) (dig_ok hok.2.1)).2 (by omega)) ?_
  rintro v w6 ⟨rfl, hU6⟩
  have hzw6 := hU6.size
  replace HU := HU.trans0 hU6
  refine Was (.string (strOfNums (jnw [([110, 111, 110, 101]), (dig x.2.2.1)]))) ?_
  refine Wl_nil ?_
  refine W_ret ?_
  refine ret_end (v := .string (strOfNums (jnw [([110, 111, 110, 101]), (dig x.2.2.1)]))) rfl (res1 results33 rfl) ?_
  exact ⟨_, rfl, (by rw [btx_none (by omega)]; rfl), HU⟩
 rw [decide_eq_false q1]
 refine Wl_guard_t rfl ?_
 refine Wl_v (r_fld underlying51 rfl sizeOf49 rfl rfl) ?_
 refine Wl_guard_t rfl ?_
 refine Wl_load (v := .int .i64 x.2.1) isAgg49 rfl hb1 rfl ?_
 refine Wl_guard_t rfl ?_
 refine Wl_v (r_ge rfl rfl) ?_
 refine Wl_v (r_pick_f (v := .bool (decide (3 ≤ x.2.1))) rfl rfl) ?_
 refine Wl_nil ?_
 by_cases q2 : 3 ≤ x.2.1
 ·rw [decide_eq_true q2]
  refine W_cond_t rfl ?_
  refine W_seq (W_region ?_)
  refine Wl_v (r_fld underlying51 rfl sizeOf3 rfl rfl) ?_
  refine Wl_load (v := .int .i64 x.2.2.1) isAgg3 rfl hb1 rfl ?_
  refine Wl_call (r_call1 rfl call31 rfl) (itoa_spec _ ht (show rg x.2.2.1 from hok.2.1)) ?_
  rintro v w7 ⟨rfl, hU7⟩
  have hzw7 := hU7.size
  replace HU := HU.trans0 hU7
  refine Wl_lit (pv := [(0, .string (strOfNums [110, 111, 110, 101])), (1, .string (strOfNums (dig x.2.2.1)))]) (cs := [.string (strOfNums [110, 111, 110, 101]), .string (strOfNums (dig x.2.2.1))]) underlying86 sizeOf9 zeroValue9 (by decide) (by decide) (by simp only [List.map_toArray, List.map_cons, List.map_nil] <;> rfl) (by kernel_rfl) rfl (by decide) ?_
  intro B8 w8 hB8 hU8 hzz8 hs8
  have hzw8 := hU8.size
  replace HU := HU.trans0 hU8
  replace hs8 : Own w8 (Is B8) 9 1 (.slice (some ⟨B8, 0, none⟩) 2 2) 2 (rows encS [([110, 111, 110, 101]), (dig x.2.2.1)]) := hs8
  refine Wl_call (r_call1 rfl call30 rfl) (joined_spec _ hs8.sl (two_ok (lit_ok (l := [110, 111, 110, 101]) (by decide)) (dig_ok hok.2.1)).1 (two_ok (lit_ok (l := [110, 111, 110, 101]) (by decide)) (dig_ok hok.2.1)).2 (by omega)) ?_
  rintro v w9 ⟨rfl, hU9⟩
  have hzw9 := hU9.size
  replace HU := HU.trans0 hU9
  refine Was (.string (strOfNums (jnw [([110, 111, 110, 101]), (dig x.2.2.1)]))) ?_
  refine Wl_nil ?_
  refine W_ret ?_
  refine ret_end (v := .string (strOfNums (jnw [([110, 111, 110, 101]), (dig x.2.2.1)]))) rfl (res1 results33 rfl) ?_
  exact ⟨_, rfl, (by rw [btx_none (by omega)]; rfl), HU⟩
 rw [decide_eq_false q2]
 refine W_cond_f rfl ?_
 refine W_skip (W_seq ?_)
 refine W_drawt rfl (l0 := tf 0 10) (by kernel_rfl) ?_
 refine Tk 0 (tf 1 10) rfl (YI_v (v := .pointer (some ⟨B1, 1, none⟩)) rfl (fun w' hw' => r_fld underlying51 rfl sizeOf49 rfl rfl)) ?_
 by_cases q3 : x.2.1 = 0
 ·refine Tk 1 (tf 2 10) rfl (YI_v (v := .int .i64 x.2.1) rfl (fun w' hw' => r_load isAgg49 rfl (by rw [(hb1.upd0 hw').cell]; rfl))) ?_
  rw [show (x.2.1 : Int) = 0 from q3]
  refine Tk 2 (tf 3 10) rfl (YI_v (v := .pointer (some ⟨B2, 0, none⟩)) rfl (fun w' hw' => r_idxa (len := 3) (i' := 0) (o' := 0) underlying109 sizeOf9 rfl rfl (by omega) (by omega) (by omega))) ?_
  refine Tk 3 (tf 4 10) rfl (YI_v (v := .string (strOfNums [114, 97, 119])) rfl (fun w' hw' => r_load isAgg9 rfl (by rw [(hb2.upd0 hw').cell]; rfl))) ?_
  refine Tk 4 (tf 5 10) rfl (YI_v (v := .pointer (some ⟨B1, 2, none⟩)) rfl (fun w' hw' => r_fld underlying51 rfl sizeOf3 rfl rfl)) ?_
  refine Tk 5 (tf 6 10) rfl (YI_v (v := .int .i64 x.2.2.1) rfl (fun w' hw' => r_load isAgg3 rfl (by rw [(hb1.upd0 hw').cell]; rfl))) ?_
  refine Tk 6 (tf 7 10) rfl (YI_c (v := .string (strOfNums (dig x.2.2.1))) rfl (fun w' => r_call1 rfl call31 rfl) (fun w' hw' => itoa_spec w' (ht.upd0 hw') (show rg x.2.2.1 from hok.2.1))) ?_
  intro w10 hU10
  have hzw10 := hU10.size
  replace ht := ht.upd0 hU10
  replace HU := HU.trans0 hU10
  replace hb1 := hb1.upd0 hU10
  refine Wa_one (i := 7) (listed' := tf 8 10) (by kernel_rfl) rfl (by kernel_rfl) ?_
  refine Ws_of_Wl ?_
  have hW : Upd No w3 w10 := hU10
  refine Wl_lit (pv := [(0, .string (strOfNums [114, 97, 119])), (1, .string (strOfNums (dig x.2.2.1)))]) (cs := [.string (strOfNums [114, 97, 119]), .string (strOfNums (dig x.2.2.1))]) underlying86 sizeOf9 zeroValue9 (by decide) (by decide) (by simp only [List.map_toArray, List.map_cons, List.map_nil] <;> rfl) (by kernel_rfl) rfl (by decide) ?_
  intro B11 w11 hB11 hU11 hzz11 hs11
  have hzw11 := hU11.size
  replace ht := ht.upd0 hU11
  replace HU := HU.trans0 hU11
  replace hb1 := hb1.upd0 hU11
  try replace hW := hW.trans0 hU11
  replace hs11 : Own w11 (Is B11) 9 1 (.slice (some ⟨B11, 0, none⟩) 2 2) 2 (rows encS [([114, 97, 119]), (dig x.2.2.1)]) := hs11
  refine Wl_nil ?_
  intro w12 hS12
  refine ⟨fun h => absurd h (by rw [show barOp _ 7 = true from by kernel_rfl]; simp), fun _ => ⟨Upd No w12, ?_⟩⟩
  have hU12 := hS12.upd
  have hzw12 := hU12.size
  replace ht := ht.upd0 hU12
  replace HU := HU.trans0 hU12
  replace hb1 := hb1.upd0 hU12
  replace hs11 := hs11.upd0 hU12
  try replace hW := hW.trans0 hU12
  refine Wt_base (Upd.refl _ _) ?_
  refine Tk 8 (tf 9 10) rfl (YI_c (v := .string (strOfNums (jnw [([114, 97, 119]), (dig x.2.2.1)]))) rfl (fun w' => r_call1 rfl call30 rfl) (fun w' hw' => joined_spec w' ((hs11.upd0 hw').sl) (two_ok (lit_ok (l := [114, 97, 119]) (by decide)) (dig_ok hok.2.1)).1 (two_ok (lit_ok (l := [114, 97, 119]) (by decide)) (dig_ok hok.2.1)).2 (by omega))) ?_
  refine Tk 9 (tf 10 10) rfl (YI_v (v := .string (strOfNums (jnw [([114, 97, 119]), (dig x.2.2.1)]))) rfl (fun w' hw' => r_as (v := .string (strOfNums (jnw [([114, 97, 119]), (dig x.2.2.1)]))) rfl)) ?_
  intro w13 hU13
  have hzw13 := hU13.size
  replace ht := ht.upd0 hU13
  replace HU := HU.trans0 hU13
  replace hb1 := hb1.upd0 hU13
  try replace hW := hW.trans0 hU13
  refine Wa_done (by kernel_rfl) ?_
  refine W_seq (W_seq (W_region ?_))
  refine Wl_v (r_fld underlying51 rfl sizeOf3 rfl rfl) ?_
  refine Wl_load (v := .int .i64 x.2.2.2.1) isAgg3 rfl hb1 rfl ?_
  refine Wl_v (r_fld underlying51 rfl sizeOf3 rfl rfl) ?_
  refine Wl_load (v := .int .i64 x.2.2.1) isAgg3 rfl hb1 rfl ?_
  refine Wl_v (r_ne rfl rfl) ?_
  refine Wl_nil ?_
  by_cases q4 : x.2.2.2.1 ≠ x.2.2.1
  ·rw [decide_eq_true q4]
   refine W_cond_t rfl ?_
   refine W_region ?_
   refine Wmv (.string (strOfNums (jnw [([114, 97, 119]), (dig x.2.2.1)]))) ?_
   refine Wl_v (r_fld underlying51 rfl sizeOf3 rfl rfl) ?_
   refine Wl_load (v := .int .i64 x.2.2.2.1) isAgg3 rfl hb1 rfl ?_
   refine Wl_call (r_call1 rfl call31 rfl) (itoa_spec _ ht (show rg x.2.2.2.1 from hok.2.2)) ?_
   rintro v w14 ⟨rfl, hU14⟩
   have hzw14 := hU14.size
   replace HU := HU.trans0 hU14
   try replace hW := hW.trans0 hU14
   refine Wl_v (r_addstr (a := [47]) (b := dig x.2.2.2.1) rfl rfl (by simp only [jnw2, List.length_append, List.length_cons, List.length_nil]; omega)) ?_
   refine Wl_v (r_addstr (a := jnw [([114, 97, 119]), (dig x.2.2.1)]) (b := [47] ++ (dig x.2.2.2.1)) rfl rfl (by simp only [jnw2, List.length_append, List.length_cons, List.length_nil]; omega)) ?_
   refine Was (.string (strOfNums ((jnw [([114, 97, 119]), (dig x.2.2.1)]) ++ ([47] ++ (dig x.2.2.2.1))))) ?_
   refine Wl_nil (W_seq (W_region ?_))
   refine Wmv (.string (strOfNums ((jnw [([114, 97, 119]), (dig x.2.2.1)]) ++ ([47] ++ (dig x.2.2.2.1))))) ?_
   refine Was (.string (strOfNums ((jnw [([114, 97, 119]), (dig x.2.2.1)]) ++ ([47] ++ (dig x.2.2.2.1))))) ?_
   refine Wl_nil ?_
   refine W_ret ?_
   refine ret_end (v := .string (strOfNums ((jnw [([114, 97, 119]), (dig x.2.2.1)]) ++ ([47] ++ (dig x.2.2.2.1))))) rfl (res1 results33 rfl) ?_
   exact ⟨_, rfl, (by rw [btx_other (by omega) (by omega) q4, show x.2.1 = 0 from by omega, jnw2]; rfl), HU⟩
  rw [decide_eq_false q4]
  refine W_cond_f rfl ?_
  refine W_skip (W_seq (W_region ?_))
  refine Wmv (.string (strOfNums (jnw [([114, 97, 119]), (dig x.2.2.1)]))) ?_
  refine Was (.string (strOfNums (jnw [([114, 97, 119]), (dig x.2.2.1)]))) ?_
  refine Wl_nil ?_
  refine W_ret ?_
  refine ret_end (v := .string (strOfNums (jnw [([114, 97, 119]), (dig x.2.2.1)]))) rfl (res1 results33 rfl) ?_
  exact ⟨_, rfl, (by rw [btx_same (by omega) (by omega) (Classical.not_not.1 q4), show x.2.1 = 0 from by omega, jnw2]; rfl), HU⟩
 by_cases q5 : x.2.1 = 1
 ·refine Tk 1 (tf 2 10) rfl (YI_v (v := .int .i64 x.2.1) rfl (fun w' hw' => r_load isAgg49 rfl (by rw [(hb1.upd0 hw').cell]; rfl))) ?_
  rw [show (x.2.1 : Int) = 1 from q5]
  refine Tk 2 (tf 3 10) rfl (YI_v (v := .pointer (some ⟨B2, 1, none⟩)) rfl (fun w' hw' => r_idxa (len := 3) (i' := 1) (o' := 1) underlying109 sizeOf9 rfl rfl (by omega) (by omega) (by omega))) ?_
  refine Tk 3 (tf 4 10) rfl (YI_v (v := .string (strOfNums [114, 117, 110])) rfl (fun w' hw' => r_load isAgg9 rfl (by rw [(hb2.upd0 hw').cell]; rfl))) ?_
  refine Tk 4 (tf 5 10) rfl (YI_v (v := .pointer (some ⟨B1, 2, none⟩)) rfl (fun w' hw' => r_fld underlying51 rfl sizeOf3 rfl rfl)) ?_
  refine Tk 5 (tf 6 10) rfl (YI_v (v := .int .i64 x.2.2.1) rfl (fun w' hw' => r_load isAgg3 rfl (by rw [(hb1.upd0 hw').cell]; rfl))) ?_
  refine Tk 6 (tf 7 10) rfl (YI_c (v := .string (strOfNums (dig x.2.2.1))) rfl (fun w' => r_call1 rfl call31 rfl) (fun w' hw' => itoa_spec w' (ht.upd0 hw') (show rg x.2.2.1 from hok.2.1))) ?_
  intro w15 hU15
  have hzw15 := hU15.size
  replace ht := ht.upd0 hU15
  replace HU := HU.trans0 hU15
  replace hb1 := hb1.upd0 hU15
  refine Wa_one (i := 7) (listed' := tf 8 10) (by kernel_rfl) rfl (by kernel_rfl) ?_
  refine Ws_of_Wl ?_
  have hW : Upd No w3 w15 := hU15
  refine Wl_lit (pv := [(0, .string (strOfNums [114, 117, 110])), (1, .string (strOfNums (dig x.2.2.1)))]) (cs := [.string (strOfNums [114, 117, 110]), .string (strOfNums (dig x.2.2.1))]) underlying86 sizeOf9 zeroValue9 (by decide) (by decide) (by simp only [List.map_toArray, List.map_cons, List.map_nil] <;> rfl) (by kernel_rfl) rfl (by decide) ?_
  intro B16 w16 hB16 hU16 hzz16 hs16
  have hzw16 := hU16.size
  replace ht := ht.upd0 hU16
  replace HU := HU.trans0 hU16
  replace hb1 := hb1.upd0 hU16
  try replace hW := hW.trans0 hU16
  replace hs16 : Own w16 (Is B16) 9 1 (.slice (some ⟨B16, 0, none⟩) 2 2) 2 (rows encS [([114, 117, 110]), (dig x.2.2.1)]) := hs16
  refine Wl_nil ?_
  intro w17 hS17
  refine ⟨fun h => absurd h (by rw [show barOp _ 7 = true from by kernel_rfl]; simp), fun _ => ⟨Upd No w17, ?_⟩⟩
  have hU17 := hS17.upd
  have hzw17 := hU17.size
  replace ht := ht.upd0 hU17
  replace HU := HU.trans0 hU17
  replace hb1 := hb1.upd0 hU17
  replace hs16 := hs16.upd0 hU17
  try replace hW := hW.trans0 hU17
  refine Wt_base (Upd.refl _ _) ?_
  refine Tk 8 (tf 9 10) rfl (YI_c (v := .string (strOfNums (jnw [([114, 117, 110]), (dig x.2.2.1)]))) rfl (fun w' => r_call1 rfl call30 rfl) (fun w' hw' => joined_spec w' ((hs16.upd0 hw').sl) (two_ok (lit_ok (l := [114, 117, 110]) (by decide)) (dig_ok hok.2.1)).1 (two_ok (lit_ok (l := [114, 117, 110]) (by decide)) (dig_ok hok.2.1)).2 (by omega))) ?_
  refine Tk 9 (tf 10 10) rfl (YI_v (v := .string (strOfNums (jnw [([114, 117, 110]), (dig x.2.2.1)]))) rfl (fun w' hw' => r_as (v := .string (strOfNums (jnw [([114, 117, 110]), (dig x.2.2.1)]))) rfl)) ?_
  intro w18 hU18
  have hzw18 := hU18.size
  replace ht := ht.upd0 hU18
  replace HU := HU.trans0 hU18
  replace hb1 := hb1.upd0 hU18
  try replace hW := hW.trans0 hU18
  refine Wa_done (by kernel_rfl) ?_
  refine W_seq (W_seq (W_region ?_))
  refine Wl_v (r_fld underlying51 rfl sizeOf3 rfl rfl) ?_
  refine Wl_load (v := .int .i64 x.2.2.2.1) isAgg3 rfl hb1 rfl ?_
  refine Wl_v (r_fld underlying51 rfl sizeOf3 rfl rfl) ?_
  refine Wl_load (v := .int .i64 x.2.2.1) isAgg3 rfl hb1 rfl ?_
  refine Wl_v (r_ne rfl rfl) ?_
  refine Wl_nil ?_
  by_cases q6 : x.2.2.2.1 ≠ x.2.2.1
  ·rw [decide_eq_true q6]
   refine W_cond_t rfl ?_
   refine W_region ?_
   refine Wmv (.string (strOfNums (jnw [([114, 117, 110]), (dig x.2.2.1)]))) ?_
   refine Wl_v (r_fld underlying51 rfl sizeOf3 rfl rfl) ?_
   refine Wl_load (v := .int .i64 x.2.2.2.1) isAgg3 rfl hb1 rfl ?_
   refine Wl_call (r_call1 rfl call31 rfl) (itoa_spec _ ht (show rg x.2.2.2.1 from hok.2.2)) ?_
   rintro v w19 ⟨rfl, hU19⟩
   have hzw19 := hU19.size
   replace HU := HU.trans0 hU19
   try replace hW := hW.trans0 hU19
   refine Wl_v (r_addstr (a := [47]) (b := dig x.2.2.2.1) rfl rfl (by simp only [jnw2, List.length_append, List.length_cons, List.length_nil]; omega)) ?_
   refine Wl_v (r_addstr (a := jnw [([114, 117, 110]), (dig x.2.2.1)]) (b := [47] ++ (dig x.2.2.2.1)) rfl rfl (by simp only [jnw2, List.length_append, List.length_cons, List.length_nil]; omega)) ?_
   refine Was (.string (strOfNums ((jnw [([114, 117, 110]), (dig x.2.2.1)]) ++ ([47] ++ (dig x.2.2.2.1))))) ?_
   refine Wl_nil (W_seq (W_region ?_))
   refine Wmv (.string (strOfNums ((jnw [([114, 117, 110]), (dig x.2.2.1)]) ++ ([47] ++ (dig x.2.2.2.1))))) ?_
   refine Was (.string (strOfNums ((jnw [([114, 117, 110]), (dig x.2.2.1)]) ++ ([47] ++ (dig x.2.2.2.1))))) ?_
   refine Wl_nil ?_
   refine W_ret ?_
   refine ret_end (v := .string (strOfNums ((jnw [([114, 117, 110]), (dig x.2.2.1)]) ++ ([47] ++ (dig x.2.2.2.1))))) rfl (res1 results33 rfl) ?_
   exact ⟨_, rfl, (by rw [btx_other (by omega) (by omega) q6, show x.2.1 = 1 from by omega, jnw2]; rfl), HU⟩
  rw [decide_eq_false q6]
  refine W_cond_f rfl ?_
  refine W_skip (W_seq (W_region ?_))
  refine Wmv (.string (strOfNums (jnw [([114, 117, 110]), (dig x.2.2.1)]))) ?_
  refine Was (.string (strOfNums (jnw [([114, 117, 110]), (dig x.2.2.1)]))) ?_
  refine Wl_nil ?_
  refine W_ret ?_
  refine ret_end (v := .string (strOfNums (jnw [([114, 117, 110]), (dig x.2.2.1)]))) rfl (res1 results33 rfl) ?_
  exact ⟨_, rfl, (by rw [btx_same (by omega) (by omega) (Classical.not_not.1 q6), show x.2.1 = 1 from by omega, jnw2]; rfl), HU⟩
 refine Tk 1 (tf 2 10) rfl (YI_v (v := .int .i64 x.2.1) rfl (fun w' hw' => r_load isAgg49 rfl (by rw [(hb1.upd0 hw').cell]; rfl))) ?_
 rw [show (x.2.1 : Int) = 2 from by omega]
 refine Tk 2 (tf 3 10) rfl (YI_v (v := .pointer (some ⟨B2, 2, none⟩)) rfl (fun w' hw' => r_idxa (len := 3) (i' := 2) (o' := 2) underlying109 sizeOf9 rfl rfl (by omega) (by omega) (by omega))) ?_
 refine Tk 3 (tf 4 10) rfl (YI_v (v := .string (strOfNums [99, 111, 100, 101, 100])) rfl (fun w' hw' => r_load isAgg9 rfl (by rw [(hb2.upd0 hw').cell]; rfl))) ?_
 refine Tk 4 (tf 5 10) rfl (YI_v (v := .pointer (some ⟨B1, 2, none⟩)) rfl (fun w' hw' => r_fld underlying51 rfl sizeOf3 rfl rfl)) ?_
 refine Tk 5 (tf 6 10) rfl (YI_v (v := .int .i64 x.2.2.1) rfl (fun w' hw' => r_load isAgg3 rfl (by rw [(hb1.upd0 hw').cell]; rfl))) ?_
 refine Tk 6 (tf 7 10) rfl (YI_c (v := .string (strOfNums (dig x.2.2.1))) rfl (fun w' => r_call1 rfl call31 rfl) (fun w' hw' => itoa_spec w' (ht.upd0 hw') (show rg x.2.2.1 from hok.2.1))) ?_
 intro w20 hU20
 have hzw20 := hU20.size
 replace ht := ht.upd0 hU20
 replace HU := HU.trans0 hU20
 replace hb1 := hb1.upd0 hU20
 refine Wa_one (i := 7) (listed' := tf 8 10) (by kernel_rfl) rfl (by kernel_rfl) ?_
 refine Ws_of_Wl ?_
 have hW : Upd No w3 w20 := hU20
 refine Wl_lit (pv := [(0, .string (strOfNums [99, 111, 100, 101, 100])), (1, .string (strOfNums (dig x.2.2.1)))]) (cs := [.string (strOfNums [99, 111, 100, 101, 100]), .string (strOfNums (dig x.2.2.1))]) underlying86 sizeOf9 zeroValue9 (by decide) (by decide) (by simp only [List.map_toArray, List.map_cons, List.map_nil] <;> rfl) (by kernel_rfl) rfl (by decide) ?_
 intro B21 w21 hB21 hU21 hzz21 hs21
 have hzw21 := hU21.size
 replace ht := ht.upd0 hU21
 replace HU := HU.trans0 hU21
 replace hb1 := hb1.upd0 hU21
 try replace hW := hW.trans0 hU21
 replace hs21 : Own w21 (Is B21) 9 1 (.slice (some ⟨B21, 0, none⟩) 2 2) 2 (rows encS [([99, 111, 100, 101, 100]), (dig x.2.2.1)]) := hs21
 refine Wl_nil ?_
 intro w22 hS22
 refine ⟨fun h => absurd h (by rw [show barOp _ 7 = true from by kernel_rfl]; simp), fun _ => ⟨Upd No w22, ?_⟩⟩
 have hU22 := hS22.upd
 have hzw22 := hU22.size
 replace ht := ht.upd0 hU22
 replace HU := HU.trans0 hU22
 replace hb1 := hb1.upd0 hU22
 replace hs21 := hs21.upd0 hU22
 try replace hW := hW.trans0 hU22
 refine Wt_base (Upd.refl _ _) ?_
 refine Tk 8 (tf 9 10) rfl (YI_c (v := .string (strOfNums (jnw [([99, 111, 100, 101, 100]), (dig x.2.2.1)]))) rfl (fun w' => r_call1 rfl call30 rfl) (fun w' hw' => joined_spec w' ((hs21.upd0 hw').sl) (two_ok (lit_ok (l := [99, 111, 100, 101, 100]) (by decide)) (dig_ok hok.2.1)).1 (two_ok (lit_ok (l := [99, 111, 100, 101, 100]) (by decide)) (dig_ok hok.2.1)).2 (by omega))) ?_
 refine Tk 9 (tf 10 10) rfl (YI_v (v := .string (strOfNums (jnw [([99, 111, 100, 101, 100]), (dig x.2.2.1)]))) rfl (fun w' hw' => r_as (v := .string (strOfNums (jnw [([99, 111, 100, 101, 100]), (dig x.2.2.1)]))) rfl)) ?_
 intro w23 hU23
 have hzw23 := hU23.size
 replace ht := ht.upd0 hU23
 replace HU := HU.trans0 hU23
 replace hb1 := hb1.upd0 hU23
 try replace hW := hW.trans0 hU23
 refine Wa_done (by kernel_rfl) ?_
 refine W_seq (W_seq (W_region ?_))
 refine Wl_v (r_fld underlying51 rfl sizeOf3 rfl rfl) ?_
 refine Wl_load (v := .int .i64 x.2.2.2.1) isAgg3 rfl hb1 rfl ?_
 refine Wl_v (r_fld underlying51 rfl sizeOf3 rfl rfl) ?_
 refine Wl_load (v := .int .i64 x.2.2.1) isAgg3 rfl hb1 rfl ?_
 refine Wl_v (r_ne rfl rfl) ?_
 refine Wl_nil ?_
 by_cases q7 : x.2.2.2.1 ≠ x.2.2.1
 ·rw [decide_eq_true q7]
  refine W_cond_t rfl ?_
  refine W_region ?_
  refine Wmv (.string (strOfNums (jnw [([99, 111, 100, 101, 100]), (dig x.2.2.1)]))) ?_
  refine Wl_v (r_fld underlying51 rfl sizeOf3 rfl rfl) ?_
  refine Wl_load (v := .int .i64 x.2.2.2.1) isAgg3 rfl hb1 rfl ?_
  refine Wl_call (r_call1 rfl call31 rfl) (itoa_spec _ ht (show rg x.2.2.2.1 from hok.2.2)) ?_
  rintro v w24 ⟨rfl, hU24⟩
  have hzw24 := hU24.size
  replace HU := HU.trans0 hU24
  try replace hW := hW.trans0 hU24
  refine Wl_v (r_addstr (a := [47]) (b := dig x.2.2.2.1) rfl rfl (by simp only [jnw2, List.length_append, List.length_cons, List.length_nil]; omega)) ?_
  refine Wl_v (r_addstr (a := jnw [([99, 111, 100, 101, 100]), (dig x.2.2.1)]) (b := [47] ++ (dig x.2.2.2.1)) rfl rfl (by simp only [jnw2, List.length_append, List.length_cons, List.length_nil]; omega)) ?_
  refine Was (.string (strOfNums ((jnw [([99, 111, 100, 101, 100]), (dig x.2.2.1)]) ++ ([47] ++ (dig x.2.2.2.1))))) ?_
  refine Wl_nil (W_seq (W_region ?_))
  refine Wmv (.string (strOfNums ((jnw [([99, 111, 100, 101, 100]), (dig x.2.2.1)]) ++ ([47] ++ (dig x.2.2.2.1))))) ?_
  refine Was (.string (strOfNums ((jnw [([99, 111, 100, 101, 100]), (dig x.2.2.1)]) ++ ([47] ++ (dig x.2.2.2.1))))) ?_
  refine Wl_nil ?_
  refine W_ret ?_
  refine ret_end (v := .string (strOfNums ((jnw [([99, 111, 100, 101, 100]), (dig x.2.2.1)]) ++ ([47] ++ (dig x.2.2.2.1))))) rfl (res1 results33 rfl) ?_
  exact ⟨_, rfl, (by rw [btx_other (by omega) (by omega) q7, show x.2.1 = 2 from by omega, jnw2]; rfl), HU⟩
 rw [decide_eq_false q7]
 refine W_cond_f rfl ?_
 refine W_skip (W_seq (W_region ?_))
 refine Wmv (.string (strOfNums (jnw [([99, 111, 100, 101, 100]), (dig x.2.2.1)]))) ?_
 refine Was (.string (strOfNums (jnw [([99, 111, 100, 101, 100]), (dig x.2.2.1)]))) ?_
 refine Wl_nil ?_
 refine W_ret ?_
 refine ret_end (v := .string (strOfNums (jnw [([99, 111, 100, 101, 100]), (dig x.2.2.1)]))) rfl (res1 results33 rfl) ?_
 exact ⟨_, rfl, (by rw [btx_same (by omega) (by omega) (Classical.not_not.1 q7), show x.2.1 = 2 from by omega, jnw2]; rfl), HU⟩
theorem it1 {p : PT} {ba : Option Addr} {bm bc : Nat} (w : World)  :
  Calls Tryd.prog 46 #[.agg #[.int .i64 p.at_, .int .i64 p.sz, .bool (decide (p.sk = true)), .int .i64 p.pl, .int .i64 p.hd.1, .int .i64 p.hd.2.1, .int .u32 p.hd.2.2.1, .bool (decide (p.hd.2.2.2 = true)), .slice ba bm bc, .int .u32 p.ck]] w (Ret fun v w' => v = .bool (decide (0 ≤ p.hd.2.1)) ∧ Upd No w w') := by
 have HU := Upd.rno w
 refine calls_of_W func46 rfl ntmps46 (by simp) ?_
 refine W_seq (W_region ?_)
 refine Wl_box (v := .agg #[.int .i64 p.at_, .int .i64 p.sz, .bool (decide (p.sk = true)), .int .i64 p.pl, .int .i64 p.hd.1, .int .i64 p.hd.2.1, .int .u32 p.hd.2.2.1, .bool (decide (p.hd.2.2.2 = true)), .slice ba bm bc, .int .u32 p.ck]) (cs := [.int .i64 p.at_, .int .i64 p.sz, .bool (decide (p.sk = true)), .int .i64 p.pl, .int .i64 p.hd.1, .int .i64 p.hd.2.1, .int .u32 p.hd.2.2.1, .bool (decide (p.hd.2.2.2 = true)), .slice ba bm bc, .int .u32 p.ck]) rfl rfl ?_
 intro B1 w1 hB1 hU1 hzz1 hb1
 have hzw1 := hU1.size
 replace HU := HU.trans0 hU1
 refine Was (.bool false) ?_
 refine Wl_nil (W_seq (W_region ?_))
 refine Wl_v (r_fld underlying45 rfl sizeOf41 rfl rfl) ?_
 refine Wl_v (r_fld underlying41 rfl sizeOf3 rfl rfl) ?_
 refine Wl_load (v := .int .i64 p.hd.2.1) isAgg3 rfl hb1 rfl ?_
 refine Wl_v (r_ge rfl rfl) ?_
 refine Was (.bool (decide (0 ≤ p.hd.2.1))) ?_
 refine Wl_nil ?_
 refine W_ret ?_
 refine ret_end (v := .bool (decide (0 ≤ p.hd.2.1))) rfl (res1 results46 rfl) ?_
 exact ⟨_, rfl, rfl, HU⟩
theorem it2 {p : PT} {ba : Option Addr} {bm bc : Nat} {g0 : Nat} (w : World) (ht : Tab w g0) (hr : rg p.hd.2.1) :
  Calls Tryd.prog 47 #[.agg #[.int .i64 p.at_, .int .i64 p.sz, .bool (decide (p.sk = true)), .int .i64 p.pl, .int .i64 p.hd.1, .int .i64 p.hd.2.1, .int .u32 p.hd.2.2.1, .bool (decide (p.hd.2.2.2 = true)), .slice ba bm bc, .int .u32 p.ck]] w (Ret fun v w' => v = .string (strOfNums (dig p.hd.2.1)) ∧ Upd No w w') := by
 have HU := Upd.rno w
 have htl := ht.1
 refine calls_of_W func47 rfl ntmps47 (by simp) ?_
 refine W_seq (W_region ?_)
 refine Wl_box (v := .agg #[.int .i64 p.at_, .int .i64 p.sz, .bool (decide (p.sk = true)), .int .i64 p.pl, .int .i64 p.hd.1, .int .i64 p.hd.2.1, .int .u32 p.hd.2.2.1, .bool (decide (p.hd.2.2.2 = true)), .slice ba bm bc, .int .u32 p.ck]) (cs := [.int .i64 p.at_, .int .i64 p.sz, .bool (decide (p.sk = true)), .int .i64 p.pl, .int .i64 p.hd.1, .int .i64 p.hd.2.1, .int .u32 p.hd.2.2.1, .bool (decide (p.hd.2.2.2 = true)), .slice ba bm bc, .int .u32 p.ck]) rfl rfl ?_
 intro B1 w1 hB1 hU1 hzz1 hb1
 have hzw1 := hU1.size
 replace ht := ht.upd0 hU1
 replace HU := HU.trans0 hU1
 refine Was (.string (strOfNums [])) ?_
 refine Wl_nil (W_seq (W_region ?_))
 refine Wl_v (r_fld underlying45 rfl sizeOf41 rfl rfl) ?_
 refine Wl_v (r_fld underlying41 rfl sizeOf3 rfl rfl) ?_
 refine Wl_load (v := .int .i64 p.hd.2.1) isAgg3 rfl hb1 rfl ?_
 refine Wl_call (r_call1 rfl call31 rfl) (itoa_spec _ ht hr) ?_
 rintro v w2 ⟨rfl, hU2⟩
 have hzw2 := hU2.size
 replace HU := HU.trans0 hU2
 refine Was (.string (strOfNums (dig p.hd.2.1))) ?_
 refine Wl_nil ?_
 refine W_ret ?_
 refine ret_end (v := .string (strOfNums (dig p.hd.2.1))) rfl (res1 results47 rfl) ?_
 exact ⟨_, rfl, rfl, HU⟩
theorem it3 {p : PT} {ba : Option Addr} {bm bc : Nat} (w : World)  :
  Calls Tryd.prog 48 #[.agg #[.int .i64 p.at_, .int .i64 p.sz, .bool (decide (p.sk = true)), .int .i64 p.pl, .int .i64 p.hd.1, .int .i64 p.hd.2.1, .int .u32 p.hd.2.2.1, .bool (decide (p.hd.2.2.2 = true)), .slice ba bm bc, .int .u32 p.ck]] w (Ret fun v w' => v = .bool (!decide (p.hd.2.2.1 = 0)) ∧ Upd No w w') := by
 have HU := Upd.rno w
 refine calls_of_W func48 rfl ntmps48 (by simp) ?_
 refine W_seq (W_region ?_)
 refine Wl_box (v := .agg #[.int .i64 p.at_, .int .i64 p.sz, .bool (decide (p.sk = true)), .int .i64 p.pl, .int .i64 p.hd.1, .int .i64 p.hd.2.1, .int .u32 p.hd.2.2.1, .bool (decide (p.hd.2.2.2 = true)), .slice ba bm bc, .int .u32 p.ck]) (cs := [.int .i64 p.at_, .int .i64 p.sz, .bool (decide (p.sk = true)), .int .i64 p.pl, .int .i64 p.hd.1, .int .i64 p.hd.2.1, .int .u32 p.hd.2.2.1, .bool (decide (p.hd.2.2.2 = true)), .slice ba bm bc, .int .u32 p.ck]) rfl rfl ?_
 intro B1 w1 hB1 hU1 hzz1 hb1
 have hzw1 := hU1.size
 replace HU := HU.trans0 hU1
 refine Was (.bool false) ?_
 refine Wl_nil (W_seq (W_region ?_))
 refine Wl_v (r_fld underlying45 rfl sizeOf41 rfl rfl) ?_
 refine Wl_v (r_fld underlying41 rfl sizeOf39 rfl rfl) ?_
 refine Wl_load (v := .int .u32 p.hd.2.2.1) isAgg39 rfl hb1 rfl ?_
 refine Wl_v (r_ne rfl rfl) ?_
 refine Was (.bool (decide (p.hd.2.2.1 ≠ 0))) ?_
 refine Wl_nil ?_
 refine W_ret ?_
 refine ret_end (v := .bool (decide (p.hd.2.2.1 ≠ 0))) rfl (res1 results48 rfl) ?_
 exact ⟨_, rfl, (by simp), HU⟩
theorem it4 {p : PT} {ba : Option Addr} {bm bc : Nat} {g0 : Nat} (w : World) (ht : Tab w g0) (hr : 0 ≤ p.hd.2.2.1 ∧ p.hd.2.2.1 < 4294967296) :
  Calls Tryd.prog 49 #[.agg #[.int .i64 p.at_, .int .i64 p.sz, .bool (decide (p.sk = true)), .int .i64 p.pl, .int .i64 p.hd.1, .int .i64 p.hd.2.1, .int .u32 p.hd.2.2.1, .bool (decide (p.hd.2.2.2 = true)), .slice ba bm bc, .int .u32 p.ck]] w (Ret fun v w' => v = .string (strOfNums (digN p.hd.2.2.1.toNat)) ∧ Upd No w w') := by
 have HU := Upd.rno w
 have htl := ht.1
 refine calls_of_W func49 rfl ntmps49 (by simp) ?_
 refine W_seq (W_region ?_)
 refine Wl_box (v := .agg #[.int .i64 p.at_, .int .i64 p.sz, .bool (decide (p.sk = true)), .int .i64 p.pl, .int .i64 p.hd.1, .int .i64 p.hd.2.1, .int .u32 p.hd.2.2.1, .bool (decide (p.hd.2.2.2 = true)), .slice ba bm bc, .int .u32 p.ck]) (cs := [.int .i64 p.at_, .int .i64 p.sz, .bool (decide (p.sk = true)), .int .i64 p.pl, .int .i64 p.hd.1, .int .i64 p.hd.2.1, .int .u32 p.hd.2.2.1, .bool (decide (p.hd.2.2.2 = true)), .slice ba bm bc, .int .u32 p.ck]) rfl rfl ?_
 intro B1 w1 hB1 hU1 hzz1 hb1
 have hzw1 := hU1.size
 replace ht := ht.upd0 hU1
 replace HU := HU.trans0 hU1
 refine Was (.string (strOfNums [])) ?_
 refine Wl_nil (W_seq (W_region ?_))
 refine Wl_v (r_fld underlying45 rfl sizeOf41 rfl rfl) ?_
 refine Wl_v (r_fld underlying41 rfl sizeOf39 rfl rfl) ?_
 refine Wl_load (v := .int .u32 p.hd.2.2.1) isAgg39 rfl hb1 rfl ?_
 refine Wl_v (r_cvt underlying39 underlying93 rfl (wu64 (by omega) (by omega))) ?_
 refine Wl_call (r_call2 rfl call50 (v0 := .int .u64 ((p.hd.2.2.1.toNat : Nat) : Int)) (Eq.trans (b := .int .u64 p.hd.2.2.1) rfl (vint (by omega))) rfl) (format_spec _ ht (by omega)) ?_
 rintro v w2 ⟨rfl, hU2⟩
 have hzw2 := hU2.size
 replace HU := HU.trans0 hU2
 refine Was (.string (strOfNums (digN p.hd.2.2.1.toNat))) ?_
 refine Wl_nil ?_
 refine W_ret ?_
 refine ret_end (v := .string (strOfNums (digN p.hd.2.2.1.toNat))) rfl (res1 results49 rfl) ?_
 exact ⟨_, rfl, rfl, HU⟩
theorem it5 {p : PT} {ba : Option Addr} {bm bc : Nat} (w : World)  :
  Calls Tryd.prog 51 #[.agg #[.int .i64 p.at_, .int .i64 p.sz, .bool (decide (p.sk = true)), .int .i64 p.pl, .int .i64 p.hd.1, .int .i64 p.hd.2.1, .int .u32 p.hd.2.2.1, .bool (decide (p.hd.2.2.2 = true)), .slice ba bm bc, .int .u32 p.ck]] w (Ret fun v w' => v = .bool (decide (p.hd.2.2.2 = true)) ∧ Upd No w w') := by
 have HU := Upd.rno w
 refine calls_of_W func51 rfl ntmps51 (by simp) ?_
 refine W_seq (W_region ?_)
 refine Wl_box (v := .agg #[.int .i64 p.at_, .int .i64 p.sz, .bool (decide (p.sk = true)), .int .i64 p.pl, .int .i64 p.hd.1, .int .i64 p.hd.2.1, .int .u32 p.hd.2.2.1, .bool (decide (p.hd.2.2.2 = true)), .slice ba bm bc, .int .u32 p.ck]) (cs := [.int .i64 p.at_, .int .i64 p.sz, .bool (decide (p.sk = true)), .int .i64 p.pl, .int .i64 p.hd.1, .int .i64 p.hd.2.1, .int .u32 p.hd.2.2.1, .bool (decide (p.hd.2.2.2 = true)), .slice ba bm bc, .int .u32 p.ck]) rfl rfl ?_
 intro B1 w1 hB1 hU1 hzz1 hb1
 have hzw1 := hU1.size
 replace HU := HU.trans0 hU1
 refine Was (.bool false) ?_
 refine Wl_nil (W_seq (W_region ?_))
 refine Wl_v (r_fld underlying45 rfl sizeOf41 rfl rfl) ?_
 refine Wl_v (r_fld underlying41 rfl sizeOf4 rfl rfl) ?_
 refine Wl_load (v := .bool (decide (p.hd.2.2.2 = true))) isAgg4 rfl hb1 rfl ?_
 refine Was (.bool (decide (p.hd.2.2.2 = true))) ?_
 refine Wl_nil ?_
 refine W_ret ?_
 refine ret_end (v := .bool (decide (p.hd.2.2.2 = true))) rfl (res1 results51 rfl) ?_
 exact ⟨_, rfl, rfl, HU⟩
theorem it6 {p : PT} {ba : Option Addr} {bm bc : Nat} {g0 : Nat} (w : World) (ht : Tab w g0) (hr : 0 ≤ p.ck ∧ p.ck < 4294967296) :
  Calls Tryd.prog 52 #[.agg #[.int .i64 p.at_, .int .i64 p.sz, .bool (decide (p.sk = true)), .int .i64 p.pl, .int .i64 p.hd.1, .int .i64 p.hd.2.1, .int .u32 p.hd.2.2.1, .bool (decide (p.hd.2.2.2 = true)), .slice ba bm bc, .int .u32 p.ck]] w (Ret fun v w' => v = .string (strOfNums (digN p.ck.toNat)) ∧ Upd No w w') := by
 have HU := Upd.rno w
 have htl := ht.1
 refine calls_of_W func52 rfl ntmps52 (by simp) ?_
 refine W_seq (W_region ?_)
 refine Wl_box (v := .agg #[.int .i64 p.at_, .int .i64 p.sz, .bool (decide (p.sk = true)), .int .i64 p.pl, .int .i64 p.hd.1, .int .i64 p.hd.2.1, .int .u32 p.hd.2.2.1, .bool (decide (p.hd.2.2.2 = true)), .slice ba bm bc, .int .u32 p.ck]) (cs := [.int .i64 p.at_, .int .i64 p.sz, .bool (decide (p.sk = true)), .int .i64 p.pl, .int .i64 p.hd.1, .int .i64 p.hd.2.1, .int .u32 p.hd.2.2.1, .bool (decide (p.hd.2.2.2 = true)), .slice ba bm bc, .int .u32 p.ck]) rfl rfl ?_
 intro B1 w1 hB1 hU1 hzz1 hb1
 have hzw1 := hU1.size
 replace ht := ht.upd0 hU1
 replace HU := HU.trans0 hU1
 refine Was (.string (strOfNums [])) ?_
 refine Wl_nil (W_seq (W_region ?_))
 refine Wl_v (r_fld underlying45 rfl sizeOf39 rfl rfl) ?_
 refine Wl_load (v := .int .u32 p.ck) isAgg39 rfl hb1 rfl ?_
 refine Wl_v (r_cvt underlying39 underlying93 rfl (wu64 (by omega) (by omega))) ?_
 refine Wl_call (r_call2 rfl call50 (v0 := .int .u64 ((p.ck.toNat : Nat) : Int)) (Eq.trans (b := .int .u64 p.ck) rfl (vint (by omega))) rfl) (format_spec _ ht (by omega)) ?_
 rintro v w2 ⟨rfl, hU2⟩
 have hzw2 := hU2.size
 replace HU := HU.trans0 hU2
 refine Was (.string (strOfNums (digN p.ck.toNat))) ?_
 refine Wl_nil ?_
 refine W_ret ?_
 refine ret_end (v := .string (strOfNums (digN p.ck.toNat))) rfl (res1 results52 rfl) ?_
 exact ⟨_, rfl, rfl, HU⟩
theorem items_spec  (w : World)  :
  Calls Tryd.prog 32 #[] w (Ret fun v w' => ∃ (a' : Option Addr) (c' : Nat), v = .slice a' 3 c' ∧ Own w' (fun g => w.heap.size ≤ g) 91 3 (.slice a' 3 c') 3 (rows encI [([99, 111, 110, 116, 101, 110, 116], .func 46, .func 47), ([100, 105, 99, 116, 105, 111, 110, 97, 114, 121], .func 48, .func 49), ([99, 104, 101, 99, 107], .func 51, .func 52)]) ∧ Upd No w w') := by
 have HU := Upd.rno w
 refine calls_of_W func32 rfl ntmps32 (by simp) ?_
 refine W_seq (W_region ?_)
 refine Was (.slice none 0 0) ?_
 refine Wl_nil (W_seq (W_region ?_))
 refine Wl_v (r_build (pl := #[(0, 1), (1, 1), (2, 1)]) (pv := [(0, .string (strOfNums [99, 111, 110, 116, 101, 110, 116])), (1, .func (.func 46) #[] #[]), (2, .func (.func 47) #[] #[])]) (cs := #[.string (strOfNums [99, 111, 110, 116, 101, 110, 116]), .func (.func 46) #[] #[], .func (.func 47) #[] #[]]) zeroValue91 underlying91 (fun w => by kernel_rfl) (by simp only [List.map_toArray, List.map_cons, List.map_nil] <;> rfl) (by kernel_rfl)) ?_
 refine Wl_v (r_build (pl := #[(0, 1), (1, 1), (2, 1)]) (pv := [(0, .string (strOfNums [100, 105, 99, 116, 105, 111, 110, 97, 114, 121])), (1, .func (.func 48) #[] #[]), (2, .func (.func 49) #[] #[])]) (cs := #[.string (strOfNums [100, 105, 99, 116, 105, 111, 110, 97, 114, 121]), .func (.func 48) #[] #[], .func (.func 49) #[] #[]]) zeroValue91 underlying91 (fun w => by kernel_rfl) (by simp only [List.map_toArray, List.map_cons, List.map_nil] <;> rfl) (by kernel_rfl)) ?_
 refine Wl_v (r_build (pl := #[(0, 1), (1, 1), (2, 1)]) (pv := [(0, .string (strOfNums [99, 104, 101, 99, 107])), (1, .func (.func 51) #[] #[]), (2, .func (.func 52) #[] #[])]) (cs := #[.string (strOfNums [99, 104, 101, 99, 107]), .func (.func 51) #[] #[], .func (.func 52) #[] #[]]) zeroValue91 underlying91 (fun w => by kernel_rfl) (by simp only [List.map_toArray, List.map_cons, List.map_nil] <;> rfl) (by kernel_rfl)) ?_
 refine Wl_lit (pv := [(0, .agg #[.string (strOfNums [99, 111, 110, 116, 101, 110, 116]), .func (.func 46) #[] #[], .func (.func 47) #[] #[]]), (1, .agg #[.string (strOfNums [100, 105, 99, 116, 105, 111, 110, 97, 114, 121]), .func (.func 48) #[] #[], .func (.func 49) #[] #[]]), (2, .agg #[.string (strOfNums [99, 104, 101, 99, 107]), .func (.func 51) #[] #[], .func (.func 52) #[] #[]])]) (cs := [.string (strOfNums [99, 111, 110, 116, 101, 110, 116]), .func (.func 46) #[] #[], .func (.func 47) #[] #[], .string (strOfNums [100, 105, 99, 116, 105, 111, 110, 97, 114, 121]), .func (.func 48) #[] #[], .func (.func 49) #[] #[], .string (strOfNums [99, 104, 101, 99, 107]), .func (.func 51) #[] #[], .func (.func 52) #[] #[]]) underlying87 sizeOf91 zeroValue91 (by decide) (by decide) (by simp only [List.map_toArray, List.map_cons, List.map_nil] <;> rfl) (by kernel_rfl) rfl (by decide) ?_
 intro B1 w1 hB1 hU1 hzz1 hs1
 have hzw1 := hU1.size
 replace HU := HU.trans0 hU1
 replace hs1 : Own w1 (Is B1) 91 3 (.slice (some ⟨B1, 0, none⟩) 3 3) 3 (rows encI [([99, 111, 110, 116, 101, 110, 116], .func 46, .func 47), ([100, 105, 99, 116, 105, 111, 110, 97, 114, 121], .func 48, .func 49), ([99, 104, 101, 99, 107], .func 51, .func 52)]) := hs1
 refine Was (.slice (some ⟨B1, 0, none⟩) 3 3) ?_
 refine Wl_nil ?_
 refine W_ret ?_
 refine ret_end (v := .slice (some ⟨B1, 0, none⟩) 3 3) rfl (res1 results32 rfl) ?_
 exact ⟨_, rfl, (some ⟨B1, 0, none⟩), 3, rfl, (hs1.weak (by intro g hg; have h3 : g = B1 := hg; show w.heap.size ≤ g; omega)), HU⟩
set_option maxHeartbeats 4000000 in
theorem line_spec {p : PT} {ba : Option Addr} {bm bc : Nat} {g0 : Nat} (w : World) (ht : Tab w g0) (hok : okP p) (hB : Sl w (fun g => g < w.heap.size) 5 (.slice ba bm bc) bm (rows encK p.bl)) :
  Calls Tryd.prog 17 #[.agg #[.int .i64 p.at_, .int .i64 p.sz, .bool (decide (p.sk = true)), .int .i64 p.pl, .int .i64 p.hd.1, .int .i64 p.hd.2.1, .int .u32 p.hd.2.2.1, .bool (decide (p.hd.2.2.2 = true)), .slice ba bm bc, .int .u32 p.ck]] w (Ret fun v w' => v = .string (strOfNums (lin p)) ∧ Upd No w w') := by
 have HU := Upd.rno w
 have hl_hB := rlen encK_len (by decide) hB
 have hc_hB := hB.cap.1
 have htl := ht.1
 refine calls_of_W func17 rfl ntmps17 (by simp) ?_
 refine W_seq (W_region ?_)
 refine Wl_box (v := .agg #[.int .i64 p.at_, .int .i64 p.sz, .bool (decide (p.sk = true)), .int .i64 p.pl, .int .i64 p.hd.1, .int .i64 p.hd.2.1, .int .u32 p.hd.2.2.1, .bool (decide (p.hd.2.2.2 = true)), .slice ba bm bc, .int .u32 p.ck]) (cs := [.int .i64 p.at_, .int .i64 p.sz, .bool (decide (p.sk = true)), .int .i64 p.pl, .int .i64 p.hd.1, .int .i64 p.hd.2.1, .int .u32 p.hd.2.2.1, .bool (decide (p.hd.2.2.2 = true)), .slice ba bm bc, .int .u32 p.ck]) rfl rfl ?_
 intro B1 w1 hB1 hU1 hzz1 hb1
 have hzw1 := hU1.size
 replace ht := ht.upd0 hU1
 replace hB := hB.upd0 hU1
 replace HU := HU.trans0 hU1
 refine Was (.string (strOfNums [])) ?_
 refine Wl_nil (W_seq (W_seq (W_region ?_)))
 refine Wl_v (r_fld underlying45 rfl sizeOf4 rfl rfl) ?_
 refine Wl_load (v := .bool (decide (p.sk = true))) isAgg4 rfl hb1 rfl ?_
 refine Wl_nil ?_
 by_cases q1 : p.sk = true
 ·rw [decide_eq_true q1]
  refine W_cond_t rfl ?_
  refine W_seq ?_
  refine W_drawt rfl (l0 := tf 0 12) (by kernel_rfl) ?_
  refine Tk 0 (tf 1 12) rfl (YI_v (v := .pointer (some ⟨B1, 0, none⟩)) rfl (fun w' hw' => r_fld underlying45 rfl sizeOf3 rfl rfl)) ?_
  refine Tk 1 (tf 2 12) rfl (YI_v (v := .int .i64 p.at_) rfl (fun w' hw' => r_load isAgg3 rfl (by rw [(hb1.upd0 hw').cell]; rfl))) ?_
  refine Tk 2 (tf 3 12) rfl (YI_c (v := .string (strOfNums (dig p.at_))) rfl (fun w' => r_call1 rfl call31 rfl) (fun w' hw' => itoa_spec w' (ht.upd0 hw') hok.at_)) ?_
  refine Tk 3 (tf 4 12) rfl (YI_v (v := .pointer (some ⟨B1, 1, none⟩)) rfl (fun w' hw' => r_fld underlying45 rfl sizeOf3 rfl rfl)) ?_
  refine Tk 4 (tf 5 12) rfl (YI_v (v := .int .i64 p.sz) rfl (fun w' hw' => r_load isAgg3 rfl (by rw [(hb1.upd0 hw').cell]; rfl))) ?_
  refine Tk 5 (tf 6 12) rfl (YI_c (v := .string (strOfNums (dig p.sz))) rfl (fun w' => r_call1 rfl call31 rfl) (fun w' hw' => itoa_spec w' (ht.upd0 hw') hok.sz)) ?_
  refine Tk 6 (tf 7 12) rfl (YI_v (v := .pointer (some ⟨B1, 3, none⟩)) rfl (fun w' hw' => r_fld underlying45 rfl sizeOf3 rfl rfl)) ?_
  refine Tk 7 (tf 8 12) rfl (YI_v (v := .int .i64 p.pl) rfl (fun w' hw' => r_load isAgg3 rfl (by rw [(hb1.upd0 hw').cell]; rfl))) ?_
  refine Tk 8 (tf 9 12) rfl (YI_c (v := .string (strOfNums (dig p.pl))) rfl (fun w' => r_call1 rfl call31 rfl) (fun w' hw' => itoa_spec w' (ht.upd0 hw') hok.pl)) ?_
  intro w2 hU2
  have hzw2 := hU2.size
  replace HU := HU.trans0 hU2
  refine Wa_one (i := 9) (listed' := tf 10 12) (by kernel_rfl) rfl (by kernel_rfl) ?_
  refine Ws_of_Wl ?_
  have hW : Upd No w1 w2 := hU2
  refine Wl_lit (pv := [(0, .string (strOfNums [115, 107, 105, 112])), (1, .string (strOfNums (dig p.at_))), (2, .string (strOfNums (dig p.sz))), (3, .string (strOfNums (dig p.pl)))]) (cs := [.string (strOfNums [115, 107, 105, 112]), .string (strOfNums (dig p.at_)), .string (strOfNums (dig p.sz)), .string (strOfNums (dig p.pl))]) underlying86 sizeOf9 zeroValue9 (by decide) (by decide) (by simp only [List.map_toArray, List.map_cons, List.map_nil] <;> rfl) (by kernel_rfl) rfl (by decide) ?_
  intro B3 w3 hB3 hU3 hzz3 hs3
  have hzw3 := hU3.size
  replace HU := HU.trans0 hU3
  try replace hW := hW.trans0 hU3
  replace hs3 : Own w3 (Is B3) 9 1 (.slice (some ⟨B3, 0, none⟩) 4 4) 4 (rows encS [([115, 107, 105, 112]), (dig p.at_), (dig p.sz), (dig p.pl)]) := hs3
  refine Wl_nil ?_
  intro w4 hS4
  refine ⟨fun h => absurd h (by rw [show barOp _ 9 = true from by kernel_rfl]; simp), fun _ => ⟨Upd No w4, ?_⟩⟩
  have hU4 := hS4.upd
  have hzw4 := hU4.size
  replace HU := HU.trans0 hU4
  replace hs3 := hs3.upd0 hU4
  try replace hW := hW.trans0 hU4
  refine Wt_base (Upd.refl _ _) ?_
  refine Tk 10 (tf 11 12) rfl (YI_c (v := .string (strOfNums (jnw [([115, 107, 105, 112]), (dig p.at_), (dig p.sz), (dig p.pl)]))) rfl (fun w' => r_call1 rfl call30 rfl) (fun w' hw' => joined_spec w' ((hs3.upd0 hw').sl) (all4 (P := fun x => Byt x) (lit_ok (by decide)).2 (dig_ok hok.at_).2 (dig_ok hok.sz).2 (dig_ok hok.pl).2) (all4 (P := fun x => x.length ≤ 200) (lit_ok (by decide)).1 (dig_ok hok.at_).1 (dig_ok hok.sz).1 (dig_ok hok.pl).1) (by omega))) ?_
  refine Tk 11 (tf 12 12) rfl (YI_v (v := .string (strOfNums (jnw [([115, 107, 105, 112]), (dig p.at_), (dig p.sz), (dig p.pl)]))) rfl (fun w' hw' => r_as (v := .string (strOfNums (jnw [([115, 107, 105, 112]), (dig p.at_), (dig p.sz), (dig p.pl)]))) rfl)) ?_
  intro w5 hU5
  have hzw5 := hU5.size
  replace HU := HU.trans0 hU5
  try replace hW := hW.trans0 hU5
  refine Wa_done (by kernel_rfl) ?_
  refine W_ret ?_
  refine ret_end (v := .string (strOfNums (jnw [([115, 107, 105, 112]), (dig p.at_), (dig p.sz), (dig p.pl)]))) rfl (res1 results17 rfl) ?_
  exact ⟨_, rfl, (by rw [lin_skip q1]), HU⟩
 rw [decide_eq_false q1]
 refine W_cond_f rfl ?_
 refine W_skip (W_seq ?_)
 refine W_drawt rfl (l0 := tf 0 12) (by kernel_rfl) ?_
 refine Tk 0 (tf 1 12) rfl (YI_v (v := .pointer (some ⟨B1, 0, none⟩)) rfl (fun w' hw' => r_fld underlying45 rfl sizeOf3 rfl rfl)) ?_
 refine Tk 1 (tf 2 12) rfl (YI_v (v := .int .i64 p.at_) rfl (fun w' hw' => r_load isAgg3 rfl (by rw [(hb1.upd0 hw').cell]; rfl))) ?_
 refine Tk 2 (tf 3 12) rfl (YI_c (v := .string (strOfNums (dig p.at_))) rfl (fun w' => r_call1 rfl call31 rfl) (fun w' hw' => itoa_spec w' (ht.upd0 hw') hok.at_)) ?_
 refine Tk 3 (tf 4 12) rfl (YI_v (v := .pointer (some ⟨B1, 1, none⟩)) rfl (fun w' hw' => r_fld underlying45 rfl sizeOf3 rfl rfl)) ?_
 refine Tk 4 (tf 5 12) rfl (YI_v (v := .int .i64 p.sz) rfl (fun w' hw' => r_load isAgg3 rfl (by rw [(hb1.upd0 hw').cell]; rfl))) ?_
 refine Tk 5 (tf 6 12) rfl (YI_c (v := .string (strOfNums (dig p.sz))) rfl (fun w' => r_call1 rfl call31 rfl) (fun w' hw' => itoa_spec w' (ht.upd0 hw') hok.sz)) ?_
 refine Tk 6 (tf 7 12) rfl (YI_v (v := .pointer (some ⟨B1, 4, none⟩)) rfl (fun w' hw' => r_fld underlying45 rfl sizeOf41 rfl rfl)) ?_
 refine Tk 7 (tf 8 12) rfl (YI_v (v := .pointer (some ⟨B1, 4, none⟩)) rfl (fun w' hw' => r_fld underlying41 rfl sizeOf3 rfl rfl)) ?_
 refine Tk 8 (tf 9 12) rfl (YI_v (v := .int .i64 p.hd.1) rfl (fun w' hw' => r_load isAgg3 rfl (by rw [(hb1.upd0 hw').cell]; rfl))) ?_
 refine Tk 9 (tf 10 12) rfl (YI_c (v := .string (strOfNums (dig p.hd.1))) rfl (fun w' => r_call1 rfl call31 rfl) (fun w' hw' => itoa_spec w' (ht.upd0 hw') hok.h1)) ?_
 intro w6 hU6
 have hzw6 := hU6.size
 replace ht := ht.upd0 hU6
 replace hB := hB.upd0 hU6
 replace HU := HU.trans0 hU6
 replace hb1 := hb1.upd0 hU6
 refine Wa_one (i := 10) (listed' := tf 11 12) (by kernel_rfl) rfl (by kernel_rfl) ?_
 refine Ws_of_Wl ?_
 have hW : Upd No w1 w6 := hU6
 refine Wl_lit (pv := [(0, .string (strOfNums [102, 114, 97, 109, 101])), (1, .string (strOfNums (dig p.at_))), (2, .string (strOfNums (dig p.sz))), (3, .string (strOfNums [119, 105, 110, 100, 111, 119])), (4, .string (strOfNums (dig p.hd.1)))]) (cs := [.string (strOfNums [102, 114, 97, 109, 101]), .string (strOfNums (dig p.at_)), .string (strOfNums (dig p.sz)), .string (strOfNums [119, 105, 110, 100, 111, 119]), .string (strOfNums (dig p.hd.1))]) underlying86 sizeOf9 zeroValue9 (by decide) (by decide) (by simp only [List.map_toArray, List.map_cons, List.map_nil] <;> rfl) (by kernel_rfl) rfl (by decide) ?_
 intro B7 w7 hB7 hU7 hzz7 hs7
 have hzw7 := hU7.size
 replace ht := ht.upd0 hU7
 replace hB := hB.upd0 hU7
 replace HU := HU.trans0 hU7
 replace hb1 := hb1.upd0 hU7
 try replace hW := hW.trans0 hU7
 replace hs7 : Own w7 (Is B7) 9 1 (.slice (some ⟨B7, 0, none⟩) 5 5) 5 (rows encS [([102, 114, 97, 109, 101]), (dig p.at_), (dig p.sz), ([119, 105, 110, 100, 111, 119]), (dig p.hd.1)]) := hs7
 refine Wl_nil ?_
 intro w8 hS8
 refine ⟨fun h => absurd h (by rw [show barOp _ 10 = true from by kernel_rfl]; simp), fun _ => ⟨Upd No w8, ?_⟩⟩
 have hU8 := hS8.upd
 have hzw8 := hU8.size
 replace ht := ht.upd0 hU8
 replace hB := hB.upd0 hU8
 replace HU := HU.trans0 hU8
 replace hb1 := hb1.upd0 hU8
 replace hs7 := hs7.upd0 hU8
 try replace hW := hW.trans0 hU8
 refine Wt_base (Upd.refl _ _) ?_
 refine Tk 11 (tf 12 12) rfl (YI_v (v := .slice (some ⟨B7, 0, none⟩) 5 5) rfl (fun w' hw' => r_as (v := .slice (some ⟨B7, 0, none⟩) 5 5) rfl)) ?_
 intro w9 hU9
 have hzw9 := hU9.size
 replace ht := ht.upd0 hU9
 replace hB := hB.upd0 hU9
 replace HU := HU.trans0 hU9
 replace hb1 := hb1.upd0 hU9
 replace hs7 := hs7.upd0 hU9
 try replace hW := hW.trans0 hU9
 refine Wa_done (by kernel_rfl) ?_
 refine W_seq (W_seq (W_region ?_))
 refine Wl_call (r_call0 rfl call32 ) (items_spec _ ) ?_
 rintro v w10 ⟨a10, c10, rfl, hI10, hU10⟩
 have hzw10 := hU10.size
 replace ht := ht.upd0 hU10
 replace hB := hB.upd0 hU10
 replace HU := HU.trans0 hU10
 replace hb1 := hb1.upd0 hU10
 replace hs7 := hs7.upd0 hU10
 try replace hW := hW.trans0 hU10
 replace hI10 := hI10.tight
 have hl_hI10 := rlen encI_len (by decide) hI10.sl
 have hc_hI10 := hI10.sl.cap.1
 refine Wl_v (r_len underlying87 rfl) ?_
 refine Wmv (.int .i64 0) ?_
 refine Wl_nil (W_block ?_)
 refine W_unroll 4 ?_
 refine unrK_succ ?_
 refine W_seq (W_region ?_)
 refine Wl_v (v := .bool true) (r_lt (a := 0) (b := 3) rfl rfl) ?_
 refine Wl_nil (W_seq ?_)
 refine W_cond_t rfl ?_
 refine W_skip (W_seq ?_)
 refine W_join (fun ρ ds w' => ∃ (a1 : Option Addr) (n1 : Nat) (c1 : Nat) (go1 : Nat), ds = [] ∧ Liv ρ [(1, .pointer (some ⟨B1, 0, none⟩)), (3, .slice a1 n1 c1), (32, .slice a10 3 c10), (33, .int .i64 3), (34, .int .i64 0)] ∧ (go1 = B7 ∨ w10.heap.size ≤ go1) ∧ Own w' (fun g => g = go1) 9 1 (.slice a1 n1 c1) n1 (rows encS (wv6 p)) ∧ Upd (Is B7) w10 w') ?_ ?_
 ·have HJ11 : Upd (Is B7) w10 w10 := Upd.refl _ _
  refine W_block (W_seq (W_region ?_))
  refine Wl_idxr ([], .func 0, .func 0) encI_len (by decide) underlying87 sizeOf91 rfl rfl hI10.sl (by omega) (by omega) ?_
  intro ib12 io12 hc12
  rw [show (0 : Int).toNat = 0 from rfl] at hc12
  refine Wl_v (r_loada (cs := [.string (strOfNums [99, 111, 110, 116, 101, 110, 116]), .func (.func 46) #[] #[], .func (.func 47) #[] #[]]) isAgg91 sizeOf91 rfl rfl hc12) ?_
  refine Wl_alloc (cs := [.string (strOfNums []), .nilFunc, .nilFunc]) zeroValue91 rfl ?_
  intro B13 w13 hB13 hU13 hzz13 hb13
  have hzw13 := hU13.size
  replace ht := ht.upd0 hU13
  replace hb1 := hb1.upd0 hU13
  replace hs7 := hs7.upd0 hU13
  replace HJ11 := HJ11.trans0 hU13
  try replace hW := hW.trans0 hU13
  refine Wl_storea (off := 0) (vs := [.string (strOfNums [99, 111, 110, 116, 101, 110, 116]), .func (.func 46) #[] #[], .func (.func 47) #[] #[]]) (cs' := [.string (strOfNums [99, 111, 110, 116, 101, 110, 116]), .func (.func 46) #[] #[], .func (.func 47) #[] #[]]) sizeOf91 rfl rfl rfl (by simp only [List.mem_cons, List.not_mem_nil, or_false, forall_eq_or_imp, forall_eq]; exact ⟨rfl, rfl, rfl⟩) hb13 (by simp) rfl ?_
  intro w14 hU14 hzz14 hb13n
  replace hb13 := hb13n; clear hb13n
  have hzw14 := hU14.size
  replace ht := ht.upd1 hU14 (by omega)
  replace hb1 := hb1.upd1 hU14 (by omega)
  replace hs7 := hs7.upd1 hU14 (by intro h1; have h3 : B13 = B7 := h1; omega)
  replace HJ11 := HJ11.trans1 hU14 (by show (B13 = B7) ∨ w10.heap.size ≤ B13; omega)
  refine Wl_nil (W_seq (W_region ?_))
  refine Wl_v (r_fld underlying91 rfl sizeOf89 rfl rfl) ?_
  refine Wl_load (v := .func (.func 46) #[] #[]) isAgg89 rfl hb13 rfl ?_
  refine Wl_v (r_loada (b := B1) (off := 0) (cs := [.int .i64 p.at_, .int .i64 p.sz, .bool (decide (p.sk = true)), .int .i64 p.pl, .int .i64 p.hd.1, .int .i64 p.hd.2.1, .int .u32 p.hd.2.2.1, .bool (decide (p.hd.2.2.2 = true)), .slice ba bm bc, .int .u32 p.ck]) isAgg45 sizeOf45 rfl rfl (fun j hj => by rw [hb1.cell]; match j, hj with | 0, _ => rfl | 1, _ => rfl | 2, _ => rfl | 3, _ => rfl | 4, _ => rfl | 5, _ => rfl | 6, _ => rfl | 7, _ => rfl | 8, _ => rfl | 9, _ => rfl)) ?_
  refine Wl_call (r_clos1 call46 rfl rfl (by first | (simp; done) | (simp; rfl))) (it1 _ ) ?_
  rintro v w15 ⟨rfl, hU15⟩
  have hzw15 := hU15.size
  replace ht := ht.upd0 hU15
  replace hb1 := hb1.upd0 hU15
  replace hs7 := hs7.upd0 hU15
  replace HJ11 := HJ11.trans0 hU15
  replace hb13 := hb13.upd0 hU15
  try replace hW := hW.trans0 hU15
  refine Wl_nil ?_
  by_cases q2 : 0 ≤ p.hd.2.1
  ·rw [decide_eq_true q2]
   refine W_cond_t rfl ?_
   refine W_drawt rfl (l0 := tf 0 10) (by kernel_rfl) ?_
   refine Tk 0 (tf 1 10) rfl (YI_v (v := .slice (some ⟨B7, 0, none⟩) 5 5) rfl (fun w' hw' => r_mv (v := .slice (some ⟨B7, 0, none⟩) 5 5) rfl)) ?_
   refine Tk 1 (tf 2 10) rfl (YI_v (v := .pointer (some ⟨B13, 0, none⟩)) rfl (fun w' hw' => r_fld underlying91 rfl sizeOf9 rfl rfl)) ?_
   refine Tk 2 (tf 3 10) rfl (YI_v (v := .string (strOfNums [99, 111, 110, 116, 101, 110, 116])) rfl (fun w' hw' => r_load isAgg9 rfl (by rw [(hb13.upd0 hw').cell]; rfl))) ?_
   refine Tk 3 (tf 4 10) rfl (YI_v (v := .pointer (some ⟨B13, 2, none⟩)) rfl (fun w' hw' => r_fld underlying91 rfl sizeOf54 rfl rfl)) ?_
   refine Tk 4 (tf 5 10) rfl (YI_v (v := .func (.func 47) #[] #[]) rfl (fun w' hw' => r_load isAgg54 rfl (by rw [(hb13.upd0 hw').cell]; rfl))) ?_
   refine Tk 5 (tf 6 10) rfl (YI_v (v := .agg #[.int .i64 p.at_, .int .i64 p.sz, .bool (decide (p.sk = true)), .int .i64 p.pl, .int .i64 p.hd.1, .int .i64 p.hd.2.1, .int .u32 p.hd.2.2.1, .bool (decide (p.hd.2.2.2 = true)), .slice ba bm bc, .int .u32 p.ck]) rfl (fun w' hw' => r_loada (b := B1) (off := 0) (cs := [.int .i64 p.at_, .int .i64 p.sz, .bool (decide (p.sk = true)), .int .i64 p.pl, .int .i64 p.hd.1, .int .i64 p.hd.2.1, .int .u32 p.hd.2.2.1, .bool (decide (p.hd.2.2.2 = true)), .slice ba bm bc, .int .u32 p.ck]) isAgg45 sizeOf45 rfl rfl (fun j hj => by rw [(hb1.upd0 hw').cell]; match j, hj with | 0, _ => rfl | 1, _ => rfl | 2, _ => rfl | 3, _ => rfl | 4, _ => rfl | 5, _ => rfl | 6, _ => rfl | 7, _ => rfl | 8, _ => rfl | 9, _ => rfl))) ?_
   refine Tk 6 (tf 7 10) rfl (YI_c (v := .string (strOfNums (dig p.hd.2.1))) rfl (fun w' => r_clos1 call47 rfl rfl (by first | (simp; done) | (simp; rfl))) (fun w' hw' => it2 w' (ht.upd0 hw') hok.h2)) ?_
   intro w16 hU16
   have hzw16 := hU16.size
   replace hs7 := hs7.upd0 hU16
   replace HJ11 := HJ11.trans0 hU16
   try replace hW := hW.trans0 hU16
   refine Wa_one (i := 7) (listed' := tf 8 10) (by kernel_rfl) rfl (by kernel_rfl) ?_
   refine Ws_of_Wl ?_
   have hW : Upd No w15 w16 := hU16
   refine Wl_lit (pv := [(0, .string (strOfNums [99, 111, 110, 116, 101, 110, 116])), (1, .string (strOfNums (dig p.hd.2.1)))]) (cs := [.string (strOfNums [99, 111, 110, 116, 101, 110, 116]), .string (strOfNums (dig p.hd.2.1))]) underlying86 sizeOf9 zeroValue9 (by decide) (by decide) (by simp only [List.map_toArray, List.map_cons, List.map_nil] <;> rfl) (by kernel_rfl) rfl (by decide) ?_
   intro B17 w17 hB17 hU17 hzz17 hs17
   have hzw17 := hU17.size
   replace hs7 := hs7.upd0 hU17
   replace HJ11 := HJ11.trans0 hU17
   try replace hW := hW.trans0 hU17
   replace hs17 : Own w17 (Is B17) 9 1 (.slice (some ⟨B17, 0, none⟩) 2 2) 2 (rows encS [([99, 111, 110, 116, 101, 110, 116]), (dig p.hd.2.1)]) := hs17
   refine Wl_nil ?_
   intro w18 hS18
   have hX : Upd No w15 w18 := hW.trans0 hS18.upd
   refine ⟨fun _ => ⟨hX, ?_⟩, fun h => absurd h (by rw [show barOp _ 7 = false from by kernel_rfl]; simp)⟩
   have hU18 := hS18.upd
   have hzw18 := hU18.size
   replace hs7 := hs7.upd0 hU18
   replace HJ11 := HJ11.trans0 hU18
   replace hs17 := hs17.upd0 hU18
   try replace hW := hW.trans0 hU18
   refine Wt_base hX ?_
   intro w19 hU19
   have hzw19 := hU19.size
   replace hs7 := hs7.upd0 hU19
   replace HJ11 := HJ11.trans0 hU19
   replace hs17 := hs17.upd0 hU19
   try replace hW := hW.trans0 hU19
   refine Wa_one (i := 8) (listed' := tf 9 10) (by kernel_rfl) rfl (by kernel_rfl) ?_
   refine Ws_of_Wl ?_
   have hW : Upd No w18 w19 := hU19
   refine Wl_appendc (cs3 := rows encS ([([102, 114, 97, 109, 101]), (dig p.at_), (dig p.sz), ([119, 105, 110, 100, 111, 119]), (dig p.hd.1)] ++ [([99, 111, 110, 116, 101, 110, 116]), (dig p.hd.2.1)])) (tot := 7) (by first | rfl | exact (rows_app _ _).symm | simp) underlying86 (ti := Tryd.t9) (z := .string (strOfNums [])) (sz := 1) (by' := 16) rfl rfl rfl rfl rfl (by decide) rfl hs7 rfl hs17.sl (rows_one encS_one _) (by omega) (by simp only [maxLen]; omega) (by omega) ?_
   intro a20 c20 w20 hU20 hzz20 hO20
   clear hs7
   have hzw20 := hU20.size
   replace HJ11 := HJ11.trans hU20 (by intro x hx; have hx2 : x = B7 := hx; show (x = B7) ∨ w10.heap.size ≤ x; omega)
   replace hO20 := hO20.tight
   have hl_hO20 := rlen encS_len (by decide) hO20.sl
   have hc_hO20 := hO20.sl.cap.1
   obtain ⟨go21, hgo21, hOo21⟩ := hO20.one (by omega)
   replace hgo21 : ((((go21 = B7) ∨ go21 = w19.heap.size)) ∧ go21 < w20.heap.size) := hgo21
   clear hO20
   replace hOo21 := hOo21.tight
   refine Wl_nil ?_
   intro w22 hS22
   refine ⟨fun h => absurd h (by rw [show barOp _ 8 = true from by kernel_rfl]; simp), fun _ => ⟨Upd No w22, ?_⟩⟩
   have hU22 := hS22.upd
   have hzw22 := hU22.size
   replace HJ11 := HJ11.trans0 hU22
   replace hOo21 := hOo21.upd0 hU22
   try replace hW := hW.trans0 hU22
   refine Wt_base (Upd.refl _ _) ?_
   refine Tk 9 (tf 10 10) rfl (YI_v (v := .slice a20 7 c20) rfl (fun w' hw' => r_as (v := .slice a20 7 c20) rfl)) ?_
   intro w23 hU23
   have hzw23 := hU23.size
   replace HJ11 := HJ11.trans0 hU23
   replace hOo21 := hOo21.upd0 hU23
   try replace hW := hW.trans0 hU23
   refine Wa_done (by kernel_rfl) ?_
   exact ⟨a20, 7, c20, go21, rfl, ⟨rfl, rfl, rfl, rfl, rfl, trivial⟩, (by omega), (show Own w23 (fun g => g = go21) 9 1 (.slice a20 7 c20) 7 (rows encS (wv6 p)) from by rw [show wv6 p = wv5 p ++ wsz p from rfl, wsz_t q2]; exact hOo21.weak (by intro g hg; have h3 : ((g = go21) ∧ g < w20.heap.size) := hg; show g = go21; omega)), HJ11⟩
  rw [decide_eq_false q2]
  refine W_cond_f rfl ?_
  refine W_skip ?_
  exact ⟨(some ⟨B7, 0, none⟩), 5, 5, B7, rfl, ⟨rfl, rfl, rfl, rfl, rfl, trivial⟩, (by omega), (show Own w15 (fun g => g = B7) 9 1 (.slice (some ⟨B7, 0, none⟩) 5 5) 5 (rows encS (wv6 p)) from by rw [show wv6 p = wv5 p ++ wsz p from rfl, wsz_f q2]; rw [List.append_nil]; exact hs7.weak (by intro g hg; have h3 : g = B7 := hg; show g = B7; omega)), HJ11⟩
 rintro ρ24 ds24 w24 ⟨a1, n1, c1, go1, rfl, hl24, hgo0, hL, hU24⟩
 obtain ⟨ρ24x, rfl⟩ : ∃ ρx, ρ24 = upds ρx [(1, .pointer (some ⟨B1, 0, none⟩)), (3, .slice a1 n1 c1), (32, .slice a10 3 c10), (33, .int .i64 3), (34, .int .i64 0)] := ⟨_, upds_self hl24⟩
 clear hl24
 have hzw24 := hU24.size
 replace ht := ht.upd1 hU24 (by omega)
 replace hB := hB.upd1 hU24 (show ¬ (B7 < w.heap.size) by omega)
 replace HU := HU.t1 hU24 (by omega)
 replace hb1 := hb1.upd1 hU24 (by omega)
 replace hI10 := hI10.upd1 hU24 (show ¬ (((w9.heap.size ≤ B7) ∧ B7 < w10.heap.size)) by omega)
 replace hL := hL.tight
 have hz0 := wv6_len p
 have hl_hL := rlen encS_len (by decide) hL.sl
 have hc_hL := hL.sl.cap.1
 refine W_region ?_
 refine Wl_v (r_add rfl rfl (show _ = (1 : Int) from by decide)) ?_
 refine Wmv (.int .i64 1) ?_
 refine Wl_nil ?_
 refine unrK_succ ?_
 refine W_seq (W_region ?_)
 refine Wl_v (v := .bool true) (r_lt (a := 1) (b := 3) rfl rfl) ?_
 refine Wl_nil (W_seq ?_)
 refine W_cond_t rfl ?_
 refine W_skip (W_seq ?_)
 refine W_join (fun ρ ds w' => ∃ (a1 : Option Addr) (n1 : Nat) (c1 : Nat) (go2 : Nat), ds = [] ∧ Liv ρ [(1, .pointer (some ⟨B1, 0, none⟩)), (3, .slice a1 n1 c1), (32, .slice a10 3 c10), (33, .int .i64 3), (34, .int .i64 1)] ∧ (go2 = go1 ∨ w24.heap.size ≤ go2) ∧ Own w' (fun g => g = go2) 9 1 (.slice a1 n1 c1) n1 (rows encS (wv7 p)) ∧ Upd (Is go1) w24 w') ?_ ?_
 ·have HJ25 : Upd (Is go1) w24 w24 := Upd.refl _ _
  refine W_block (W_seq (W_region ?_))
  refine Wl_idxr ([], .func 0, .func 0) encI_len (by decide) underlying87 sizeOf91 rfl rfl hI10.sl (by omega) (by omega) ?_
  intro ib26 io26 hc26
  rw [show (1 : Int).toNat = 1 from rfl] at hc26
  refine Wl_v (r_loada (cs := [.string (strOfNums [100, 105, 99, 116, 105, 111, 110, 97, 114, 121]), .func (.func 48) #[] #[], .func (.func 49) #[] #[]]) isAgg91 sizeOf91 rfl rfl hc26) ?_
  refine Wl_alloc (cs := [.string (strOfNums []), .nilFunc, .nilFunc]) zeroValue91 rfl ?_
  intro B27 w27 hB27 hU27 hzz27 hb27
  have hzw27 := hU27.size
  replace ht := ht.upd0 hU27
  replace hb1 := hb1.upd0 hU27
  replace hL := hL.upd0 hU27
  replace HJ25 := HJ25.trans0 hU27
  try replace hW := hW.trans0 hU27
  refine Wl_storea (off := 0) (vs := [.string (strOfNums [100, 105, 99, 116, 105, 111, 110, 97, 114, 121]), .func (.func 48) #[] #[], .func (.func 49) #[] #[]]) (cs' := [.string (strOfNums [100, 105, 99, 116, 105, 111, 110, 97, 114, 121]), .func (.func 48) #[] #[], .func (.func 49) #[] #[]]) sizeOf91 rfl rfl rfl (by simp only [List.mem_cons, List.not_mem_nil, or_false, forall_eq_or_imp, forall_eq]; exact ⟨rfl, rfl, rfl⟩) hb27 (by simp) rfl ?_
  intro w28 hU28 hzz28 hb27n
  replace hb27 := hb27n; clear hb27n
  have hzw28 := hU28.size
  replace ht := ht.upd1 hU28 (by omega)
  replace hb1 := hb1.upd1 hU28 (by omega)
  replace hL := hL.upd1 hU28 (by intro h1; have h3 : ((B27 = go1) ∧ B27 < w24.heap.size) := h1; omega)
  replace HJ25 := HJ25.trans1 hU28 (by show (B27 = go1) ∨ w24.heap.size ≤ B27; omega)
  refine Wl_nil (W_seq (W_region ?_))
  refine Wl_v (r_fld underlying91 rfl sizeOf89 rfl rfl) ?_
  refine Wl_load (v := .func (.func 48) #[] #[]) isAgg89 rfl hb27 rfl ?_
  refine Wl_v (r_loada (b := B1) (off := 0) (cs := [.int .i64 p.at_, .int .i64 p.sz, .bool (decide (p.sk = true)), .int .i64 p.pl, .int .i64 p.hd.1, .int .i64 p.hd.2.1, .int .u32 p.hd.2.2.1, .bool (decide (p.hd.2.2.2 = true)), .slice ba bm bc, .int .u32 p.ck]) isAgg45 sizeOf45 rfl rfl (fun j hj => by rw [hb1.cell]; match j, hj with | 0, _ => rfl | 1, _ => rfl | 2, _ => rfl | 3, _ => rfl | 4, _ => rfl | 5, _ => rfl | 6, _ => rfl | 7, _ => rfl | 8, _ => rfl | 9, _ => rfl)) ?_
  refine Wl_call (r_clos1 call48 rfl rfl (by first | (simp; done) | (simp; rfl))) (it3 _ ) ?_
  rintro v w29 ⟨rfl, hU29⟩
  have hzw29 := hU29.size
  replace ht := ht.upd0 hU29
  replace hb1 := hb1.upd0 hU29
  replace hL := hL.upd0 hU29
  replace HJ25 := HJ25.trans0 hU29
  replace hb27 := hb27.upd0 hU29
  try replace hW := hW.trans0 hU29
  refine Wl_nil ?_
  by_cases q3 : p.hd.2.2.1 = 0
  ·rw [decide_eq_true q3]
   simp only [Bool.not_true, Bool.not_false]
   refine W_cond_f rfl ?_
   refine W_skip ?_
   exact ⟨a1, n1, c1, go1, rfl, ⟨rfl, rfl, rfl, rfl, rfl, trivial⟩, (by omega), (show Own w29 (fun g => g = go1) 9 1 (.slice a1 n1 c1) n1 (rows encS (wv7 p)) from by rw [show wv7 p = wv6 p ++ wdi p from rfl, wdi_f q3]; rw [List.append_nil]; exact hL.weak (by intro g hg; have h3 : ((g = go1) ∧ g < w24.heap.size) := hg; show g = go1; omega)), HJ25⟩
  rw [decide_eq_false q3]
  simp only [Bool.not_true, Bool.not_false]
  refine W_cond_t rfl ?_
  refine W_drawt rfl (l0 := tf 0 10) (by kernel_rfl) ?_
  refine Tk 0 (tf 1 10) rfl (YI_v (v := .slice a1 n1 c1) rfl (fun w' hw' => r_mv (v := .slice a1 n1 c1) rfl)) ?_
  refine Tk 1 (tf 2 10) rfl (YI_v (v := .pointer (some ⟨B27, 0, none⟩)) rfl (fun w' hw' => r_fld underlying91 rfl sizeOf9 rfl rfl)) ?_
  refine Tk 2 (tf 3 10) rfl (YI_v (v := .string (strOfNums [100, 105, 99, 116, 105, 111, 110, 97, 114, 121])) rfl (fun w' hw' => r_load isAgg9 rfl (by rw [(hb27.upd0 hw').cell]; rfl))) ?_
  refine Tk 3 (tf 4 10) rfl (YI_v (v := .pointer (some ⟨B27, 2, none⟩)) rfl (fun w' hw' => r_fld underlying91 rfl sizeOf54 rfl rfl)) ?_
  refine Tk 4 (tf 5 10) rfl (YI_v (v := .func (.func 49) #[] #[]) rfl (fun w' hw' => r_load isAgg54 rfl (by rw [(hb27.upd0 hw').cell]; rfl))) ?_
  refine Tk 5 (tf 6 10) rfl (YI_v (v := .agg #[.int .i64 p.at_, .int .i64 p.sz, .bool (decide (p.sk = true)), .int .i64 p.pl, .int .i64 p.hd.1, .int .i64 p.hd.2.1, .int .u32 p.hd.2.2.1, .bool (decide (p.hd.2.2.2 = true)), .slice ba bm bc, .int .u32 p.ck]) rfl (fun w' hw' => r_loada (b := B1) (off := 0) (cs := [.int .i64 p.at_, .int .i64 p.sz, .bool (decide (p.sk = true)), .int .i64 p.pl, .int .i64 p.hd.1, .int .i64 p.hd.2.1, .int .u32 p.hd.2.2.1, .bool (decide (p.hd.2.2.2 = true)), .slice ba bm bc, .int .u32 p.ck]) isAgg45 sizeOf45 rfl rfl (fun j hj => by rw [(hb1.upd0 hw').cell]; match j, hj with | 0, _ => rfl | 1, _ => rfl | 2, _ => rfl | 3, _ => rfl | 4, _ => rfl | 5, _ => rfl | 6, _ => rfl | 7, _ => rfl | 8, _ => rfl | 9, _ => rfl))) ?_
  refine Tk 6 (tf 7 10) rfl (YI_c (v := .string (strOfNums (digN p.hd.2.2.1.toNat))) rfl (fun w' => r_clos1 call49 rfl rfl (by first | (simp; done) | (simp; rfl))) (fun w' hw' => it4 w' (ht.upd0 hw') hok.h3)) ?_
  intro w30 hU30
  have hzw30 := hU30.size
  replace hL := hL.upd0 hU30
  replace HJ25 := HJ25.trans0 hU30
  try replace hW := hW.trans0 hU30
  refine Wa_one (i := 7) (listed' := tf 8 10) (by kernel_rfl) rfl (by kernel_rfl) ?_
  refine Ws_of_Wl ?_
  have hW : Upd No w29 w30 := hU30
  refine Wl_lit (pv := [(0, .string (strOfNums [100, 105, 99, 116, 105, 111, 110, 97, 114, 121])), (1, .string (strOfNums (digN p.hd.2.2.1.toNat)))]) (cs := [.string (strOfNums [100, 105, 99, 116, 105, 111, 110, 97, 114, 121]), .string (strOfNums (digN p.hd.2.2.1.toNat))]) underlying86 sizeOf9 zeroValue9 (by decide) (by decide) (by simp only [List.map_toArray, List.map_cons, List.map_nil] <;> rfl) (by kernel_rfl) rfl (by decide) ?_
  intro B31 w31 hB31 hU31 hzz31 hs31
  have hzw31 := hU31.size
  replace hL := hL.upd0 hU31
  replace HJ25 := HJ25.trans0 hU31
  try replace hW := hW.trans0 hU31
  replace hs31 : Own w31 (Is B31) 9 1 (.slice (some ⟨B31, 0, none⟩) 2 2) 2 (rows encS [([100, 105, 99, 116, 105, 111, 110, 97, 114, 121]), (digN p.hd.2.2.1.toNat)]) := hs31
  refine Wl_nil ?_
  intro w32 hS32
  have hX : Upd No w29 w32 := hW.trans0 hS32.upd
  refine ⟨fun _ => ⟨hX, ?_⟩, fun h => absurd h (by rw [show barOp _ 7 = false from by kernel_rfl]; simp)⟩
  have hU32 := hS32.upd
  have hzw32 := hU32.size
  replace hL := hL.upd0 hU32
  replace HJ25 := HJ25.trans0 hU32
  replace hs31 := hs31.upd0 hU32
  try replace hW := hW.trans0 hU32
  refine Wt_base hX ?_
  intro w33 hU33
  have hzw33 := hU33.size
  replace hL := hL.upd0 hU33
  replace HJ25 := HJ25.trans0 hU33
  replace hs31 := hs31.upd0 hU33
  try replace hW := hW.trans0 hU33
  refine Wa_one (i := 8) (listed' := tf 9 10) (by kernel_rfl) rfl (by kernel_rfl) ?_
  refine Ws_of_Wl ?_
  have hW : Upd No w32 w33 := hU33
  refine Wl_appendc (cs3 := rows encS ((wv6 p) ++ [([100, 105, 99, 116, 105, 111, 110, 97, 114, 121]), (digN p.hd.2.2.1.toNat)])) (tot := n1 + 2) (by first | rfl | exact (rows_app _ _).symm | simp) underlying86 (ti := Tryd.t9) (z := .string (strOfNums [])) (sz := 1) (by' := 16) rfl rfl rfl rfl rfl (by decide) rfl hL rfl hs31.sl (rows_one encS_one _) (by omega) (by simp only [maxLen]; omega) (by omega) ?_
  intro a34 c34 w34 hU34 hzz34 hO34
  clear hL
  have hzw34 := hU34.size
  replace HJ25 := HJ25.trans hU34 (by intro x hx; have hx2 : ((x = go1) ∧ x < w24.heap.size) := hx; show (x = go1) ∨ w24.heap.size ≤ x; omega)
  replace hO34 := hO34.tight
  have hl_hO34 := rlen encS_len (by decide) hO34.sl
  have hc_hO34 := hO34.sl.cap.1
  obtain ⟨go35, hgo35, hOo35⟩ := hO34.one (by omega)
  replace hgo35 : ((((((go35 = go1) ∧ go35 < w24.heap.size)) ∨ go35 = w33.heap.size)) ∧ go35 < w34.heap.size) := hgo35
  clear hO34
  replace hOo35 := hOo35.tight
  refine Wl_nil ?_
  intro w36 hS36
  refine ⟨fun h => absurd h (by rw [show barOp _ 8 = true from by kernel_rfl]; simp), fun _ => ⟨Upd No w36, ?_⟩⟩
  have hU36 := hS36.upd
  have hzw36 := hU36.size
  replace HJ25 := HJ25.trans0 hU36
  replace hOo35 := hOo35.upd0 hU36
  try replace hW := hW.trans0 hU36
  refine Wt_base (Upd.refl _ _) ?_
  refine Tk 9 (tf 10 10) rfl (YI_v (v := .slice a34 (n1 + 2) c34) rfl (fun w' hw' => r_as (v := .slice a34 (n1 + 2) c34) rfl)) ?_
  intro w37 hU37
  have hzw37 := hU37.size
  replace HJ25 := HJ25.trans0 hU37
  replace hOo35 := hOo35.upd0 hU37
  try replace hW := hW.trans0 hU37
  refine Wa_done (by kernel_rfl) ?_
  exact ⟨a34, (n1 + 2), c34, go35, rfl, ⟨rfl, rfl, rfl, rfl, rfl, trivial⟩, (by omega), (show Own w37 (fun g => g = go35) 9 1 (.slice a34 (n1 + 2) c34) (n1 + 2) (rows encS (wv7 p)) from by rw [show wv7 p = wv6 p ++ wdi p from rfl, wdi_t q3]; exact hOo35.weak (by intro g hg; have h3 : ((g = go35) ∧ g < w34.heap.size) := hg; show g = go35; omega)), HJ25⟩
 rintro ρ38 ds38 w38 ⟨a1, n1, c1, go2, rfl, hl38, hgo1, hL, hU38⟩
 obtain ⟨ρ38x, rfl⟩ : ∃ ρx, ρ38 = upds ρx [(1, .pointer (some ⟨B1, 0, none⟩)), (3, .slice a1 n1 c1), (32, .slice a10 3 c10), (33, .int .i64 3), (34, .int .i64 1)] := ⟨_, upds_self hl38⟩
 clear hl38
 have hzw38 := hU38.size
 replace ht := ht.upd1 hU38 (by omega)
 replace hB := hB.upd1 hU38 (show ¬ (go1 < w.heap.size) by omega)
 replace HU := HU.t1 hU38 (by omega)
 replace hb1 := hb1.upd1 hU38 (by omega)
 replace hI10 := hI10.upd1 hU38 (show ¬ (((w9.heap.size ≤ go1) ∧ go1 < w10.heap.size)) by omega)
 replace hL := hL.tight
 have hz1 := wv7_len p
 have hl_hL := rlen encS_len (by decide) hL.sl
 have hc_hL := hL.sl.cap.1
 refine W_region ?_
 refine Wl_v (r_add rfl rfl (show _ = (2 : Int) from by decide)) ?_
 refine Wmv (.int .i64 2) ?_
 refine Wl_nil ?_
 refine unrK_succ ?_
 refine W_seq (W_region ?_)
 refine Wl_v (v := .bool true) (r_lt (a := 2) (b := 3) rfl rfl) ?_
 refine Wl_nil (W_seq ?_)
 refine W_cond_t rfl ?_
 refine W_skip (W_seq ?_)
 refine W_join (fun ρ ds w' => ∃ (a1 : Option Addr) (n1 : Nat) (c1 : Nat) (go3 : Nat), ds = [] ∧ Liv ρ [(1, .pointer (some ⟨B1, 0, none⟩)), (3, .slice a1 n1 c1), (32, .slice a10 3 c10), (33, .int .i64 3), (34, .int .i64 2)] ∧ (go3 = go2 ∨ w38.heap.size ≤ go3) ∧ Own w' (fun g => g = go3) 9 1 (.slice a1 n1 c1) n1 (rows encS (wh p)) ∧ Upd (Is go2) w38 w') ?_ ?_
 ·have HJ39 : Upd (Is go2) w38 w38 := Upd.refl _ _
  refine W_block (W_seq (W_region ?_))
  refine Wl_idxr ([], .func 0, .func 0) encI_len (by decide) underlying87 sizeOf91 rfl rfl hI10.sl (by omega) (by omega) ?_
  intro ib40 io40 hc40
  rw [show (2 : Int).toNat = 2 from rfl] at hc40
  refine Wl_v (r_loada (cs := [.string (strOfNums [99, 104, 101, 99, 107]), .func (.func 51) #[] #[], .func (.func 52) #[] #[]]) isAgg91 sizeOf91 rfl rfl hc40) ?_
  refine Wl_alloc (cs := [.string (strOfNums []), .nilFunc, .nilFunc]) zeroValue91 rfl ?_
  intro B41 w41 hB41 hU41 hzz41 hb41
  have hzw41 := hU41.size
  replace ht := ht.upd0 hU41
  replace hb1 := hb1.upd0 hU41
  replace hL := hL.upd0 hU41
  replace HJ39 := HJ39.trans0 hU41
  try replace hW := hW.trans0 hU41
  refine Wl_storea (off := 0) (vs := [.string (strOfNums [99, 104, 101, 99, 107]), .func (.func 51) #[] #[], .func (.func 52) #[] #[]]) (cs' := [.string (strOfNums [99, 104, 101, 99, 107]), .func (.func 51) #[] #[], .func (.func 52) #[] #[]]) sizeOf91 rfl rfl rfl (by simp only [List.mem_cons, List.not_mem_nil, or_false, forall_eq_or_imp, forall_eq]; exact ⟨rfl, rfl, rfl⟩) hb41 (by simp) rfl ?_
  intro w42 hU42 hzz42 hb41n
  replace hb41 := hb41n; clear hb41n
  have hzw42 := hU42.size
  replace ht := ht.upd1 hU42 (by omega)
  replace hb1 := hb1.upd1 hU42 (by omega)
  replace hL := hL.upd1 hU42 (by intro h1; have h3 : ((B41 = go2) ∧ B41 < w38.heap.size) := h1; omega)
  replace HJ39 := HJ39.trans1 hU42 (by show (B41 = go2) ∨ w38.heap.size ≤ B41; omega)
  refine Wl_nil (W_seq (W_region ?_))
  refine Wl_v (r_fld underlying91 rfl sizeOf89 rfl rfl) ?_
  refine Wl_load (v := .func (.func 51) #[] #[]) isAgg89 rfl hb41 rfl ?_
  refine Wl_v (r_loada (b := B1) (off := 0) (cs := [.int .i64 p.at_, .int .i64 p.sz, .bool (decide (p.sk = true)), .int .i64 p.pl, .int .i64 p.hd.1, .int .i64 p.hd.2.1, .int .u32 p.hd.2.2.1, .bool (decide (p.hd.2.2.2 = true)), .slice ba bm bc, .int .u32 p.ck]) isAgg45 sizeOf45 rfl rfl (fun j hj => by rw [hb1.cell]; match j, hj with | 0, _ => rfl | 1, _ => rfl | 2, _ => rfl | 3, _ => rfl | 4, _ => rfl | 5, _ => rfl | 6, _ => rfl | 7, _ => rfl | 8, _ => rfl | 9, _ => rfl)) ?_
  refine Wl_call (r_clos1 call51 rfl rfl (by first | (simp; done) | (simp; rfl))) (it5 _ ) ?_
  rintro v w43 ⟨rfl, hU43⟩
  have hzw43 := hU43.size
  replace ht := ht.upd0 hU43
  replace hb1 := hb1.upd0 hU43
  replace hL := hL.upd0 hU43
  replace HJ39 := HJ39.trans0 hU43
  replace hb41 := hb41.upd0 hU43
  try replace hW := hW.trans0 hU43
  refine Wl_nil ?_
  by_cases q4 : p.hd.2.2.2 = true
  ·rw [decide_eq_true q4]
   refine W_cond_t rfl ?_
   refine W_drawt rfl (l0 := tf 0 10) (by kernel_rfl) ?_
   refine Tk 0 (tf 1 10) rfl (YI_v (v := .slice a1 n1 c1) rfl (fun w' hw' => r_mv (v := .slice a1 n1 c1) rfl)) ?_
   refine Tk 1 (tf 2 10) rfl (YI_v (v := .pointer (some ⟨B41, 0, none⟩)) rfl (fun w' hw' => r_fld underlying91 rfl sizeOf9 rfl rfl)) ?_
   refine Tk 2 (tf 3 10) rfl (YI_v (v := .string (strOfNums [99, 104, 101, 99, 107])) rfl (fun w' hw' => r_load isAgg9 rfl (by rw [(hb41.upd0 hw').cell]; rfl))) ?_
   refine Tk 3 (tf 4 10) rfl (YI_v (v := .pointer (some ⟨B41, 2, none⟩)) rfl (fun w' hw' => r_fld underlying91 rfl sizeOf54 rfl rfl)) ?_
   refine Tk 4 (tf 5 10) rfl (YI_v (v := .func (.func 52) #[] #[]) rfl (fun w' hw' => r_load isAgg54 rfl (by rw [(hb41.upd0 hw').cell]; rfl))) ?_
   refine Tk 5 (tf 6 10) rfl (YI_v (v := .agg #[.int .i64 p.at_, .int .i64 p.sz, .bool (decide (p.sk = true)), .int .i64 p.pl, .int .i64 p.hd.1, .int .i64 p.hd.2.1, .int .u32 p.hd.2.2.1, .bool (decide (p.hd.2.2.2 = true)), .slice ba bm bc, .int .u32 p.ck]) rfl (fun w' hw' => r_loada (b := B1) (off := 0) (cs := [.int .i64 p.at_, .int .i64 p.sz, .bool (decide (p.sk = true)), .int .i64 p.pl, .int .i64 p.hd.1, .int .i64 p.hd.2.1, .int .u32 p.hd.2.2.1, .bool (decide (p.hd.2.2.2 = true)), .slice ba bm bc, .int .u32 p.ck]) isAgg45 sizeOf45 rfl rfl (fun j hj => by rw [(hb1.upd0 hw').cell]; match j, hj with | 0, _ => rfl | 1, _ => rfl | 2, _ => rfl | 3, _ => rfl | 4, _ => rfl | 5, _ => rfl | 6, _ => rfl | 7, _ => rfl | 8, _ => rfl | 9, _ => rfl))) ?_
   refine Tk 6 (tf 7 10) rfl (YI_c (v := .string (strOfNums (digN p.ck.toNat))) rfl (fun w' => r_clos1 call52 rfl rfl (by first | (simp; done) | (simp; rfl))) (fun w' hw' => it6 w' (ht.upd0 hw') hok.ck)) ?_
   intro w44 hU44
   have hzw44 := hU44.size
   replace hL := hL.upd0 hU44
   replace HJ39 := HJ39.trans0 hU44
   try replace hW := hW.trans0 hU44
   refine Wa_one (i := 7) (listed' := tf 8 10) (by kernel_rfl) rfl (by kernel_rfl) ?_
   refine Ws_of_Wl ?_
   have hW : Upd No w43 w44 := hU44
   refine Wl_lit (pv := [(0, .string (strOfNums [99, 104, 101, 99, 107])), (1, .string (strOfNums (digN p.ck.toNat)))]) (cs := [.string (strOfNums [99, 104, 101, 99, 107]), .string (strOfNums (digN p.ck.toNat))]) underlying86 sizeOf9 zeroValue9 (by decide) (by decide) (by simp only [List.map_toArray, List.map_cons, List.map_nil] <;> rfl) (by kernel_rfl) rfl (by decide) ?_
   intro B45 w45 hB45 hU45 hzz45 hs45
   have hzw45 := hU45.size
   replace hL := hL.upd0 hU45
   replace HJ39 := HJ39.trans0 hU45
   try replace hW := hW.trans0 hU45
   replace hs45 : Own w45 (Is B45) 9 1 (.slice (some ⟨B45, 0, none⟩) 2 2) 2 (rows encS [([99, 104, 101, 99, 107]), (digN p.ck.toNat)]) := hs45
   refine Wl_nil ?_
   intro w46 hS46
   have hX : Upd No w43 w46 := hW.trans0 hS46.upd
   refine ⟨fun _ => ⟨hX, ?_⟩, fun h => absurd h (by rw [show barOp _ 7 = false from by kernel_rfl]; simp)⟩
   have hU46 := hS46.upd
   have hzw46 := hU46.size
   replace hL := hL.upd0 hU46
   replace HJ39 := HJ39.trans0 hU46
   replace hs45 := hs45.upd0 hU46
   try replace hW := hW.trans0 hU46
   refine Wt_base hX ?_
   intro w47 hU47
   have hzw47 := hU47.size
   replace hL := hL.upd0 hU47
   replace HJ39 := HJ39.trans0 hU47
   replace hs45 := hs45.upd0 hU47
   try replace hW := hW.trans0 hU47
   refine Wa_one (i := 8) (listed' := tf 9 10) (by kernel_rfl) rfl (by kernel_rfl) ?_
   refine Ws_of_Wl ?_
   have hW : Upd No w46 w47 := hU47
   refine Wl_appendc (cs3 := rows encS ((wv7 p) ++ [([99, 104, 101, 99, 107]), (digN p.ck.toNat)])) (tot := n1 + 2) (by first | rfl | exact (rows_app _ _).symm | simp) underlying86 (ti := Tryd.t9) (z := .string (strOfNums [])) (sz := 1) (by' := 16) rfl rfl rfl rfl rfl (by decide) rfl hL rfl hs45.sl (rows_one encS_one _) (by omega) (by simp only [maxLen]; omega) (by omega) ?_
   intro a48 c48 w48 hU48 hzz48 hO48
   clear hL
   have hzw48 := hU48.size
   replace HJ39 := HJ39.trans hU48 (by intro x hx; have hx2 : ((x = go2) ∧ x < w38.heap.size) := hx; show (x = go2) ∨ w38.heap.size ≤ x; omega)
   replace hO48 := hO48.tight
   have hl_hO48 := rlen encS_len (by decide) hO48.sl
   have hc_hO48 := hO48.sl.cap.1
   obtain ⟨go49, hgo49, hOo49⟩ := hO48.one (by omega)
   replace hgo49 : ((((((go49 = go2) ∧ go49 < w38.heap.size)) ∨ go49 = w47.heap.size)) ∧ go49 < w48.heap.size) := hgo49
   clear hO48
   replace hOo49 := hOo49.tight
   refine Wl_nil ?_
   intro w50 hS50
   refine ⟨fun h => absurd h (by rw [show barOp _ 8 = true from by kernel_rfl]; simp), fun _ => ⟨Upd No w50, ?_⟩⟩
   have hU50 := hS50.upd
   have hzw50 := hU50.size
   replace HJ39 := HJ39.trans0 hU50
   replace hOo49 := hOo49.upd0 hU50
   try replace hW := hW.trans0 hU50
   refine Wt_base (Upd.refl _ _) ?_
   refine Tk 9 (tf 10 10) rfl (YI_v (v := .slice a48 (n1 + 2) c48) rfl (fun w' hw' => r_as (v := .slice a48 (n1 + 2) c48) rfl)) ?_
   intro w51 hU51
   have hzw51 := hU51.size
   replace HJ39 := HJ39.trans0 hU51
   replace hOo49 := hOo49.upd0 hU51
   try replace hW := hW.trans0 hU51
   refine Wa_done (by kernel_rfl) ?_
   exact ⟨a48, (n1 + 2), c48, go49, rfl, ⟨rfl, rfl, rfl, rfl, rfl, trivial⟩, (by omega), (show Own w51 (fun g => g = go49) 9 1 (.slice a48 (n1 + 2) c48) (n1 + 2) (rows encS (wh p)) from by rw [show wh p = wv7 p ++ wck p from rfl, wck_t q4]; exact hOo49.weak (by intro g hg; have h3 : ((g = go49) ∧ g < w48.heap.size) := hg; show g = go49; omega)), HJ39⟩
  rw [decide_eq_false q4]
  refine W_cond_f rfl ?_
  refine W_skip ?_
  exact ⟨a1, n1, c1, go2, rfl, ⟨rfl, rfl, rfl, rfl, rfl, trivial⟩, (by omega), (show Own w43 (fun g => g = go2) 9 1 (.slice a1 n1 c1) n1 (rows encS (wh p)) from by rw [show wh p = wv7 p ++ wck p from rfl, wck_f q4]; rw [List.append_nil]; exact hL.weak (by intro g hg; have h3 : ((g = go2) ∧ g < w38.heap.size) := hg; show g = go2; omega)), HJ39⟩
 rintro ρ52 ds52 w52 ⟨a1, n1, c1, go3, rfl, hl52, hgo2, hL, hU52⟩
 obtain ⟨ρ52x, rfl⟩ : ∃ ρx, ρ52 = upds ρx [(1, .pointer (some ⟨B1, 0, none⟩)), (3, .slice a1 n1 c1), (32, .slice a10 3 c10), (33, .int .i64 3), (34, .int .i64 2)] := ⟨_, upds_self hl52⟩
 clear hl52
 have hzw52 := hU52.size
 replace ht := ht.upd1 hU52 (by omega)
 replace hB := hB.upd1 hU52 (show ¬ (go2 < w.heap.size) by omega)
 replace HU := HU.t1 hU52 (by omega)
 replace hb1 := hb1.upd1 hU52 (by omega)
 replace hL := hL.tight
 have hz2 := wh_len p
 have hl_hL := rlen encS_len (by decide) hL.sl
 have hc_hL := hL.sl.cap.1
 refine W_region ?_
 refine Wl_v (r_add rfl rfl (show _ = (3 : Int) from by decide)) ?_
 refine Wmv (.int .i64 3) ?_
 refine Wl_nil ?_
 refine unrK_succ ?_
 refine W_seq (W_region ?_)
 refine Wl_v (v := .bool false) (r_lt (a := 3) (b := 3) rfl rfl) ?_
 refine Wl_nil (W_seq ?_)
 refine W_cond_f rfl ?_
 refine W_exit ?_
 refine W_seq (W_seq (W_region ?_))
 refine Wl_v (r_fld underlying45 rfl sizeOf43 rfl rfl) ?_
 refine Wl_load (v := .slice ba bm bc) isAgg43 rfl hb1 rfl ?_
 refine Wl_v (r_len underlying43 rfl) ?_
 refine Wmv (.int .i64 0) ?_
 refine Wl_nil (W_block ?_)
 rw [← wq_0 p] at hL
 refine W_loop (fun mu ρ ds w' => ∃ (k : Nat) (a1 : Option Addr) (n1 : Nat) (c1 : Nat) (go : Nat), bm - k = mu ∧ ds = [] ∧ Liv ρ [(3, .slice a1 n1 c1), (53, .slice ba bm bc), (54, .int .i64 ((bm : Nat) : Int)), (55, .int .i64 ((k : Nat) : Int))] ∧ k ≤ bm ∧ (go = go3 ∨ w52.heap.size ≤ go) ∧ Own w' (fun g => g = go) 9 1 (.slice a1 n1 c1) n1 (rows encS (wq p k)) ∧ Upd (Is go3) w52 w') _ ⟨0, a1, n1, c1, go3, rfl, rfl, ⟨(by first | rfl | exact vint (by omega) | exact vint (by simp)), rfl, rfl, (by first | rfl | exact vint (by omega) | exact vint (by simp)), trivial⟩, (by omega), (by omega), (hL.weak (by intro g hg; have h3 : ((g = go3) ∧ g < w52.heap.size) := hg; show g = go3; omega)), Upd.refl _ _⟩ ?_
 rintro m53 ρ53 ds53 w53 ⟨k, a1, n1, c1, go, rfl, rfl, hl53, hk, hgo, hL, hU53⟩
 obtain ⟨ρ53x, rfl⟩ : ∃ ρx, ρ53 = upds ρx [(3, .slice a1 n1 c1), (53, .slice ba bm bc), (54, .int .i64 ((bm : Nat) : Int)), (55, .int .i64 ((k : Nat) : Int))] := ⟨_, upds_self hl53⟩
 clear hl53
 have hzw53 := hU53.size
 replace ht := ht.upd1 hU53 (by omega)
 replace hB := hB.upd1 hU53 (show ¬ (go3 < w.heap.size) by omega)
 replace HU := HU.t1 hU53 (by omega)
 replace hL := hL.tight
 have hwc := wq_cnt hok k
 have hkb := ok_gd hok k
 have hl_hL := rlen encS_len (by decide) hL.sl
 have hc_hL := hL.sl.cap.1
 have hbn := hok.bn
 have HL53 := hU53
 refine W_seq (W_region ?_)
 refine Wl_v (r_lt rfl rfl) ?_
 refine Wl_nil (W_seq ?_)
 by_cases q5 : ((k : Nat) : Int) < ((bm : Nat) : Int)
 ·rw [decide_eq_true q5]
  refine W_cond_t rfl ?_
  refine W_skip (W_seq (W_block (W_seq (W_region ?_))))
  refine Wl_idxr (0, 0, 0, 0, false) encK_len (by decide) underlying43 sizeOf51 rfl rfl hB (by omega) (by omega) ?_
  intro ib54 io54 hc54
  try rw [Int.toNat_natCast] at hc54
  refine Wl_v (r_loada (cs := [.int .i64 ((p.bl.getD k (0, 0, 0, 0, false)).1), .int .i64 ((p.bl.getD k (0, 0, 0, 0, false)).2.1), .int .i64 ((p.bl.getD k (0, 0, 0, 0, false)).2.2.1), .int .i64 ((p.bl.getD k (0, 0, 0, 0, false)).2.2.2.1), .bool (decide ((p.bl.getD k (0, 0, 0, 0, false)).2.2.2.2 = true))]) isAgg51 sizeOf51 rfl rfl hc54) ?_
  refine Wl_alloc (cs := [.int .i64 0, .int .i64 0, .int .i64 0, .int .i64 0, .bool false]) zeroValue51 rfl ?_
  intro B55 w55 hB55 hU55 hzz55 hb55
  have hzw55 := hU55.size
  replace ht := ht.upd0 hU55
  replace hL := hL.upd0 hU55
  replace HL53 := HL53.trans0 hU55
  try replace hW := hW.trans0 hU55
  refine Wl_storea (off := 0) (vs := [.int .i64 ((p.bl.getD k (0, 0, 0, 0, false)).1), .int .i64 ((p.bl.getD k (0, 0, 0, 0, false)).2.1), .int .i64 ((p.bl.getD k (0, 0, 0, 0, false)).2.2.1), .int .i64 ((p.bl.getD k (0, 0, 0, 0, false)).2.2.2.1), .bool (decide ((p.bl.getD k (0, 0, 0, 0, false)).2.2.2.2 = true))]) (cs' := [.int .i64 ((p.bl.getD k (0, 0, 0, 0, false)).1), .int .i64 ((p.bl.getD k (0, 0, 0, 0, false)).2.1), .int .i64 ((p.bl.getD k (0, 0, 0, 0, false)).2.2.1), .int .i64 ((p.bl.getD k (0, 0, 0, 0, false)).2.2.2.1), .bool (decide ((p.bl.getD k (0, 0, 0, 0, false)).2.2.2.2 = true))]) sizeOf51 rfl rfl rfl (by simp only [List.mem_cons, List.not_mem_nil, or_false, forall_eq_or_imp, forall_eq]; exact ⟨rfl, rfl, rfl, rfl, rfl⟩) hb55 (by simp) rfl ?_
  intro w56 hU56 hzz56 hb55n
  replace hb55 := hb55n; clear hb55n
  have hzw56 := hU56.size
  replace ht := ht.upd1 hU56 (by omega)
  replace hL := hL.upd1 hU56 (by intro h1; have h3 : ((B55 = go) ∧ B55 < w53.heap.size) := h1; omega)
  replace HL53 := HL53.trans1 hU56 (by show (B55 = go3) ∨ w52.heap.size ≤ B55; omega)
  refine Wl_nil (W_region ?_)
  refine Wmv (.slice a1 n1 c1) ?_
  refine Wl_v (r_loada (b := B55) (off := 0) (cs := [.int .i64 ((p.bl.getD k (0, 0, 0, 0, false)).1), .int .i64 ((p.bl.getD k (0, 0, 0, 0, false)).2.1), .int .i64 ((p.bl.getD k (0, 0, 0, 0, false)).2.2.1), .int .i64 ((p.bl.getD k (0, 0, 0, 0, false)).2.2.2.1), .bool (decide ((p.bl.getD k (0, 0, 0, 0, false)).2.2.2.2 = true))]) isAgg51 sizeOf51 rfl rfl (fun j hj => by rw [hb55.cell]; match j, hj with | 0, _ => rfl | 1, _ => rfl | 2, _ => rfl | 3, _ => rfl | 4, _ => rfl)) ?_
  refine Wl_call (r_call1 rfl call33 rfl) (text_spec _ ht hkb) ?_
  rintro v w57 ⟨rfl, hU57⟩
  have hzw57 := hU57.size
  replace hL := hL.upd0 hU57
  replace HL53 := HL53.trans0 hU57
  try replace hW := hW.trans0 hU57
  refine Wl_lit (pv := [(0, .string (strOfNums (btx (p.bl.getD k (0, 0, 0, 0, false)))))]) (cs := [.string (strOfNums (btx (p.bl.getD k (0, 0, 0, 0, false))))]) underlying86 sizeOf9 zeroValue9 (by decide) (by decide) (by simp only [List.map_toArray, List.map_cons, List.map_nil] <;> rfl) (by kernel_rfl) rfl (by decide) ?_
  intro B58 w58 hB58 hU58 hzz58 hs58
  have hzw58 := hU58.size
  replace hL := hL.upd0 hU58
  replace HL53 := HL53.trans0 hU58
  try replace hW := hW.trans0 hU58
  replace hs58 : Own w58 (Is B58) 9 1 (.slice (some ⟨B58, 0, none⟩) 1 1) 1 (rows encS [(btx (p.bl.getD k (0, 0, 0, 0, false)))]) := hs58
  refine Wl_appendc (cs3 := rows encS ((wq p k) ++ [(btx (p.bl.getD k (0, 0, 0, 0, false)))])) (tot := n1 + 1) (by first | rfl | exact (rows_app _ _).symm | simp) underlying86 (ti := Tryd.t9) (z := .string (strOfNums [])) (sz := 1) (by' := 16) rfl rfl rfl rfl rfl (by decide) rfl hL rfl hs58.sl (rows_one encS_one _) (by omega) (by simp only [maxLen]; omega) (by omega) ?_
  intro a59 c59 w59 hU59 hzz59 hO59
  clear hL
  have hzw59 := hU59.size
  replace HL53 := HL53.trans hU59 (by intro x hx; have hx2 : ((x = go) ∧ x < w53.heap.size) := hx; show (x = go3) ∨ w52.heap.size ≤ x; omega)
  replace hO59 := hO59.tight
  have hl_hO59 := rlen encS_len (by decide) hO59.sl
  have hc_hO59 := hO59.sl.cap.1
  obtain ⟨go60, hgo60, hOo60⟩ := hO59.one (by omega)
  replace hgo60 : ((((((go60 = go) ∧ go60 < w53.heap.size)) ∨ go60 = w58.heap.size)) ∧ go60 < w59.heap.size) := hgo60
  clear hO59
  replace hOo60 := hOo60.tight
  refine Was (.slice a59 (n1 + 1) c59) ?_
  refine Wl_nil (W_region ?_)
  refine Wl_v (r_add rfl rfl (wi64 (by omega) (by omega))) ?_
  refine Wmv (.int .i64 (((k : Nat) : Int) + 1)) ?_
  refine Wl_nil ?_
  refine ⟨_, ?_, (k + 1), a59, (n1 + 1), c59, go60, rfl, rfl, ⟨rfl, rfl, rfl, (by first | rfl | exact vint (by omega) | exact vint (by simp)), trivial⟩, (by omega), (by omega), (by rw [wq_snoc (by omega)]; exact hOo60.weak (by intro g hg; have h3 : ((g = go60) ∧ g < w59.heap.size) := hg; show g = go60; omega)), HL53⟩
  omega
 rw [decide_eq_false q5]
 refine W_cond_f rfl ?_
 refine W_exit ?_
 refine W_seq (W_region ?_)
 refine Wmv (.slice a1 n1 c1) ?_
 refine Wl_call (r_call1 rfl call30 rfl) (joined_spec _ hL.sl (fun x hx => by have h9 := wq_ok hok k x hx; exact h9.2) (fun x hx => by have h9 := wq_ok hok k x hx; omega) (by omega)) ?_
 rintro v w61 ⟨rfl, hU61⟩
 have hzw61 := hU61.size
 replace HU := HU.trans0 hU61
 try replace hW := hW.trans0 hU61
 refine Was (.string (strOfNums (jnw (wq p k)))) ?_
 refine Wl_nil ?_
 refine W_ret ?_
 refine ret_end (v := .string (strOfNums (jnw (wq p k)))) rfl (res1 results17 rfl) ?_
 exact ⟨_, rfl, (by rw [wq_lin q1 (by omega)]), HU⟩
end Go.Proofs.YtbjjhfoeckkacaaDoor
