/-
  Several texts of this project, put together.
-/
import Derived.Test.YtdppageondgjkaaGreatXA
import Derived.Test.YtdppageondgjkaaGreatCB
import Derived.Test.YtdppageondgjkaaGreatFB
set_option linter.unusedVariables false
set_option linter.unusedSimpArgs false
set_option maxRecDepth 100000
namespace Go.Proofs.YtdppageondgjkaaGreat
open Go.Fw _root_.Go.Proofs.Tryz
def encE (x : Int × Int) : List Value := [.int .i64 x.1, .int .i64 x.2]
theorem encE_len (x : Int × Int) : (encE x).length = 2 := rfl
theorem encE_one (x : Int × Int) : ∀ u ∈ encE x, u.oneCell' = true := by
 intro u hu; simp only [encE, List.mem_cons, List.not_mem_nil, or_false] at hu; rcases hu with rfl | rfl <;> rfl
theorem and32 {x : Int} (h0 : 0 ≤ x) (h1 : x < 4294967296) : IntKind.u64.wrap (((x % 2 ^ IntKind.u64.bits).toNat &&& (4294967295 % 2 ^ IntKind.u64.bits : Int).toNat : Nat) : Int) = x := by
 have e : (2 ^ IntKind.u64.bits : Int) = 18446744073709551616 := by decide
 have e2 : (4294967295 % 18446744073709551616 : Int).toNat = 2 ^ 32 - 1 := by decide
 rw [e, e2, Nat.and_two_pow_sub_one_eq_mod, wu64 (by omega) (by omega)]; omega
theorem shr32 {x : Int} (h0 : 0 ≤ x) (h1 : x < 4294967296) : x / 2 ^ (min (32 : Int).toNat IntKind.u64.bits) = 0 := by
 have e : (2 : Int) ^ (min (32 : Int).toNat IntKind.u64.bits) = 4294967296 := by decide
 rw [e]; omega
theorem rep_first {M : Nat} {x : Int × Int} (h : 1 ≤ M) : (List.replicate M ((0, 0) : Int × Int)).take 0 ++ [x].take (min 1 M) ++ (List.replicate M (0, 0)).drop (0 + min 1 M) = List.replicate 1 x ++ List.replicate (M - 1) (0, 0) := by
 rw [show min 1 M = 1 from by omega]; simp
theorem rep_dbl {M k : Nat} {x : Int × Int} (h : k ≤ M) : (List.replicate k x ++ List.replicate (M - k) ((0, 0) : Int × Int)).take k ++ ((List.replicate k x ++ List.replicate (M - k) (0, 0)).take k).take (min k (M - k)) ++ (List.replicate k x ++ List.replicate (M - k) (0, 0)).drop (k + min k (M - k)) =
  List.replicate (k + min k (M - k)) x ++ List.replicate (M - (k + min k (M - k))) (0, 0) := by
 generalize hj : min k (M - k) = j
 rw [List.take_left' (by simp), ← List.replicate_append_replicate, List.take_replicate, show min j k = j from by omega, List.drop_append, List.drop_replicate, List.drop_replicate, List.length_replicate, show k - (k + j) = 0 from by omega, show k + j - k = j from by omega, show M - k - j = M - (k + j) from by omega]
 simp
theorem shlT {d : Int} (h0 : 0 ≤ d) (h1 : d ≤ 11) : IntKind.i64.wrap (1 * 2 ^ (min d.toNat IntKind.i64.bits)) = ((2 ^ d.toNat : Nat) : Int) := by
 have e : min d.toNat IntKind.i64.bits = d.toNat := by show min _ 64 = _; omega
 have h2 := p2_le11 (a := d.toNat) (by omega)
 rw [e, ← p2_nat] at *
 have h3 := p2_nat d.toNat
 unfold p2 at h3
 rw [← h3, Int.one_mul]
 exact wi64 (by omega) (by omega)
theorem mul64_1 {m : Int} (w : World) (hm : 0 ≤ m ∧ m < 4294967296) :
  Calls Tryz.prog 159 #[.int .u64 1, .int .u64 m] w (Ret fun v w' => v = .tuple #[.int .u64 0, .int .u64 m] ∧ Upd No w w') := by
 have HU := Upd.rno w
 refine calls_of_W func159 rfl ntmps159 (by simp) ?_
 refine W_seq (W_region ?_)
 refine Was (.int .u64 0) ?_
 refine Was (.int .u64 0) ?_
 refine Wl_nil (W_seq (W_region ?_))
 refine Wmv (.int .u64 1) ?_
 refine Wl_v (r_and rfl rfl (show _ = (1 : Int) from by decide)) ?_
 refine Was (.int .u64 1) ?_
 refine Wl_nil (W_seq (W_region ?_))
 refine Wmv (.int .u64 1) ?_
 refine Wl_v (r_shr rfl rfl (by decide) (shr32 (by omega) (by omega))) ?_
 refine Was (.int .u64 0) ?_
 refine Wl_nil (W_seq (W_region ?_))
 refine Wmv (.int .u64 m) ?_
 refine Wl_v (r_and rfl rfl (and32 (by omega) (by omega))) ?_
 refine Was (.int .u64 m) ?_
 refine Wl_nil (W_seq (W_region ?_))
 refine Wmv (.int .u64 m) ?_
 refine Wl_v (r_shr rfl rfl (by decide) (shr32 (by omega) (by omega))) ?_
 refine Was (.int .u64 0) ?_
 refine Wl_nil (W_seq (W_region ?_))
 refine Wmv (.int .u64 1) ?_
 refine Wmv (.int .u64 m) ?_
 refine Wl_v (r_mul rfl rfl (show _ = m from by rw [Int.one_mul]; exact wu64 (by omega) (by omega))) ?_
 refine Was (.int .u64 m) ?_
 refine Wl_nil (W_seq (W_region ?_))
 refine Wmv (.int .u64 0) ?_
 refine Wmv (.int .u64 m) ?_
 refine Wl_v (r_mul rfl rfl (show _ = (0 : Int) from by first | (rw [Int.zero_mul]; decide) | (rw [Int.mul_zero]; decide))) ?_
 refine Wmv (.int .u64 m) ?_
 refine Wl_v (r_shr rfl rfl (by decide) (shr32 (by omega) (by omega))) ?_
 refine Wl_v (r_add rfl rfl (wu64 (by omega) (by omega))) ?_
 refine Was (.int .u64 (0 + 0)) ?_
 refine Wl_nil (W_seq (W_region ?_))
 refine Wmv (.int .u64 (0 + 0)) ?_
 refine Wl_v (r_and rfl rfl (and32 (by omega) (by omega))) ?_
 refine Was (.int .u64 (0 + 0)) ?_
 refine Wl_nil (W_seq (W_region ?_))
 refine Wmv (.int .u64 (0 + 0)) ?_
 refine Wl_v (r_shr rfl rfl (by decide) (shr32 (by omega) (by omega))) ?_
 refine Was (.int .u64 0) ?_
 refine Wl_nil (W_seq (W_region ?_))
 refine Wmv (.int .u64 (0 + 0)) ?_
 refine Wmv (.int .u64 1) ?_
 refine Wmv (.int .u64 0) ?_
 refine Wl_v (r_mul rfl rfl (show _ = (0 : Int) from by first | (rw [Int.zero_mul]; decide) | (rw [Int.mul_zero]; decide))) ?_
 refine Wl_v (r_add rfl rfl (wu64 (by omega) (by omega))) ?_
 refine Was (.int .u64 ((0 + 0) + 0)) ?_
 refine Wl_nil (W_seq (W_region ?_))
 refine Wmv (.int .u64 0) ?_
 refine Wmv (.int .u64 0) ?_
 refine Wl_v (r_mul rfl rfl (show _ = (0 : Int) from by first | (rw [Int.zero_mul]; decide) | (rw [Int.mul_zero]; decide))) ?_
 refine Wmv (.int .u64 0) ?_
 refine Wl_v (r_add rfl rfl (wu64 (by omega) (by omega))) ?_
 refine Wmv (.int .u64 ((0 + 0) + 0)) ?_
 refine Wl_v (r_shr rfl rfl (by decide) (shr32 (by omega) (by omega))) ?_
 refine Wl_v (r_add rfl rfl (wu64 (by omega) (by omega))) ?_
 refine Was (.int .u64 ((0 + 0) + 0)) ?_
 refine Wl_nil (W_seq (W_region ?_))
 refine Wmv (.int .u64 1) ?_
 refine Wmv (.int .u64 m) ?_
 refine Wl_v (r_mul rfl rfl (show _ = m from by rw [Int.one_mul]; exact wu64 (by omega) (by omega))) ?_
 refine Was (.int .u64 m) ?_
 refine Wl_nil ?_
 refine W_ret ?_
 refine ret_end (v := .tuple #[.int .u64 ((0 + 0) + 0), .int .u64 m]) rfl (res2 results159 rfl rfl) ?_
 exact ⟨_, rfl, (vtup2 (by first | rfl | exact vint (by omega)) rfl), HU⟩
theorem mul_1 {m : Int} (w : World) (hm : 0 ≤ m ∧ m < 4294967296) :
  Calls Tryz.prog 157 #[.int .u64 1, .int .u64 m] w (Ret fun v w' => v = .tuple #[.int .u64 0, .int .u64 m] ∧ Upd No w w') := by
 have HU := Upd.rno w
 refine calls_of_W func157 rfl ntmps157 (by simp) ?_
 refine W_seq (W_region ?_)
 refine Was (.int .u64 0) ?_
 refine Was (.int .u64 0) ?_
 refine Wl_nil (W_seq ?_)
 refine W_cond_f rfl ?_
 refine W_skip (W_seq (W_region ?_))
 refine Wmv (.int .u64 1) ?_
 refine Wmv (.int .u64 m) ?_
 refine Wl_call (r_call2 rfl call159 rfl rfl) (mul64_1 _ (by omega)) ?_
 rintro v w1 ⟨rfl, hU1⟩
 have hzw1 := hU1.size
 replace HU := HU.trans0 hU1
 refine Wmv (.tuple #[.int .u64 0, .int .u64 m]) ?_
 refine Wl_v (r_ext (v := .int .u64 0) rfl rfl) ?_
 refine Wl_v (r_ext (v := .int .u64 m) rfl rfl) ?_
 refine Was (.int .u64 0) ?_
 refine Was (.int .u64 m) ?_
 refine Wl_nil (W_seq (W_region ?_))
 refine Wmv (.int .u64 0) ?_
 refine Wmv (.int .u64 m) ?_
 refine Was (.int .u64 0) ?_
 refine Was (.int .u64 m) ?_
 refine Wl_nil ?_
 refine W_ret ?_
 refine ret_end (v := .tuple #[.int .u64 0, .int .u64 m]) rfl (res2 results157 rfl rfl) ?_
 exact ⟨_, rfl, rfl, HU⟩
theorem repeat1 {a : Option Addr} {c : Nat} {x : Int × Int} {m : Int} (w : World) (hs : Sl w (fun g => g < w.heap.size) 2 (.slice a 1 c) 1 (rows encE [x])) (hm : 1 ≤ m ∧ m ≤ 2048) :
  Calls Tryz.prog 156 #[.slice a 1 c, .int .i64 m] w (Ret fun v w' => ∃ (a' : Option Addr) (c' : Nat), v = .slice a' ((m).toNat) c' ∧ Own w' (fun g => w.heap.size ≤ g) 201 2 (.slice a' ((m).toNat) c') ((m).toNat) (rows encE (List.replicate (m).toNat x)) ∧ Upd No w w') := by
 have HU := Upd.rno w
 have hl_hs := rlen encE_len (by decide) hs
 have hc_hs := hs.cap.1
 refine calls_of_W func156 rfl ntmps156 (by simp) ?_
 refine W_seq (W_region ?_)
 refine Was (.slice none 0 0) ?_
 refine Wl_nil (W_seq (W_seq (W_region ?_)))
 refine Wmv (.int .i64 m) ?_
 refine Wl_v (r_lt rfl rfl) ?_
 refine Wl_nil ?_
 have q1 : ¬ (m < 0) := (by omega)
 rw [decide_eq_false q1]
 refine W_cond_f rfl ?_
 refine W_skip (W_seq (W_region ?_))
 refine Wmv (.slice a 1 c) ?_
 refine Wl_v (r_len underlying191 rfl) ?_
 refine Wl_v (r_cvt underlying3 underlying111 rfl (wu64 (by omega) (by omega))) ?_
 refine Wmv (.int .i64 m) ?_
 refine Wl_v (r_cvt underlying3 underlying111 rfl (wu64 (by omega) (by omega))) ?_
 refine Wl_call (r_call2 rfl call157 rfl rfl) (mul_1 _ (by omega)) ?_
 rintro v w1 ⟨rfl, hU1⟩
 have hzw1 := hU1.size
 replace hs := hs.upd0 hU1
 replace HU := HU.trans0 hU1
 refine Wmv (.tuple #[.int .u64 0, .int .u64 m]) ?_
 refine Wl_v (r_ext (v := .int .u64 0) rfl rfl) ?_
 refine Wl_v (r_ext (v := .int .u64 m) rfl rfl) ?_
 refine Was (.int .u64 0) ?_
 refine Was (.int .u64 m) ?_
 refine Wl_nil (W_seq (W_seq (W_region ?_)))
 refine Wmv (.int .u64 0) ?_
 refine Wl_v (v := .bool false) (r_gt (a := 0) (b := 0) rfl rfl) ?_
 refine Wmv (.bool false) ?_
 refine Wl_guard_t rfl ?_
 refine Wmv (.int .u64 m) ?_
 refine Wl_guard_t rfl ?_
 refine Wl_v (r_gt rfl rfl) ?_
 refine Wl_v (r_pick_f (v := .bool (decide (9223372036854775807 < m))) rfl rfl) ?_
 refine Wl_nil ?_
 have q2 : ¬ (9223372036854775807 < m) := (by omega)
 rw [decide_eq_false q2]
 refine W_cond_f rfl ?_
 refine W_skip (W_seq (W_region ?_))
 refine Wmv (.int .u64 m) ?_
 refine Wl_v (r_cvt underlying111 underlying3 rfl (wi64 (by omega) (by omega))) ?_
 refine Wl_makeo (c' := (m).toNat) (zc := [.int .i64 0, .int .i64 0]) (cs := rows encE (List.replicate ((m).toNat) (0, 0))) (sz := 2) underlying191 (ti := Tryz.t201) (z := .agg #[.int .i64 0, .int .i64 0]) rfl rfl rfl rfl (by decide) rfl rfl (by omega) (by omega) (by show 16 * _ ≤ _; omega) (by simp only [maxLen]; omega) (rows_rep (enc := encE) (0, 0) _) rfl ?_
 intro B2 w2 hB2 hU2 hzz2 hO2
 have hzw2 := hU2.size
 replace hs := hs.upd0 hU2
 replace HU := HU.trans0 hU2
 have hl_hO2 := rlen encE_len (by decide) hO2.sl
 have hc_hO2 := hO2.sl.cap.1
 refine Was (.slice (some ⟨B2, 0, none⟩) ((m).toNat) ((m).toNat)) ?_
 refine Wl_nil (W_seq (W_region ?_))
 refine Wmv (.slice (some ⟨B2, 0, none⟩) ((m).toNat) ((m).toNat)) ?_
 refine Wmv (.slice a 1 c) ?_
 refine Wl_copyr (o := 0) encE_len (by decide) encE_one underlying191 rfl rfl rfl hO2 hs (by omega) (by omega) ?_
 intro w3 hU3 hzz3 hO3
 clear hO2
 have hzw3 := hU3.size
 replace HU := HU.t1 hU3 (by omega)
 replace hO3 := hO3.rcong (rep_first (by omega))
 have hl_hO3 := rlen encE_len (by decide) hO3.sl
 have hc_hO3 := hO3.sl.cap.1
 refine Was (.int .i64 ((min 1 ((m).toNat) : Nat) : Int)) ?_
 refine Wl_nil (W_seq (W_block ?_))
 refine W_loop (fun mu ρ ds w' => ∃ (k : Nat), (m).toNat - k = mu ∧ ds = [] ∧ Liv ρ [(7, .slice (some ⟨B2, 0, none⟩) ((m).toNat) ((m).toNat)), (8, .int .i64 ((k : Nat) : Int))] ∧ 1 ≤ k ∧ k ≤ (m).toNat ∧ Own w' (fun g => g = B2) 201 2 (.slice (some ⟨B2, 0, none⟩) ((m).toNat) ((m).toNat)) ((m).toNat) (rows encE (List.replicate k x ++ List.replicate ((m).toNat - k) (0, 0))) ∧ Upd (Is B2) w3 w') _ ⟨1, rfl, rfl, ⟨rfl, (Eq.trans (b := .int .i64 ((min 1 ((m).toNat) : Nat) : Int)) rfl (vint (by omega))), trivial⟩, (by omega), (by omega), hO3, Upd.refl _ _⟩ ?_
 rintro m4 ρ4 ds4 w4 ⟨k, rfl, rfl, hl4, hk1, hk, hO3, hU4⟩
 obtain ⟨ρ4x, rfl⟩ : ∃ ρx, ρ4 = upds ρx [(7, .slice (some ⟨B2, 0, none⟩) ((m).toNat) ((m).toNat)), (8, .int .i64 ((k : Nat) : Int))] := ⟨_, upds_self hl4⟩
 clear hl4
 have hzw4 := hU4.size
 replace HU := HU.t1 hU4 (by omega)
 have HL4 := hU4
 refine W_seq (W_seq (W_region ?_))
 refine Wmv (.int .i64 ((k : Nat) : Int)) ?_
 refine Wmv (.slice (some ⟨B2, 0, none⟩) ((m).toNat) ((m).toNat)) ?_
 refine Wl_v (r_len underlying191 rfl) ?_
 refine Wl_v (r_lt rfl rfl) ?_
 refine Wl_nil ?_
 by_cases q3 : ((k : Nat) : Int) < (((m).toNat : Nat) : Int)
 ·rw [decide_eq_true q3]
  refine W_cond_t rfl ?_
  refine W_skip (W_block ?_)
  refine W_drawS (T := fun g => g = B2) rfl (l0 := tf 0 10) (by kernel_rfl) ?_
  refine WtS_take (i := 0) (listed' := tf 1 10) (Upd.refl _ _) (by kernel_rfl) rfl (by kernel_rfl) (by kernel_rfl) (by kernel_rfl) (by kernel_rfl) (YS_v (v := .int .i64 ((k : Nat) : Int)) rfl (fun w' hw' => r_mv (v := .int .i64 ((k : Nat) : Int)) rfl)) ?_
  refine WtS_take (i := 1) (listed' := tf 2 10) (Upd.refl _ _) (by kernel_rfl) rfl (by kernel_rfl) (by kernel_rfl) (by kernel_rfl) (by kernel_rfl) (YS_v (v := .slice (some ⟨B2, 0, none⟩) ((m).toNat) ((m).toNat)) rfl (fun w' hw' => r_mv (v := .slice (some ⟨B2, 0, none⟩) ((m).toNat) ((m).toNat)) rfl)) ?_
  refine WtS_take (i := 2) (listed' := tf 3 10) (Upd.refl _ _) (by kernel_rfl) rfl (by kernel_rfl) (by kernel_rfl) (by kernel_rfl) (by kernel_rfl) (YS_v (v := .int .i64 ((k : Nat) : Int)) rfl (fun w' hw' => r_mv (v := .int .i64 ((k : Nat) : Int)) rfl)) ?_
  refine WtS_take (i := 3) (listed' := tf 4 10) (Upd.refl _ _) (by kernel_rfl) rfl (by kernel_rfl) (by kernel_rfl) (by kernel_rfl) (by kernel_rfl) (YS_v (v := .slice (some ⟨B2, k * 2, none⟩) (((m).toNat) - k) (((m).toNat) - k)) rfl (fun w' hw' => r_slicelt (l' := k) underlying191 sizeOf201 rfl rfl rfl (by omega) (by omega))) ?_
  refine WtS_take (i := 4) (listed' := tf 5 10) (Upd.refl _ _) (by kernel_rfl) rfl (by kernel_rfl) (by kernel_rfl) (by kernel_rfl) (by kernel_rfl) (YS_v (v := .slice (some ⟨B2, 0, none⟩) ((m).toNat) ((m).toNat)) rfl (fun w' hw' => r_mv (v := .slice (some ⟨B2, 0, none⟩) ((m).toNat) ((m).toNat)) rfl)) ?_
  refine WtS_take (i := 5) (listed' := tf 6 10) (Upd.refl _ _) (by kernel_rfl) rfl (by kernel_rfl) (by kernel_rfl) (by kernel_rfl) (by kernel_rfl) (YS_v (v := .int .i64 ((k : Nat) : Int)) rfl (fun w' hw' => r_mv (v := .int .i64 ((k : Nat) : Int)) rfl)) ?_
  refine WtS_take (i := 6) (listed' := tf 7 10) (Upd.refl _ _) (by kernel_rfl) rfl (by kernel_rfl) (by kernel_rfl) (by kernel_rfl) (by kernel_rfl) (YS_v (v := .slice (some ⟨B2, 0, none⟩) k ((m).toNat)) rfl (fun w' hw' => r_slicehn (h' := k) underlying191 sizeOf201 rfl rfl (by omega) (by omega))) ?_
  intro w5 hU5
  have hzw5 := hU5.size
  replace hO3 := hO3.upd0 hU5
  replace HL4 := HL4.trans0 hU5
  refine Wa_one (i := 7) (listed' := tf 8 10) (by kernel_rfl) rfl (by kernel_rfl) ?_
  refine Ws_of_Wl ?_
  have hW : Upd (fun g => g = B2) w4 w4 := (Upd.refl _ _)
  replace hW := hW.trans0 hU5
  refine Wl_copyr (o := k) encE_len (by decide) encE_one underlying191 rfl rfl rfl hO3 (Sl.rhd encE_len hO3.sl (k := k) (by omega)) (by omega) (by omega) ?_
  intro w6 hU6 hzz6 hO6
  clear hO3
  have hzw6 := hU6.size
  replace HL4 := HL4.trans1 hU6 (by show (B2 = B2) ∨ w3.heap.size ≤ B2; omega)
  replace hW := hW.trans1 hU6 (by show (B2 = B2) ∨ w4.heap.size ≤ B2; omega)
  replace hO6 := hO6.rcong (rep_dbl (by omega))
  have hl_hO6 := rlen encE_len (by decide) hO6.sl
  have hc_hO6 := hO6.sl.cap.1
  refine Wl_nil ?_
  intro w7 hS7
  have hX7 : Upd _ w4 w7 := hW.trans0 hS7.upd
  refine ⟨fun _ => ⟨hX7, ?_⟩, fun h => absurd h (by rw [show barOp _ 7 = false from by kernel_rfl]; simp)⟩
  have hU7 := hS7.upd
  have hzw7 := hU7.size
  replace HL4 := HL4.trans0 hU7
  replace hO6 := hO6.upd0 hU7
  refine WtS_base ?_
  refine WtS_take (i := 8) (listed' := tf 9 10) hX7 (by kernel_rfl) rfl (by kernel_rfl) (by kernel_rfl) (by kernel_rfl) (by kernel_rfl) (YS_v (v := .int .i64 (((k : Nat) : Int) + ((min k (((m).toNat) - k) : Nat) : Int))) rfl (fun w' hw' => r_add rfl rfl (wi64 (by omega) (by omega)))) ?_
  refine WtS_take (i := 9) (listed' := tf 10 10) hX7 (by kernel_rfl) rfl (by kernel_rfl) (by kernel_rfl) (by kernel_rfl) (by kernel_rfl) (YS_v (v := .int .i64 (((k : Nat) : Int) + ((min k (((m).toNat) - k) : Nat) : Int))) rfl (fun w' hw' => r_as (v := .int .i64 (((k : Nat) : Int) + ((min k (((m).toNat) - k) : Nat) : Int))) rfl)) ?_
  intro w8 hU8
  have hzw8 := hU8.size
  replace HL4 := HL4.trans0 hU8
  replace hO6 := hO6.upd0 hU8
  refine Wa_done (by kernel_rfl) ?_
  refine ⟨_, ?_, (k + min k ((m).toNat - k)), rfl, rfl, ⟨rfl, (Eq.trans (b := .int .i64 (((k : Nat) : Int) + ((min k (((m).toNat) - k) : Nat) : Int))) rfl (vint (by omega))), trivial⟩, (by omega), (by omega), hO6, HL4⟩
  omega
 rw [decide_eq_false q3]
 refine W_cond_f rfl ?_
 refine W_exit ?_
 refine W_seq (W_region ?_)
 refine Wmv (.slice (some ⟨B2, 0, none⟩) ((m).toNat) ((m).toNat)) ?_
 refine Was (.slice (some ⟨B2, 0, none⟩) ((m).toNat) ((m).toNat)) ?_
 refine Wl_nil ?_
 refine W_ret ?_
 refine ret_end (v := .slice (some ⟨B2, 0, none⟩) ((m).toNat) ((m).toNat)) rfl (res1 results156 rfl) ?_
 exact ⟨_, rfl, (some ⟨B2, 0, none⟩), (m).toNat, rfl, (by have e : k = m.toNat := (by omega); subst e; simpa using hO3.weak (by intro g hg; have h3 : g = B2 := hg; show w.heap.size ≤ g; omega)), HU⟩
theorem refused_0 {a : Option Addr} {n c : Nat} {l : List Int} (w : World) (hs : Sl w (fun g => g < w.heap.size) 1 (.slice a n c) n (ints .i64 l)) (hn : n ≤ 1000) (hz : ∀ i, l.getD i 0 = 0) :
  Calls Tryz.prog 140 #[.slice a n c] w (Ret fun v w' => v = .int .i64 0 ∧ Upd No w w') := by
 have HU := Upd.rno w
 have hl_hs := ilen hs
 have hc_hs := hs.cap.1
 refine calls_of_W func140 rfl ntmps140 (by simp) ?_
 refine W_seq (W_region ?_)
 refine Was (.int .i64 0) ?_
 refine Wl_nil (W_seq (W_seq (W_region ?_)))
 refine Wmv (.slice a n c) ?_
 refine Wl_v (r_len underlying112 rfl) ?_
 refine Wmv (.int .i64 0) ?_
 refine Wl_nil (W_block ?_)
 refine W_loop (fun mu ρ ds w' => ∃ (k : Nat), n - k = mu ∧ ds = [] ∧ Liv ρ [(5, .slice a n c), (6, .int .i64 ((n : Nat) : Int)), (7, .int .i64 ((k : Nat) : Int))] ∧ k ≤ n ∧ Upd No w w') _ ⟨0, rfl, rfl, ⟨rfl, rfl, (by first | rfl | exact vint (by omega) | exact vint (by simp)), trivial⟩, (by omega), Upd.refl _ _⟩ ?_
 rintro m1 ρ1 ds1 w1 ⟨k, rfl, rfl, hl1, hk, hU1⟩
 obtain ⟨ρ1x, rfl⟩ : ∃ ρx, ρ1 = upds ρx [(5, .slice a n c), (6, .int .i64 ((n : Nat) : Int)), (7, .int .i64 ((k : Nat) : Int))] := ⟨_, upds_self hl1⟩
 clear hl1
 have hzw1 := hU1.size
 replace hs := hs.upd0 hU1
 replace HU := HU.trans0 hU1
 have HL1 := hU1
 refine W_seq (W_region ?_)
 refine Wl_v (r_lt rfl rfl) ?_
 refine Wl_nil (W_seq ?_)
 by_cases q1 : ((k : Nat) : Int) < ((n : Nat) : Int)
 ·rw [decide_eq_true q1]
  refine W_cond_t rfl ?_
  refine W_skip (W_seq (W_block (W_seq (W_region ?_))))
  refine Wl_idxi underlying112 sizeOf23 rfl rfl hs (by omega) (by omega) ?_
  intro ib2 io2 hc2
  rw [Int.toNat_natCast] at hc2
  refine Wl_loadc isAgg23 rfl hc2 ?_
  refine Was (.int .i64 (l.getD k 0)) ?_
  refine Wl_nil (W_seq (W_region ?_))
  refine Wmv (.int .i64 (l.getD k 0)) ?_
  refine Wl_v (r_ne rfl rfl) ?_
  refine Wl_nil ?_
  have q2 : ¬ ((l.getD k 0) ≠ 0) := (by rw [hz]; decide)
  rw [decide_eq_false q2]
  refine W_cond_f rfl ?_
  refine W_skip (W_region ?_)
  refine Wl_v (r_add rfl rfl (wi64 (by omega) (by omega))) ?_
  refine Wmv (.int .i64 (((k : Nat) : Int) + 1)) ?_
  refine Wl_nil ?_
  refine ⟨_, ?_, (k + 1), rfl, rfl, ⟨rfl, rfl, (by first | rfl | exact vint (by omega) | exact vint (by simp)), trivial⟩, (by omega), HL1⟩
  omega
 rw [decide_eq_false q1]
 refine W_cond_f rfl ?_
 refine W_exit ?_
 refine W_seq (W_region ?_)
 refine Was (.int .i64 0) ?_
 refine Wl_nil ?_
 refine W_ret ?_
 refine ret_end (v := .int .i64 0) rfl (res1 results140 rfl) ?_
 exact ⟨_, rfl, rfl, HU⟩
theorem ent_clo {x : Int × Int} {Bn : Nat} {nb : Int} (w : World) (hb : Blk w Bn [.int .i64 nb]) (hr : 0 ≤ nb - x.2 ∧ nb - x.2 ≤ 11 ∧ -100 ≤ x.2 ∧ x.2 ≤ 100) :
  Calls Tryz.prog 150 #[.agg #[.int .i64 x.1, .int .i64 x.2], .pointer (some ⟨Bn, 0, none⟩)] w (Ret fun v w' => v = .tuple #[.int .i64 ((2 ^ (nb - x.2).toNat : Nat) : Int), .agg #[.int .i64 x.1, .int .i64 x.2]] ∧ Upd No w w') := by
 have HU := Upd.rno w
 have hbl_hb := hb.lt
 refine calls_of_W func150 rfl ntmps150 (by simp) ?_
 refine W_seq (W_region ?_)
 refine Wl_box (v := .agg #[.int .i64 x.1, .int .i64 x.2]) (cs := [.int .i64 x.1, .int .i64 x.2]) rfl rfl ?_
 intro B1 w1 hB1 hU1 hzz1 hb1
 have hzw1 := hU1.size
 replace hb := hb.upd0 hU1
 replace HU := HU.trans0 hU1
 refine Was (.int .i64 0) ?_
 refine Wl_alloc (cs := [.int .i64 0, .int .i64 0]) zeroValue201 rfl ?_
 intro B2 w2 hB2 hU2 hzz2 hb2
 have hzw2 := hU2.size
 replace hb := hb.upd0 hU2
 replace HU := HU.trans0 hU2
 replace hb1 := hb1.upd0 hU2
 refine Wl_nil (W_seq ?_)
 refine W_drawt rfl (l0 := tf 0 8) (by kernel_rfl) ?_
 refine Tk 0 (tf 1 8) rfl (YI_v (v := .int .i64 nb) rfl (fun w' hw' => r_load isAgg3 rfl (by rw [(hb.upd0 hw').cell]; rfl))) ?_
 refine Tk 1 (tf 2 8) rfl (YI_v (v := .pointer (some ⟨B1, 1, none⟩)) rfl (fun w' hw' => r_fld underlying201 rfl sizeOf3 rfl rfl)) ?_
 refine Tk 2 (tf 3 8) rfl (YI_v (v := .int .i64 x.2) rfl (fun w' hw' => r_load isAgg3 rfl (by rw [(hb1.upd0 hw').cell]; rfl))) ?_
 refine Tk 3 (tf 4 8) rfl (YI_v (v := .int .i64 (nb - x.2)) rfl (fun w' hw' => r_sub rfl rfl (wi64 (by omega) (by omega)))) ?_
 refine Tk 4 (tf 5 8) rfl (YI_v (v := .int .i64 ((2 ^ (nb - x.2).toNat : Nat) : Int)) rfl (fun w' hw' => r_shl rfl rfl (by omega) (shlT (by omega) (by omega)))) ?_
 refine Tk 5 (tf 6 8) rfl (YI_v (v := .agg #[.int .i64 x.1, .int .i64 x.2]) rfl (fun w' hw' => r_loada (b := B1) (off := 0) (cs := [.int .i64 x.1, .int .i64 x.2]) isAgg201 sizeOf201 rfl rfl (fun j hj => by rw [(hb1.upd0 hw').cell]; match j, hj with | 0, _ => rfl | 1, _ => rfl))) ?_
 refine Tk 6 (tf 7 8) rfl (YI_v (v := .int .i64 ((2 ^ (nb - x.2).toNat : Nat) : Int)) rfl (fun w' hw' => r_as (v := .int .i64 ((2 ^ (nb - x.2).toNat : Nat) : Int)) rfl)) ?_
 intro w3 hU3
 have hzw3 := hU3.size
 replace HU := HU.trans0 hU3
 replace hb2 := hb2.upd0 hU3
 refine Wa_one (i := 7) (listed' := tf 8 8) (by kernel_rfl) rfl (by kernel_rfl) ?_
 refine Ws_of_Wl ?_
 have hW : Upd No w2 w3 := hU3
 refine Wl_storea (off := 0) (vs := [.int .i64 x.1, .int .i64 x.2]) (cs' := [.int .i64 x.1, .int .i64 x.2]) sizeOf201 rfl rfl rfl (by simp only [List.mem_cons, List.not_mem_nil, or_false, forall_eq_or_imp, forall_eq]; exact ⟨rfl, rfl⟩) hb2 (by simp) rfl ?_
 intro w4 hU4 hzz4 hb2n
 replace hb2 := hb2n; clear hb2n
 have hzw4 := hU4.size
 replace HU := HU.t1 hU4 (by omega)
 refine Wl_nil ?_
 intro w5 hS5
 refine ⟨fun h => absurd h (by rw [show barOp _ 7 = true from by kernel_rfl]; simp), fun _ => ⟨Upd No w5, ?_⟩⟩
 have hU5 := hS5.upd
 have hzw5 := hU5.size
 replace HU := HU.trans0 hU5
 replace hb2 := hb2.upd0 hU5
 try replace hW := hW.trans0 hU5
 refine Wa_done (by kernel_rfl) ?_
 refine W_ret ?_
 refine ret_end (v := .tuple #[.int .i64 ((2 ^ (nb - x.2).toNat : Nat) : Int), .agg #[.int .i64 x.1, .int .i64 x.2]]) rfl (rm_tc results150 rfl rfl (cellAgg isAgg201 sizeOf201 rfl hb2)) ?_
 exact ⟨_, rfl, rfl, HU⟩
theorem fl_take {nb : Int} {xs : List (Int × Int)} {k : Nat} (h : k < xs.length) : fl nb (xs.take (k + 1)) = fl nb (xs.take k) ++ List.replicate (2 ^ (nb - (xs.getD k (0, 0)).2).toNat) (xs.getD k (0, 0)) := by
 rw [← fl_one, ← fl_app]
 congr 1
 rw [List.take_add_one, List.getElem?_eq_getElem h, List.getD_eq_getElem?_getD, List.getElem?_eq_getElem h]; rfl
theorem p2n_le {d : Int} (h1 : d ≤ 11) : 1 ≤ 2 ^ d.toNat ∧ 2 ^ d.toNat ≤ 2048 := by
 have h2 := p2_le11 (a := d.toNat) (by omega)
 have := p2_nat d.toNat
 omega
set_option maxHeartbeats 1000000 in
theorem filled_spec {a : Option Addr} {n c Bn : Nat} {xs : List (Int × Int)} {nb : Int} (w : World) (hs : Sl w (fun g => g < w.heap.size) 2 (.slice a n c) n (rows encE xs)) (hb : Blk w Bn [.int .i64 nb]) (hn : n ≤ 100000) (hx : ∀ k, 0 ≤ nb - (xs.getD k (0, 0)).2 ∧ nb - (xs.getD k (0, 0)).2 ≤ 11 ∧ -100 ≤ (xs.getD k (0, 0)).2 ∧ (xs.getD k (0, 0)).2 ≤ 100) :
  Calls Tryz.prog 149 #[.slice a n c, .func (.func 150) #[] #[.pointer (some ⟨Bn, 0, none⟩)]] w (Ret fun v w' => ∃ (a' : Option Addr) (c' : Nat), v = .slice a' ((fl nb xs).length) c' ∧ Own w' (fun g => w.heap.size ≤ g) 201 2 (.slice a' ((fl nb xs).length) c') ((fl nb xs).length) (rows encE (fl nb xs)) ∧ Upd No w w') := by
 have HU := Upd.rno w
 have hl_hs := rlen encE_len (by decide) hs
 have hc_hs := hs.cap.1
 have hbl_hb := hb.lt
 refine calls_of_W func149 rfl ntmps149 (by simp) ?_
 refine W_seq (W_region ?_)
 refine Was (.slice none 0 0) ?_
 refine Wl_nil (W_seq (W_seq (W_region ?_)))
 refine Wmv (.slice a n c) ?_
 refine Wl_v (r_len underlying191 rfl) ?_
 refine Wmv (.int .i64 0) ?_
 refine Wl_nil (W_block ?_)
 refine W_loop (fun mu ρ ds w' => ∃ (k : Nat) (a2 : Option Addr) (c2 : Nat), n - k = mu ∧ ds = [] ∧ Liv ρ [(1, .func (.func 150) #[] #[.pointer (some ⟨Bn, 0, none⟩)]), (4, .slice a2 ((fl nb (xs.take k)).length) c2), (9, .slice a n c), (10, .int .i64 ((n : Nat) : Int)), (11, .int .i64 ((k : Nat) : Int))] ∧ k ≤ n ∧ (fl nb (xs.take k)).length ≤ k * 2048 ∧ Own w' (fun g => w.heap.size ≤ g) 201 2 (.slice a2 ((fl nb (xs.take k)).length) c2) ((fl nb (xs.take k)).length) (rows encE (fl nb (xs.take k))) ∧ Upd (fun g => w.heap.size ≤ g) w w') _ ⟨0, none, 0, rfl, rfl, ⟨rfl, (Eq.trans (b := .slice none 0 0) rfl (by simp [fl])), rfl, rfl, (by first | rfl | exact vint (by omega) | exact vint (by simp)), trivial⟩, (by omega), (by simp [fl]), (by simpa [fl, rows] using Own.nil _ _ _ _), Upd.refl _ _⟩ ?_
 rintro m1 ρ1 ds1 w1 ⟨k, a2, c2, rfl, rfl, hl1, hk, hfl, hO, hU1⟩
 obtain ⟨ρ1x, rfl⟩ : ∃ ρx, ρ1 = upds ρx [(1, .func (.func 150) #[] #[.pointer (some ⟨Bn, 0, none⟩)]), (4, .slice a2 ((fl nb (xs.take k)).length) c2), (9, .slice a n c), (10, .int .i64 ((n : Nat) : Int)), (11, .int .i64 ((k : Nat) : Int))] := ⟨_, upds_self hl1⟩
 clear hl1
 have hzw1 := hU1.size
 replace hs := hs.upd hU1 (by intro x h1 h2; have h3 : x < w.heap.size := h1; have h4 : w.heap.size ≤ x := h2; omega)
 replace hb := hb.upd hU1 (by intro hx; have hx2 : w.heap.size ≤ Bn := hx; omega)
 replace HU := HU.trans hU1 (by intro x hx; have hx2 : w.heap.size ≤ x := hx; show (False) ∨ w.heap.size ≤ x; omega)
 have HL1 := hU1
 refine W_seq (W_region ?_)
 refine Wl_v (r_lt rfl rfl) ?_
 refine Wl_nil (W_seq ?_)
 by_cases q1 : ((k : Nat) : Int) < ((n : Nat) : Int)
 ·have hxk := hx k
  have hft := fl_take (nb := nb) (xs := xs) (k := k) (by omega)
  have hpn := p2n_le (d := nb - (xs.getD k (0, 0)).2) (by omega)
  replace hO := hO.tight
  rw [decide_eq_true q1]
  refine W_cond_t rfl ?_
  refine W_skip (W_seq (W_block (W_seq (W_region ?_))))
  refine Wl_idxr (0, 0) encE_len (by decide) underlying191 sizeOf201 rfl rfl hs (by omega) (by omega) ?_
  intro ib2 io2 hc2
  try rw [Int.toNat_natCast] at hc2
  refine Wl_v (r_loada (cs := [.int .i64 ((xs.getD k (0, 0)).1), .int .i64 ((xs.getD k (0, 0)).2)]) isAgg201 sizeOf201 rfl rfl hc2) ?_
  refine Wl_alloc (cs := [.int .i64 0, .int .i64 0]) zeroValue201 rfl ?_
  intro B3 w3 hB3 hU3 hzz3 hb3
  have hzw3 := hU3.size
  replace hb := hb.upd0 hU3
  replace hO := hO.upd0 hU3
  replace HL1 := HL1.trans0 hU3
  refine Wl_storea (off := 0) (vs := [.int .i64 ((xs.getD k (0, 0)).1), .int .i64 ((xs.getD k (0, 0)).2)]) (cs' := [.int .i64 ((xs.getD k (0, 0)).1), .int .i64 ((xs.getD k (0, 0)).2)]) sizeOf201 rfl rfl rfl (by simp only [List.mem_cons, List.not_mem_nil, or_false, forall_eq_or_imp, forall_eq]; exact ⟨rfl, rfl⟩) hb3 (by simp) rfl ?_
  intro w4 hU4 hzz4 hb3n
  replace hb3 := hb3n; clear hb3n
  have hzw4 := hU4.size
  replace hb := hb.upd1 hU4 (by omega)
  replace hO := hO.upd1 hU4 (show ¬ (((w.heap.size ≤ B3) ∧ B3 < w1.heap.size)) by omega)
  replace HL1 := HL1.trans1 hU4 (by show (w.heap.size ≤ B3) ∨ w.heap.size ≤ B3; omega)
  refine Wl_nil (W_seq (W_region ?_))
  refine Wmv (.func (.func 150) #[] #[.pointer (some ⟨Bn, 0, none⟩)]) ?_
  refine Wl_v (r_loada (b := B3) (off := 0) (cs := [.int .i64 ((xs.getD k (0, 0)).1), .int .i64 ((xs.getD k (0, 0)).2)]) isAgg201 sizeOf201 rfl rfl (fun j hj => by rw [hb3.cell]; match j, hj with | 0, _ => rfl | 1, _ => rfl)) ?_
  refine Wl_call (r_clos1 call150 rfl rfl (by first | (simp; done) | (simp; rfl))) (ent_clo (x := (xs.getD k (0, 0))) (nb := nb) _ hb (by omega)) ?_
  rintro v w5 ⟨rfl, hU5⟩
  have hzw5 := hU5.size
  replace hO := hO.upd0 hU5
  replace HL1 := HL1.trans0 hU5
  refine Wmv (.tuple #[.int .i64 ((2 ^ (nb - (xs.getD k (0, 0)).2).toNat : Nat) : Int), .agg #[.int .i64 ((xs.getD k (0, 0)).1), .int .i64 ((xs.getD k (0, 0)).2)]]) ?_
  refine Wl_v (r_ext (v := .int .i64 ((2 ^ (nb - (xs.getD k (0, 0)).2).toNat : Nat) : Int)) rfl rfl) ?_
  refine Wl_v (r_ext (v := .agg #[.int .i64 ((xs.getD k (0, 0)).1), .int .i64 ((xs.getD k (0, 0)).2)]) rfl rfl) ?_
  refine Wl_alloc (cs := [.int .i64 0, .int .i64 0]) zeroValue201 rfl ?_
  intro B6 w6 hB6 hU6 hzz6 hb6
  have hzw6 := hU6.size
  replace hO := hO.upd0 hU6
  replace HL1 := HL1.trans0 hU6
  refine Was (.int .i64 ((2 ^ (nb - (xs.getD k (0, 0)).2).toNat : Nat) : Int)) ?_
  refine Wl_storea (off := 0) (vs := [.int .i64 ((xs.getD k (0, 0)).1), .int .i64 ((xs.getD k (0, 0)).2)]) (cs' := [.int .i64 ((xs.getD k (0, 0)).1), .int .i64 ((xs.getD k (0, 0)).2)]) sizeOf201 rfl rfl rfl (by simp only [List.mem_cons, List.not_mem_nil, or_false, forall_eq_or_imp, forall_eq]; exact ⟨rfl, rfl⟩) hb6 (by simp) rfl ?_
  intro w7 hU7 hzz7 hb6n
  replace hb6 := hb6n; clear hb6n
  have hzw7 := hU7.size
  replace hO := hO.upd1 hU7 (show ¬ (((w.heap.size ≤ B6) ∧ B6 < w1.heap.size)) by omega)
  replace HL1 := HL1.trans1 hU7 (by show (w.heap.size ≤ B6) ∨ w.heap.size ≤ B6; omega)
  refine Wl_nil (W_region ?_)
  refine Wmv (.slice a2 ((fl nb (xs.take k)).length) c2) ?_
  refine Wl_v (r_loada (b := B6) (off := 0) (cs := [.int .i64 ((xs.getD k (0, 0)).1), .int .i64 ((xs.getD k (0, 0)).2)]) isAgg201 sizeOf201 rfl rfl (fun j hj => by rw [hb6.cell]; match j, hj with | 0, _ => rfl | 1, _ => rfl)) ?_
  refine Wl_lit (pv := [(0, .agg #[.int .i64 ((xs.getD k (0, 0)).1), .int .i64 ((xs.getD k (0, 0)).2)])]) (cs := [.int .i64 ((xs.getD k (0, 0)).1), .int .i64 ((xs.getD k (0, 0)).2)]) underlying191 sizeOf201 zeroValue201 (by decide) (by decide) (by simp only [List.map_toArray, List.map_cons, List.map_nil] <;> rfl) (by kernel_rfl) rfl (by decide) ?_
  intro B8 w8 hB8 hU8 hzz8 hs8
  have hzw8 := hU8.size
  replace hO := hO.upd0 hU8
  replace HL1 := HL1.trans0 hU8
  replace hs8 : Own w8 (Is B8) 201 2 (.slice (some ⟨B8, 0, none⟩) 1 1) 1 (rows encE [((xs.getD k (0, 0)).1, (xs.getD k (0, 0)).2)]) := hs8
  refine Wmv (.int .i64 ((2 ^ (nb - (xs.getD k (0, 0)).2).toNat : Nat) : Int)) ?_
  refine Wl_call (r_call2 rfl call156 rfl rfl) (repeat1 _ hs8.sl.any (by omega)) ?_
  rintro v w9 ⟨a9, c9, rfl, hO9, hU9⟩
  have hzw9 := hU9.size
  replace hO := hO.upd0 hU9
  replace HL1 := HL1.trans0 hU9
  replace hO9 := hO9.tight
  have hl_hO9 := rlen encE_len (by decide) hO9.sl
  have hc_hO9 := hO9.sl.cap.1
  refine Wl_appendc (cs3 := rows encE ((fl nb (xs.take k)) ++ (List.replicate (((2 ^ (nb - (xs.getD k (0, 0)).2).toNat : Nat) : Int)).toNat ((xs.getD k (0, 0)).1, (xs.getD k (0, 0)).2)))) (tot := (fl nb (xs.take k)).length + ((((2 ^ (nb - (xs.getD k (0, 0)).2).toNat : Nat) : Int)).toNat)) (by first | rfl | exact (rows_app _ _).symm | simp) underlying191 (ti := Tryz.t201) (z := .agg #[.int .i64 0, .int .i64 0]) (sz := 2) (by' := 16) rfl rfl rfl rfl rfl (by decide) rfl hO rfl hO9.sl (rows_one encE_one _) (by omega) (by simp only [maxLen]; omega) (by omega) ?_
  intro a10 c10 w10 hU10 hzz10 hO10
  clear hO
  have hzw10 := hU10.size
  replace HL1 := HL1.trans hU10 (by intro x hx; have hx2 : ((w.heap.size ≤ x) ∧ x < w1.heap.size) := hx; show (w.heap.size ≤ x) ∨ w.heap.size ≤ x; omega)
  replace hO10 := hO10.tight
  have hl_hO10 := rlen encE_len (by decide) hO10.sl
  have hc_hO10 := hO10.sl.cap.1
  refine Was (.slice a10 ((fl nb (xs.take k)).length + ((((2 ^ (nb - (xs.getD k (0, 0)).2).toNat : Nat) : Int)).toNat)) c10) ?_
  refine Wl_nil (W_region ?_)
  refine Wl_v (r_add rfl rfl (wi64 (by omega) (by omega))) ?_
  refine Wmv (.int .i64 (((k : Nat) : Int) + 1)) ?_
  refine Wl_nil ?_
  refine ⟨_, ?_, (k + 1), a10, c10, rfl, rfl, ⟨rfl, (Eq.trans (b := .slice a10 ((fl nb (xs.take k)).length + ((((2 ^ (nb - (xs.getD k (0, 0)).2).toNat : Nat) : Int)).toNat)) c10) rfl (by rw [hft, List.length_append, List.length_replicate]; first | done | rfl)), rfl, rfl, (Eq.trans (b := .int .i64 (((k : Nat) : Int) + 1)) rfl (vint (by omega))), trivial⟩, (by omega), (by rw [hft, List.length_append, List.length_replicate]; omega), (by rw [hft, List.length_append, List.length_replicate]; exact (hO10.weak (by intro g hg; have h3 : ((((((w.heap.size ≤ g) ∧ g < w1.heap.size)) ∨ g = w9.heap.size)) ∧ g < w10.heap.size) := hg; show w.heap.size ≤ g; omega))), HL1⟩
  omega
 rw [decide_eq_false q1]
 refine W_cond_f rfl ?_
 refine W_exit ?_
 refine W_seq (W_region ?_)
 refine Wmv (.slice a2 ((fl nb (xs.take k)).length) c2) ?_
 refine Was (.slice a2 ((fl nb (xs.take k)).length) c2) ?_
 refine Wl_nil ?_
 refine W_ret ?_
 refine ret_end (v := .slice a2 ((fl nb (xs.take k)).length) c2) rfl (res1 results149 rfl) ?_
 have hke : xs.take k = xs := List.take_of_length_le (by omega)
 rw [hke] at hO
 exact ⟨_, rfl, a2, c2, (by rw [hke]), hO.weak (by intro g hg; have h3 : w.heap.size ≤ g := hg; show w.heap.size ≤ g; omega), HU⟩
theorem os_take {l : List Int} {k : Nat} (hk : k < (ord l).length) : (os l).take (k + 1) = (os l).take k ++ [((ord l).getD k 0, ((cds l).getD ((ord l).getD k 0).toNat (0, 0)).1)] := by
 have e : (ord l).getD k 0 = (ord l)[k] := by rw [List.getD_eq_getElem?_getD, List.getElem?_eq_getElem hk]; rfl
 rw [e, List.take_add_one, List.getElem?_eq_getElem (by rw [os_len]; exact hk)]
 congr 1
 simp only [os, List.getElem_map, Option.toList_some]
theorem os_rng {l : List Int} (hr : Rt l) (k : Nat) : 0 ≤ mx l - ((os l).getD k (0, 0)).2 ∧ mx l - ((os l).getD k (0, 0)).2 ≤ 11 ∧ -100 ≤ ((os l).getD k (0, 0)).2 ∧ ((os l).getD k (0, 0)).2 ≤ 100 := by
 have h1 := bt_bd hr
 rw [mx_bt]
 by_cases hk : k < (ord l).length
 ·obtain ⟨j, hj, hjl, h2, h3⟩ := ord_at hk
  have h4 := bt_ge (l := l) j
  have e : ((os l).getD k (0, 0)).2 = l.getD j 0 := by
   have h5 : (ord l)[k] = (j : Int) := by rw [List.getD_eq_getElem?_getD, List.getElem?_eq_getElem hk] at hj; exact hj
   rw [List.getD_eq_getElem?_getD, List.getElem?_eq_getElem (by rw [os_len]; exact hk)]
   simp only [os, List.getElem_map, Option.getD_some, h5, Int.toNat_natCast]
   rw [cds_get hjl, cd_fst hr.1]
  rw [e]; omega
 rw [List.getD_eq_getElem?_getD, List.getElem?_eq_none (by rw [os_len]; omega)]
 simp only [Option.getD_none]; omega
theorem fl_mx {l : List Int} (hr : Rt l) : fl (mx l) (os l) = tbl l := by rw [mx_bt]; exact fl_tbl hr
theorem os_all (l : List Int) {m : Nat} (h : (ord l).length = m) : (os l).take m = os l := List.take_of_length_le (by rw [os_len]; omega)
theorem z2 : ∀ i, ([0] : List Int).getD i 0 = 0 := fun i => by rcases i with _ | i <;> simp
theorem z3 : ∀ i, ([0, 0] : List Int).getD i 0 = 0 := fun i => by rcases i with _ | _ | i <;> simp
set_option maxHeartbeats 2000000 in
theorem entries_ok {a : Option Addr} {n c : Nat} {l : List Int} {R : Nat → Prop} (w : World) (hs : Sl w R 1 (.slice a n c) n (ints .i64 l)) (hn : n ≤ 17592186044415) (hr : Rt l) :
  Calls Tryz.prog 138 #[.slice a n c] w (Ret fun v w' => ∃ (a' : Option Addr) (c' : Nat), v = .tuple #[.slice a' (2 ^ bt l) c', .int .i64 0] ∧ Own w' (fun g => w.heap.size ≤ g) 201 2 (.slice a' (2 ^ bt l) c') (2 ^ bt l) (rows encE (tbl l)) ∧ Upd No w w') := by
 have HU := Upd.rno w
 have hl_hs := ilen hs
 have hc_hs := hs.cap.1
 replace hs := hs.tight
 have h256 := hr.2.1
 have hbt := bt_bd hr
 refine calls_of_W func138 rfl ntmps138 (by simp) ?_
 refine W_seq (W_region ?_)
 refine Was (.slice none 0 0) ?_
 refine Was (.int .i64 0) ?_
 refine Wl_nil ?_
 refine W_scopeg 0 rfl ?_
 refine W_seq (W_region ?_)
 refine Wl_alloc (cs := [.slice none 0 0]) zeroValue191 rfl ?_
 intro B1 w1 hB1 hU1 hzz1 hb1
 have hzw1 := hU1.size
 replace hs := hs.upd0 hU1
 replace HU := HU.trans0 hU1
 refine Wl_nil (W_seq (W_region ?_))
 refine Wmv (.slice a n c) ?_
 refine Wl_call (r_call1 rfl call139 rfl) (mlen_ok _ hs (by omega) (by omega)) ?_
 rintro v w2 ⟨rfl, hU2⟩
 have hzw2 := hU2.size
 replace hs := hs.upd0 hU2
 replace HU := HU.trans0 hU2
 replace hb1 := hb1.upd0 hU2
 refine Wmv (.tuple #[.int .i64 (mx l), .int .i64 0]) ?_
 refine Wl_v (r_ext (v := .int .i64 (mx l)) rfl rfl) ?_
 refine Wl_v (r_ext (v := .int .i64 0) rfl rfl) ?_
 refine Wl_alloc (cs := [.int .i64 0]) zeroValue3 rfl ?_
 intro B3 w3 hB3 hU3 hzz3 hb3
 have hzw3 := hU3.size
 replace hs := hs.upd0 hU3
 replace HU := HU.trans0 hU3
 replace hb1 := hb1.upd0 hU3
 refine Wl_store (v := .int .i64 (mx l)) (cs' := [.int .i64 (mx l)]) sizeOf3 rfl rfl rfl rfl hb3 rfl rfl ?_
 intro w4 hU4 hzz4 hb3n
 replace hb3 := hb3n; clear hb3n
 have hzw4 := hU4.size
 replace hs := hs.upd1 hU4 (show ¬ (((R B3) ∧ B3 < w.heap.size)) by omega)
 replace HU := HU.t1 hU4 (by omega)
 replace hb1 := hb1.upd1 hU4 (by omega)
 refine Was (.int .i64 0) ?_
 refine Wl_nil (W_seq (W_seq (W_region ?_)))
 refine Wmv (.int .i64 0) ?_
 refine Wl_lit (pv := [(0, .int .i64 0)]) (cs := [.int .i64 0]) underlying112 sizeOf23 zeroValue23 (by decide) (by decide) (by simp only [List.map_toArray, List.map_cons, List.map_nil] <;> rfl) (by kernel_rfl) rfl (by decide) ?_
 intro B5 w5 hB5 hU5 hzz5 hs5
 have hzw5 := hU5.size
 replace hs := hs.upd0 hU5
 replace HU := HU.trans0 hU5
 replace hb1 := hb1.upd0 hU5
 replace hb3 := hb3.upd0 hU5
 replace hs5 : Own w5 (Is B5) 23 1 (.slice (some ⟨B5, 0, none⟩) 1 1) 1 (ints .i64 [0]) := hs5
 refine Wl_call (r_call1 rfl call140 rfl) (refused_0 _ hs5.sl.any (by omega) z2) ?_
 rintro v w6 ⟨rfl, hU6⟩
 have hzw6 := hU6.size
 replace hs := hs.upd0 hU6
 replace HU := HU.trans0 hU6
 replace hb1 := hb1.upd0 hU6
 replace hb3 := hb3.upd0 hU6
 replace hs5 := hs5.upd0 hU6
 refine Wl_v (v := .bool false) (r_ne (a := 0) (b := 0) rfl rfl) ?_
 refine Wl_nil ?_
 refine W_cond_f rfl ?_
 refine W_skip (W_seq (W_seq (W_region ?_)))
 refine Wmv (.slice a n c) ?_
 refine Wl_call (r_call1 rfl call148 rfl) (all_spec _ hs (by omega)) ?_
 rintro v w7 ⟨Bo7, Bc7, a7, m7, c7, b7, n7, d7, rfl, hBo7, hBc7, hO7, hC7, hb1_7, hb2_7, hU7⟩
 have hzw7 := hU7.size
 replace HU := HU.trans0 hU7
 replace hb1 := hb1.upd0 hU7
 replace hb3 := hb3.upd0 hU7
 replace hs5 := hs5.upd0 hU7
 have hbl_hBo7 := hBo7.lt
 have hbl_hBc7 := hBc7.lt
 replace hO7 := hO7.tight
 have hl_hO7 := ilen hO7.sl
 have hc_hO7 := hO7.sl.cap.1
 replace hC7 := hC7.tight
 have hl_hC7 := rlen encC_len (by decide) hC7.sl
 have hc_hC7 := hC7.sl.cap.1
 replace hO7 := hO7.icong (show ordR l = ord l from if_pos hr)
 replace hC7 := hC7.rcong (show cdsR l = cds l from if_pos hr)
 have hlo := ilen hO7.sl
 have hlc := rlen encC_len (by decide) hC7.sl
 have hol := ord_len l
 rw [cds_len] at hlc
 refine Wl_nil (W_block ?_)
 refine W_range (gf := 155) (ar := fun y => #[y, .pointer (some ⟨Bo7, 0, none⟩), .pointer (some ⟨Bc7, 0, none⟩)]) rfl call155 (fun y => by simp) ?_
 intro D8 fn8 w8 hD8 hU8 hzz8 hdf8 hrc80
 have hzw8 := hU8.size
 replace HU := HU.trans0 hU8
 replace hb1 := hb1.upd0 hU8
 replace hb3 := hb3.upd0 hU8
 replace hs5 := hs5.upd0 hU8
 replace hBo7 := hBo7.upd0 hU8
 replace hBc7 := hBc7.upd0 hU8
 replace hO7 := hO7.upd0 hU8
 replace hC7 := hC7.upd0 hU8
 obtain ⟨r8, hr8, hrc8⟩ : ∃ r, r = _ ∧ Rec w8 (D8 + 1) r := ⟨_, rfl, hrc80⟩
 clear hrc80
 obtain ⟨J8, hJ8⟩ : ∃ J : Nat → World → Prop, ∀ i w', J i w' ↔ (∃ (ga : Option Addr) (gc : Nat), Rec w' (D8 + 1) r8 ∧ Dfr w' D8 ∧ Blk w' B1 [.slice ga i gc] ∧ Own w' (fun g => w8.heap.size ≤ g) 201 2 (.slice ga i gc) i (rows encE ((os l).take i)) ∧ Blk w' B3 [.int .i64 (mx l)] ∧ Own w' (fun g => g = B5) 23 1 (.slice (some ⟨B5, 0, none⟩) 1 1) 1 (ints .i64 [0]) ∧ Blk w' Bo7 [.slice a7 m7 c7] ∧ Blk w' Bc7 [.slice b7 n7 d7] ∧ Own w' (fun g => ((w6.heap.size ≤ g) ∧ g < w7.heap.size)) 3 1 (.slice a7 m7 c7) m7 (ints .i64 (ord l)) ∧ Own w' (fun g => ((w6.heap.size ≤ g) ∧ g < w7.heap.size)) 106 2 (.slice b7 n7 d7) n7 (rows encC (cds l)) ∧ Upd No w w') := ⟨_, fun _ _ => Iff.rfl⟩
 obtain ⟨Jx8, hJx8⟩ : ∃ Jx : World → Prop, ∀ w', Jx w' ↔ (False) := ⟨_, fun _ => Iff.rfl⟩
 refine (all1_spec (ly := (D8 + 1)) (J := J8) (Jx := Jx8) (Sb := (fun g => g = B1 ∨ g = D8 + 1 ∨ w8.heap.size ≤ g)) (R := fun g => ((w6.heap.size ≤ g) ∧ g < w7.heap.size)) (T := fun g => ((w6.heap.size ≤ g) ∧ g < w7.heap.size)) w8 hBo7 hO7.sl hBc7 hC7.sl (by omega) (by omega) (fun i hi => by obtain ⟨jx, e1, e2, _⟩ := ord_at (l := l) (i := i) (by omega); omega) (by intro g h1 h2; have h3 : ((w6.heap.size ≤ g) ∧ g < w7.heap.size) := h1; have h4 : g = B1 ∨ g = D8 + 1 ∨ w8.heap.size ≤ g := h2; omega) (by show ¬ (_ ∨ _ ∨ _); omega) (by intro g h1 h2; have h3 : ((w6.heap.size ≤ g) ∧ g < w7.heap.size) := h1; have h4 : g = B1 ∨ g = D8 + 1 ∨ w8.heap.size ≤ g := h2; omega) ?_ ?_).mono ?_
 ·exact (hJ8 _ _).2 ⟨none, 0, hrc8, hdf8, hb1, (by simpa [rows] using Own.nil _ _ _ _), hb3, hs5, hBo7, hBc7, hO7, hC7, HU⟩
 ·intro i9 w9 hi9 hh
  obtain ⟨ga, gc, hrc8, hdf8, hb1, hOs, hb3, hs5, hBo7, hBc7, hO7, hC7, HU⟩ := (hJ8 _ _).1 hh
  have hrl8 := hrc8.lt
  replace hOs := hOs.tight
  obtain ⟨jx, hjx, hjn, _⟩ := ord_at (l := l) (i := i9) (by omega)
  have hot := os_take (l := l) (k := i9) (by omega)
  have hcb := cds_bd hr ((ord l).getD i9 0).toNat
  have HB8 : Upd (fun g => g = B1 ∨ g = D8 + 1 ∨ w8.heap.size ≤ g) w9 w9 := Upd.refl _ _
  refine yieldC_of_W (R := fun b c w' => (b = true ∧ Upd (fun g => g = B1 ∨ g = D8 + 1 ∨ w8.heap.size ≤ g) w9 w' ∧ J8 (i9 + 1) w') ∨ (b = false ∧ Jx8 w')) hrc8 (by rw [hr8]; rfl) (by rw [hr8]; exact zip2 _ _ _ _ _ _) ?_ ?_
  ·rw [hr8]
   refine W_seq (W_region ?_)
   refine Was (.int .i64 ((ord l).getD i9 0)) ?_
   refine Wl_nil (W_region ?_)
   refine Wl_alloc (cs := [.int .i64 0, .int .u32 0]) zeroValue106 rfl ?_
   intro B10 w10 hB10 hU10 hzz10 hb10
   have hzw10 := hU10.size
   replace hrc8 := hrc8.upd0 hU10
   replace hdf8 := hdf8.upd0 hU10
   replace hb1 := hb1.upd0 hU10
   replace hOs := hOs.upd0 hU10
   replace hb3 := hb3.upd0 hU10
   replace hs5 := hs5.upd0 hU10
   replace hBo7 := hBo7.upd0 hU10
   replace hBc7 := hBc7.upd0 hU10
   replace hO7 := hO7.upd0 hU10
   replace hC7 := hC7.upd0 hU10
   replace HU := HU.trans0 hU10
   replace HB8 := HB8.trans0 hU10
   refine Wl_storea (off := 0) (vs := [.int .i64 (((cds l).getD ((ord l).getD i9 0).toNat (0, 0)).1), .int .u32 (((cds l).getD ((ord l).getD i9 0).toNat (0, 0)).2)]) (cs' := [.int .i64 (((cds l).getD ((ord l).getD i9 0).toNat (0, 0)).1), .int .u32 (((cds l).getD ((ord l).getD i9 0).toNat (0, 0)).2)]) sizeOf106 rfl rfl rfl (by simp only [List.mem_cons, List.not_mem_nil, or_false, forall_eq_or_imp, forall_eq]; exact ⟨rfl, rfl⟩) hb10 (by simp) rfl ?_
   intro w11 hU11 hzz11 hb10n
   replace hb10 := hb10n; clear hb10n
   have hzw11 := hU11.size
   replace hrc8 := hrc8.upd1 hU11 (by omega)
   replace hdf8 := hdf8.upd1 hU11 (by omega)
   replace hb1 := hb1.upd1 hU11 (by omega)
   replace hOs := hOs.upd1 hU11 (show ¬ (((w8.heap.size ≤ B10) ∧ B10 < w9.heap.size)) by omega)
   replace hb3 := hb3.upd1 hU11 (by omega)
   replace hs5 := hs5.upd1 hU11 (by intro h1; have h3 : B10 = B5 := h1; omega)
   replace hBo7 := hBo7.upd1 hU11 (by omega)
   replace hBc7 := hBc7.upd1 hU11 (by omega)
   replace hO7 := hO7.upd1 hU11 (show ¬ (((w6.heap.size ≤ B10) ∧ B10 < w7.heap.size)) by omega)
   replace hC7 := hC7.upd1 hU11 (show ¬ (((w6.heap.size ≤ B10) ∧ B10 < w7.heap.size)) by omega)
   replace HU := HU.t1 hU11 (by omega)
   replace HB8 := HB8.trans1 hU11 (by show (B10 = B1 ∨ B10 = D8 + 1 ∨ w8.heap.size ≤ B10) ∨ w9.heap.size ≤ B10; omega)
   refine Wl_nil ?_
   refine ⟨rfl, _, hrc8, (by rw [hr8]), ?_⟩
   intro w12 hU12 hzz12 hrc8b
   have hzw12 := hU12.size
   replace hdf8 := hdf8.upd1 hU12 (by omega)
   replace hb1 := hb1.upd1 hU12 (by omega)
   replace hOs := hOs.upd1 hU12 (show ¬ (((w8.heap.size ≤ (D8 + 1)) ∧ (D8 + 1) < w9.heap.size)) by omega)
   replace hb3 := hb3.upd1 hU12 (by omega)
   replace hs5 := hs5.upd1 hU12 (by intro h1; have h3 : (D8 + 1) = B5 := h1; omega)
   replace hBo7 := hBo7.upd1 hU12 (by omega)
   replace hBc7 := hBc7.upd1 hU12 (by omega)
   replace hO7 := hO7.upd1 hU12 (show ¬ (((w6.heap.size ≤ (D8 + 1)) ∧ (D8 + 1) < w7.heap.size)) by omega)
   replace hC7 := hC7.upd1 hU12 (show ¬ (((w6.heap.size ≤ (D8 + 1)) ∧ (D8 + 1) < w7.heap.size)) by omega)
   replace HU := HU.trans1 hU12 (by show (False) ∨ w.heap.size ≤ (D8 + 1); omega)
   replace HB8 := HB8.trans1 hU12 (by show ((D8 + 1) = B1 ∨ (D8 + 1) = D8 + 1 ∨ w8.heap.size ≤ (D8 + 1)) ∨ w9.heap.size ≤ (D8 + 1); omega)
   replace hb10 := hb10.upd1 hU12 (by omega)
   clear hrc8
   have hrc8 := hrc8b
   clear hrc8b
   refine W_block (W_region ?_)
   refine Wl_load (v := .slice ga i9 gc) isAgg191 rfl hb1 rfl ?_
   refine Wmv (.int .i64 ((ord l).getD i9 0)) ?_
   refine Wl_v (r_fld underlying106 rfl sizeOf3 rfl rfl) ?_
   refine Wl_load (v := .int .i64 (((cds l).getD ((ord l).getD i9 0).toNat (0, 0)).1)) isAgg3 rfl hb10 rfl ?_
   refine Wl_v (r_build (pl := #[(0, 1), (1, 1)]) (pv := [(0, .int .i64 ((ord l).getD i9 0)), (1, .int .i64 (((cds l).getD ((ord l).getD i9 0).toNat (0, 0)).1))]) (cs := #[.int .i64 ((ord l).getD i9 0), .int .i64 (((cds l).getD ((ord l).getD i9 0).toNat (0, 0)).1)]) zeroValue201 underlying201 (fun w => by kernel_rfl) (by simp only [List.map_toArray, List.map_cons, List.map_nil] <;> rfl) (by kernel_rfl)) ?_
   refine Wl_lit (pv := [(0, .agg #[.int .i64 ((ord l).getD i9 0), .int .i64 (((cds l).getD ((ord l).getD i9 0).toNat (0, 0)).1)])]) (cs := [.int .i64 ((ord l).getD i9 0), .int .i64 (((cds l).getD ((ord l).getD i9 0).toNat (0, 0)).1)]) underlying191 sizeOf201 zeroValue201 (by decide) (by decide) (by simp only [List.map_toArray, List.map_cons, List.map_nil] <;> rfl) (by kernel_rfl) rfl (by decide) ?_
   intro B13 w13 hB13 hU13 hzz13 hs13
   have hzw13 := hU13.size
   replace hrc8 := hrc8.upd0 hU13
   replace hdf8 := hdf8.upd0 hU13
   replace hb1 := hb1.upd0 hU13
   replace hOs := hOs.upd0 hU13
   replace hb3 := hb3.upd0 hU13
   replace hs5 := hs5.upd0 hU13
   replace hBo7 := hBo7.upd0 hU13
   replace hBc7 := hBc7.upd0 hU13
   replace hO7 := hO7.upd0 hU13
   replace hC7 := hC7.upd0 hU13
   replace HU := HU.trans0 hU13
   replace HB8 := HB8.trans0 hU13
   replace hs13 : Own w13 (Is B13) 201 2 (.slice (some ⟨B13, 0, none⟩) 1 1) 1 (rows encE [((ord l).getD i9 0, ((cds l).getD ((ord l).getD i9 0).toNat (0, 0)).1)]) := hs13
   refine Wl_appendc (cs3 := rows encE (((os l).take i9) ++ [((ord l).getD i9 0, ((cds l).getD ((ord l).getD i9 0).toNat (0, 0)).1)])) (tot := i9 + 1) (by first | rfl | exact (rows_app _ _).symm | simp) underlying191 (ti := Tryz.t201) (z := .agg #[.int .i64 0, .int .i64 0]) (sz := 2) (by' := 16) rfl rfl rfl rfl rfl (by decide) rfl hOs rfl hs13.sl (rows_one encE_one _) (by omega) (by simp only [maxLen]; omega) (by omega) ?_
   intro a14 c14 w14 hU14 hzz14 hO14
   clear hOs
   have hzw14 := hU14.size
   replace hrc8 := hrc8.upd hU14 (by intro hx; have hx2 : ((w8.heap.size ≤ (D8 + 1)) ∧ (D8 + 1) < w9.heap.size) := hx; omega)
   replace hdf8 := hdf8.upd hU14 (by intro hx; have hx2 : ((w8.heap.size ≤ D8) ∧ D8 < w9.heap.size) := hx; omega)
   replace hb1 := hb1.upd hU14 (by intro hx; have hx2 : ((w8.heap.size ≤ B1) ∧ B1 < w9.heap.size) := hx; omega)
   replace hb3 := hb3.upd hU14 (by intro hx; have hx2 : ((w8.heap.size ≤ B3) ∧ B3 < w9.heap.size) := hx; omega)
   replace hs5 := hs5.upd hU14 (by intro x h1 h2; have h3 : x = B5 := h1; have h4 : ((w8.heap.size ≤ x) ∧ x < w9.heap.size) := h2; omega)
   replace hBo7 := hBo7.upd hU14 (by intro hx; have hx2 : ((w8.heap.size ≤ Bo7) ∧ Bo7 < w9.heap.size) := hx; omega)
   replace hBc7 := hBc7.upd hU14 (by intro hx; have hx2 : ((w8.heap.size ≤ Bc7) ∧ Bc7 < w9.heap.size) := hx; omega)
   replace hO7 := hO7.upd hU14 (by intro x h1 h2; have h3 : ((w6.heap.size ≤ x) ∧ x < w7.heap.size) := h1; have h4 : ((w8.heap.size ≤ x) ∧ x < w9.heap.size) := h2; omega)
   replace hC7 := hC7.upd hU14 (by intro x h1 h2; have h3 : ((w6.heap.size ≤ x) ∧ x < w7.heap.size) := h1; have h4 : ((w8.heap.size ≤ x) ∧ x < w9.heap.size) := h2; omega)
   replace HU := HU.trans hU14 (by intro x hx; have hx2 : ((w8.heap.size ≤ x) ∧ x < w9.heap.size) := hx; show (False) ∨ w.heap.size ≤ x; omega)
   replace HB8 := HB8.trans hU14 (by intro x hx; have hx2 : ((w8.heap.size ≤ x) ∧ x < w9.heap.size) := hx; show (x = B1 ∨ x = D8 + 1 ∨ w8.heap.size ≤ x) ∨ w9.heap.size ≤ x; omega)
   replace hO14 := hO14.tight
   have hl_hO14 := rlen encE_len (by decide) hO14.sl
   have hc_hO14 := hO14.sl.cap.1
   refine Wl_store (v := .slice a14 (i9 + 1) c14) (cs' := [.slice a14 (i9 + 1) c14]) sizeOf191 rfl rfl rfl rfl hb1 rfl rfl ?_
   intro w15 hU15 hzz15 hb1n
   replace hb1 := hb1n; clear hb1n
   have hzw15 := hU15.size
   replace hrc8 := hrc8.upd1 hU15 (by omega)
   replace hdf8 := hdf8.upd1 hU15 (by omega)
   replace hb3 := hb3.upd1 hU15 (by omega)
   replace hs5 := hs5.upd1 hU15 (by intro h1; have h3 : B1 = B5 := h1; omega)
   replace hBo7 := hBo7.upd1 hU15 (by omega)
   replace hBc7 := hBc7.upd1 hU15 (by omega)
   replace hO7 := hO7.upd1 hU15 (show ¬ (((w6.heap.size ≤ B1) ∧ B1 < w7.heap.size)) by omega)
   replace hC7 := hC7.upd1 hU15 (show ¬ (((w6.heap.size ≤ B1) ∧ B1 < w7.heap.size)) by omega)
   replace HU := HU.t1 hU15 (by omega)
   replace HB8 := HB8.trans1 hU15 (by show (B1 = B1 ∨ B1 = D8 + 1 ∨ w8.heap.size ≤ B1) ∨ w9.heap.size ≤ B1; omega)
   replace hO14 := hO14.upd1 hU15 (by intro h1; have h3 : ((((((w8.heap.size ≤ B1) ∧ B1 < w9.heap.size)) ∨ B1 = w13.heap.size)) ∧ B1 < w14.heap.size) := h1; omega)
   refine Wl_nil ?_
   refine ⟨rfl, _, hrc8, ?_⟩
   intro w16 hU16 hzz16 hrz
   have hzw16 := hU16.size
   replace hdf8 := hdf8.upd1 hU16 (by omega)
   replace hb1 := hb1.upd1 hU16 (by omega)
   replace hb3 := hb3.upd1 hU16 (by omega)
   replace hs5 := hs5.upd1 hU16 (by intro h1; have h3 : (D8 + 1) = B5 := h1; omega)
   replace hBo7 := hBo7.upd1 hU16 (by omega)
   replace hBc7 := hBc7.upd1 hU16 (by omega)
   replace hO7 := hO7.upd1 hU16 (show ¬ (((w6.heap.size ≤ (D8 + 1)) ∧ (D8 + 1) < w7.heap.size)) by omega)
   replace hC7 := hC7.upd1 hU16 (show ¬ (((w6.heap.size ≤ (D8 + 1)) ∧ (D8 + 1) < w7.heap.size)) by omega)
   replace HU := HU.trans1 hU16 (by show (False) ∨ w.heap.size ≤ (D8 + 1); omega)
   replace HB8 := HB8.trans1 hU16 (by show ((D8 + 1) = B1 ∨ (D8 + 1) = D8 + 1 ∨ w8.heap.size ≤ (D8 + 1)) ∨ w9.heap.size ≤ (D8 + 1); omega)
   replace hO14 := hO14.upd1 hU16 (by intro h1; have h3 : ((((((w8.heap.size ≤ (D8 + 1)) ∧ (D8 + 1) < w9.heap.size)) ∨ (D8 + 1) = w13.heap.size)) ∧ (D8 + 1) < w14.heap.size) := h1; omega)
   exact Or.inl ⟨rfl, HB8, (hJ8 _ _).2 ⟨a14, c14, (by rw [hr8]; rw [hr8] at hrz; exact hrz), hdf8, hb1, (by rw [hot]; exact hO14.weak (by intro g hg; have h3 : ((((((w8.heap.size ≤ g) ∧ g < w9.heap.size)) ∨ g = w13.heap.size)) ∧ g < w14.heap.size) := hg; show w8.heap.size ≤ g; omega)), hb3, hs5, hBo7, hBc7, hO7, hC7, HU⟩⟩
  rintro b c w9 (⟨rfl, h1, h2⟩ | ⟨rfl, h1⟩)
  ·exact Or.inl ⟨rfl, h1, h2⟩
  exact Or.inr ⟨rfl, h1⟩
 rintro e w17 ⟨v, rfl, hh | hh⟩
 ·obtain ⟨ga, gc, hrc8, hdf8, hb1, hOs, hb3, hs5, hBo7, hBc7, hO7, hC7, HU⟩ := (hJ8 _ _).1 hh
  have hrl8 := hrc8.lt
  refine ⟨r8, hrc8, (by rw [hr8]; simp), ?_⟩
  intro w18 hU18 hzz18
  have hzw18 := hU18.size
  replace hdf8 := hdf8.upd1 hU18 (by omega)
  replace hb1 := hb1.upd1 hU18 (by omega)
  replace hOs := hOs.upd1 hU18 (show ¬ (w8.heap.size ≤ (D8 + 1)) by omega)
  replace hb3 := hb3.upd1 hU18 (by omega)
  replace HU := HU.trans1 hU18 (by show (False) ∨ w.heap.size ≤ (D8 + 1); omega)
  rw [hr8]
  rw [os_all l (by omega)] at hOs
  replace hOs := hOs.tight
  have hl_hOs := rlen encE_len (by decide) hOs.sl
  have hc_hOs := hOs.sl.cap.1
  refine W_seq (W_seq (W_region ?_))
  refine Wl_load (v := .slice ga m7 gc) isAgg191 rfl hb1 rfl ?_
  refine Wl_v (r_mkf1 (v0 := .pointer (some ⟨B3, 0, none⟩)) rfl) ?_
  refine Wl_call (r_call2 rfl call149 rfl rfl) (filled_spec _ hOs.sl.any hb3 (by omega) (os_rng hr)) ?_
  rintro v w19 ⟨a19, c19, rfl, hO19, hU19⟩
  have hzw19 := hU19.size
  replace hdf8 := hdf8.upd0 hU19
  replace HU := HU.trans0 hU19
  replace hO19 := hO19.tight
  have hl_hO19 := rlen encE_len (by decide) hO19.sl
  have hc_hO19 := hO19.sl.cap.1
  refine Was (.slice a19 ((fl (mx l) (os l)).length) c19) ?_
  refine Was (.int .i64 0) ?_
  refine Wl_nil ?_
  refine W_ret ?_
  refine ret_ds rfl ?_
  refine lv_mark (by simp) hdf8 ?_
  intro w20 hU20 hzz20
  have hzw20 := hU20.size
  replace HU := HU.t1 hU20 (by omega)
  replace hO19 := hO19.upd1 hU20 (show ¬ (((w18.heap.size ≤ D8) ∧ D8 < w19.heap.size)) by omega)
  refine lv_nil (v := .tuple #[.slice a19 ((fl (mx l) (os l)).length) c19, .int .i64 0]) (res2 results138 rfl rfl) ?_
  have hft := fl_mx hr
  rw [hft, tbl_len] at hO19
  exact ⟨_, rfl, a19, c19, (by rw [hft, tbl_len]), hO19.weak (by intro g hg; have h3 : ((w18.heap.size ≤ g) ∧ g < w19.heap.size) := hg; show w.heap.size ≤ g; omega), HU⟩
 exact ((hJx8 _).1 hh).elim
theorem iclone {a : Option Addr} {n c : Nat} {l : List Int} (w : World) (hs : Sl w (fun g => g < w.heap.size) 1 (.slice a n c) n (ints .i64 l)) (hn : n ≤ 17592186044415) :
  Calls Tryz.prog 68 #[.slice a n c] w (Ret fun v w' => ∃ (a' : Option Addr) (c' : Nat), v = .slice a' n c' ∧ Own w' (fun g => w.heap.size ≤ g) 3 1 (.slice a' n c') n (ints .i64 l) ∧ Upd No w w') := by
 have HU := Upd.rno w
 have hl_hs := ilen hs
 have hc_hs := hs.cap.1
 refine calls_of_W func68 rfl ntmps68 (by simp) ?_
 refine W_seq (W_region ?_)
 refine Was (.slice none 0 0) ?_
 refine Wl_nil (W_seq (W_seq (W_region ?_)))
 refine Wmv (.slice a n c) ?_
 refine Wl_v (r_eqsn underlying22 rfl rfl) ?_
 refine Wl_nil ?_
 by_cases q1 : a = none
 ·rw [decide_eq_true q1]
  refine W_cond_t rfl ?_
  refine W_seq (W_region ?_)
  refine Was (.slice none 0 0) ?_
  refine Wl_nil ?_
  refine W_ret ?_
  refine ret_end (v := .slice none 0 0) rfl (res1 results68 rfl) ?_
  obtain ⟨h0, h1⟩ := Sl.none_len (q1 ▸ hs)
  subst h0
  obtain rfl : l = [] := List.length_eq_zero_iff.1 hl_hs
  exact ⟨_, rfl, none, 0, rfl, Own.nil _ _ _ _, HU⟩
 rw [decide_eq_false q1]
 refine W_cond_f rfl ?_
 refine W_skip (W_seq (W_region ?_))
 refine Wl_lit0 underlying22 sizeOf3 ?_
 intro B1 w1 hB1 hU1 hzz1 hs1
 have hzw1 := hU1.size
 replace hs := hs.upd0 hU1
 replace HU := HU.trans0 hU1
 refine Wmv (.slice a n c) ?_
 refine Wl_appendi (xs := []) (ys := l) (zs := l) (k' := .i64) (tot := n) (by first | rfl | exact (rows_app _ _).symm | simp) underlying22 (ti := Tryz.t3) (z := .int .i64 0) (sz := 1) (by' := 8) rfl rfl rfl rfl rfl (by decide) rfl hs1 rfl hs  (by omega) (by simp only [maxLen]; omega) (by omega) ?_
 intro a2 c2 w2 hU2 hzz2 hO2
 clear hs1
 have hzw2 := hU2.size
 replace HU := HU.trans hU2 (by intro x hx; have hx2 : x = B1 := hx; show (False) ∨ w.heap.size ≤ x; omega)
 replace hO2 := hO2.tight
 have hl_hO2 := ilen hO2.sl
 have hc_hO2 := hO2.sl.cap.1
 refine Was (.slice a2 n c2) ?_
 refine Wl_nil ?_
 refine W_ret ?_
 refine ret_end (v := .slice a2 n c2) rfl (res1 results68 rfl) ?_
 exact ⟨_, rfl, a2, c2, rfl, (hO2.weak (by intro g hg; have h3 : ((((g = B1) ∨ g = w1.heap.size)) ∧ g < w2.heap.size) := hg; show w.heap.size ≤ g; omega)), HU⟩
set_option maxHeartbeats 1000000 in
theorem new_ok {a : Option Addr} {n c : Nat} {l : List Int} {R : Nat → Prop} (w : World) (hs : Sl w R 1 (.slice a n c) n (ints .i64 l)) (hn : n ≤ 17592186044415) (hr : Rt l) :
  Calls Tryz.prog 127 #[.slice a n c] w (Ret fun v w' => ∃ (tb : Nat) (ea : Option Addr) (ec : Nat) (la : Option Addr) (lc : Nat), v = .tuple #[.pointer (some ⟨tb, 0, none⟩), .int .i64 0] ∧ Blk w' tb [.slice ea (2 ^ bt l) ec, .int .i64 ((bt l : Nat) : Int), .slice la n lc] ∧ Own w' (fun g => w.heap.size ≤ g ∧ g ≠ tb) 201 2 (.slice ea (2 ^ bt l) ec) (2 ^ bt l) (rows encE (tbl l)) ∧ Own w' (fun g => w.heap.size ≤ g ∧ g ≠ tb) 3 1 (.slice la n lc) n (ints .i64 l) ∧ w.heap.size ≤ tb ∧ Upd No w w') := by
 have HU := Upd.rno w
 have hl_hs := ilen hs
 have hc_hs := hs.cap.1
 replace hs := hs.tight
 have h256 := hr.2.1
 have hbt := bt_bd hr
 refine calls_of_W func127 rfl ntmps127 (by simp) ?_
 refine W_seq (W_region ?_)
 refine Was (.pointer none) ?_
 refine Was (.int .i64 0) ?_
 refine Wl_nil (W_seq (W_region ?_))
 refine Wmv (.slice a n c) ?_
 refine Wl_call (r_call1 rfl call138 rfl) (entries_ok _ hs (by omega) (by omega)) ?_
 rintro v w1 ⟨a1, c1, rfl, hO1, hU1⟩
 have hzw1 := hU1.size
 replace hs := hs.upd0 hU1
 replace HU := HU.trans0 hU1
 replace hO1 := hO1.tight
 have hl_hO1 := rlen encE_len (by decide) hO1.sl
 have hc_hO1 := hO1.sl.cap.1
 refine Wmv (.tuple #[.slice a1 (2 ^ bt l) c1, .int .i64 0]) ?_
 refine Wl_v (r_ext (v := .slice a1 (2 ^ bt l) c1) rfl rfl) ?_
 refine Wl_v (r_ext (v := .int .i64 0) rfl rfl) ?_
 refine Was (.slice a1 (2 ^ bt l) c1) ?_
 refine Was (.int .i64 0) ?_
 refine Wl_nil (W_seq (W_region ?_))
 refine Wmv (.slice a n c) ?_
 refine Wl_call (r_call1 rfl call139 rfl) (mlen_ok _ hs (by omega) (by omega)) ?_
 rintro v w2 ⟨rfl, hU2⟩
 have hzw2 := hU2.size
 replace hs := hs.upd0 hU2
 replace HU := HU.trans0 hU2
 replace hO1 := hO1.upd0 hU2
 refine Wmv (.tuple #[.int .i64 (mx l), .int .i64 0]) ?_
 refine Wl_v (r_ext (v := .int .i64 (mx l)) rfl rfl) ?_
 refine Wl_v (r_ext (v := .int .i64 0) rfl rfl) ?_
 refine Was (.int .i64 (mx l)) ?_
 refine Was (.int .i64 0) ?_
 refine Wl_nil (W_seq (W_seq (W_region ?_)))
 refine Wmv (.int .i64 0) ?_
 refine Wmv (.int .i64 0) ?_
 refine Wl_lit (pv := [(0, .int .i64 0), (1, .int .i64 0)]) (cs := [.int .i64 0, .int .i64 0]) underlying112 sizeOf23 zeroValue23 (by decide) (by decide) (by simp only [List.map_toArray, List.map_cons, List.map_nil] <;> rfl) (by kernel_rfl) rfl (by decide) ?_
 intro B3 w3 hB3 hU3 hzz3 hs3
 have hzw3 := hU3.size
 replace hs := hs.upd0 hU3
 replace HU := HU.trans0 hU3
 replace hO1 := hO1.upd0 hU3
 replace hs3 : Own w3 (Is B3) 23 1 (.slice (some ⟨B3, 0, none⟩) 2 2) 2 (ints .i64 [0, 0]) := hs3
 refine Wl_call (r_call1 rfl call140 rfl) (refused_0 _ hs3.sl.any (by omega) z3) ?_
 rintro v w4 ⟨rfl, hU4⟩
 have hzw4 := hU4.size
 replace hs := hs.upd0 hU4
 replace HU := HU.trans0 hU4
 replace hO1 := hO1.upd0 hU4
 refine Was (.int .i64 0) ?_
 refine Wl_nil (W_seq (W_region ?_))
 refine Wmv (.int .i64 0) ?_
 refine Wl_v (v := .bool false) (r_ne (a := 0) (b := 0) rfl rfl) ?_
 refine Wl_nil ?_
 refine W_cond_f rfl ?_
 refine W_skip (W_seq (W_region ?_))
 refine Wmv (.slice a1 (2 ^ bt l) c1) ?_
 refine Wmv (.int .i64 (mx l)) ?_
 refine Wmv (.slice a n c) ?_
 refine Wmv (.slice a n c) ?_
 refine Wl_v (r_len underlying22 rfl) ?_
 refine Wmv (.slice a n c) ?_
 refine Wl_v (r_len underlying22 rfl) ?_
 refine Wl_v (r_slice3 (h' := n) (q' := n) underlying22 sizeOf3 rfl rfl rfl (by omega) (by omega) (by omega) (by omega)) ?_
 have hT5 := Sl.recap (q := n) hs (by omega) (by simp only [maxLen]; omega)
 have hl_hT5 := ilen hT5
 have hc_hT5 := hT5.cap.1
 refine Wl_call (r_call1 rfl call68 rfl) (iclone _ hT5.any (by omega)) ?_
 rintro v w6 ⟨a6, c6, rfl, hO6, hU6⟩
 have hzw6 := hU6.size
 replace HU := HU.trans0 hU6
 replace hO1 := hO1.upd0 hU6
 replace hO6 := hO6.tight
 have hl_hO6 := ilen hO6.sl
 have hc_hO6 := hO6.sl.cap.1
 refine Wl_v (r_build (pl := #[(0, 1), (1, 1), (2, 1)]) (pv := [(0, .slice a1 (2 ^ bt l) c1), (1, .int .i64 (mx l)), (2, .slice a6 n c6)]) (cs := #[.slice a1 (2 ^ bt l) c1, .int .i64 (mx l), .slice a6 n c6]) zeroValue198 underlying198 (fun w => by kernel_rfl) (by simp only [List.map_toArray, List.map_cons, List.map_nil] <;> rfl) (by kernel_rfl)) ?_
 refine Wl_box (v := .agg #[.slice a1 (2 ^ bt l) c1, .int .i64 (mx l), .slice a6 n c6]) (cs := [.slice a1 (2 ^ bt l) c1, .int .i64 (mx l), .slice a6 n c6]) rfl rfl ?_
 intro B7 w7 hB7 hU7 hzz7 hb7
 have hzw7 := hU7.size
 replace HU := HU.trans0 hU7
 replace hO1 := hO1.upd0 hU7
 replace hO6 := hO6.upd0 hU7
 refine Was (.pointer (some ⟨B7, 0, none⟩)) ?_
 refine Was (.int .i64 0) ?_
 refine Wl_nil ?_
 refine W_ret ?_
 refine ret_end (v := .tuple #[.pointer (some ⟨B7, 0, none⟩), .int .i64 0]) rfl (res2 results127 rfl rfl) ?_
 have hm := mx_bt l
 rw [hm] at hb7
 exact ⟨_, rfl, _, _, _, _, _, rfl, hb7, hO1.weak (by intro g hg; have h3 : ((w.heap.size ≤ g) ∧ g < w1.heap.size) := hg; show _ ∧ _; omega), hO6.weak (by intro g hg; have h3 : ((w4.heap.size ≤ g) ∧ g < w6.heap.size) := hg; show _ ∧ _; omega), by omega, HU⟩
theorem none_ok {tb : Nat} {nb : Int} {xe xl : Value} (w : World) (hT : Blk w tb [xe, .int .i64 nb, xl]) (hnb : nb ≠ 0) :
  Calls Tryz.prog 142 #[.pointer (some ⟨tb, 0, none⟩)] w (Ret fun v w' => v = .bool false ∧ Upd No w w') := by
 have HU := Upd.rno w
 have hbl_hT := hT.lt
 refine calls_of_W func142 rfl ntmps142 (by simp) ?_
 refine W_seq (W_region ?_)
 refine Was (.bool false) ?_
 refine Wl_nil (W_seq (W_region ?_))
 refine Wmv (.pointer (some ⟨tb, 0, none⟩)) ?_
 refine Wl_v (r_eqpn_s underlying147 rfl rfl) ?_
 refine Wmv (.bool false) ?_
 refine Wl_guard_t rfl ?_
 refine Wmv (.pointer (some ⟨tb, 0, none⟩)) ?_
 refine Wl_guard_t rfl ?_
 refine Wl_v (r_nil rfl) ?_
 refine Wl_guard_t rfl ?_
 refine Wl_v (r_fld underlying198 rfl sizeOf3 rfl rfl) ?_
 refine Wl_guard_t rfl ?_
 refine Wl_load (v := .int .i64 nb) isAgg3 rfl hT rfl ?_
 refine Wl_guard_t rfl ?_
 refine Wl_v (r_eq rfl rfl) ?_
 refine Wl_v (r_pick_f (v := .bool (decide (nb = 0))) rfl rfl) ?_
 refine Was (.bool (decide (nb = 0))) ?_
 refine Wl_nil ?_
 refine W_ret ?_
 refine ret_end (v := .bool (decide (nb = 0))) rfl (res1 results142 rfl) ?_
 exact ⟨_, rfl, (by rw [decide_eq_false hnb]), HU⟩
theorem idx_num {l : List Int} (hr : Rt l) {bits m : Int} (h0 : 0 ≤ bits) (h64 : bits < 18446744073709551616) (hva : Va bits m) :
  0 ≤ bits * 2 ^ (max 0 (((bt l : Nat) : Int) - m)).toNat ∧ bits * 2 ^ (max 0 (((bt l : Nat) : Int) - m)).toNat < 18446744073709551616 := by
 have hb := bt_bd hr
 have hlt := va_lt h0 h64 hva
 have hm := hva.1
 by_cases c : m ≤ bt l
 ·have e : (max 0 (((bt l : Nat) : Int) - m)).toNat = bt l - m.toNat := by omega
  have hp : (0 : Int) < 2 ^ (bt l - m.toNat) := Int.pow_pos (by decide)
  rw [e]
  have h1 : bits * 2 ^ (bt l - m.toNat) < 2 ^ m.toNat * 2 ^ (bt l - m.toNat) := Int.mul_lt_mul_of_pos_right hlt hp
  rw [← Int.pow_add, show m.toNat + (bt l - m.toNat) = bt l from by omega] at h1
  have h2 := (p2_le11 hb.2).2
  unfold p2 at h2
  exact ⟨Int.mul_nonneg h0 (Int.le_of_lt hp), by omega⟩
 rw [show (max 0 (((bt l : Nat) : Int) - m)).toNat = 0 from by omega]; simp; omega
theorem shl_idx {l : List Int} (hr : Rt l) {bits m : Int} (h0 : 0 ≤ bits) (h64 : bits < 18446744073709551616) (hva : Va bits m) :
  IntKind.u64.wrap (bits * 2 ^ (min (max 0 (((bt l : Nat) : Int) - m)).toNat IntKind.u64.bits)) = bits * 2 ^ (max 0 (((bt l : Nat) : Int) - m)).toNat := by
 have hb := bt_bd hr
 have hm := hva.1
 have := idx_num hr h0 h64 hva
 rw [show min (max 0 (((bt l : Nat) : Int) - m)).toNat IntKind.u64.bits = (max 0 (((bt l : Nat) : Int) - m)).toNat from by show min _ 64 = _; omega]
 exact wu64 this.1 this.2
theorem shr_idx {l : List Int} (hr : Rt l) {bits m : Int} (hva : Va bits m) :
  bits * 2 ^ (max 0 (((bt l : Nat) : Int) - m)).toNat / 2 ^ (min (max 0 (m - ((bt l : Nat) : Int))).toNat IntKind.u64.bits) = idx l bits m := by
 have hb := bt_bd hr
 have hm := hva.1
 rw [show min (max 0 (m - ((bt l : Nat) : Int))).toNat IntKind.u64.bits = (max 0 (m - ((bt l : Nat) : Int))).toNat from by show min _ 64 = _; omega]; rfl
theorem dec_tbl {l : List Int} (hr : Rt l) {bits m : Int} (h0 : 0 ≤ bits) (h64 : bits < 18446744073709551616) (hva : Va bits m) :
  (0 ≤ idx l bits m ∧ idx l bits m < ((2 ^ bt l : Nat) : Int)) ∧ dec l bits m = if ((tbl l).getD (idx l bits m).toNat (0, 0)).2 ≤ m then (((tbl l).getD (idx l bits m).toNat (0, 0)).1, ((tbl l).getD (idx l bits m).toNat (0, 0)).2, 0) else (0, 0, 3) := by
 obtain ⟨h1, h2, h3⟩ := idx_bd hr h0 h64 hva
 have h4 := p2_nat (bt l)
 refine ⟨⟨h1, by omega⟩, ?_⟩
 rw [dec_idx hr h0 h64 hva, tbl_get (by omega)]
set_option maxHeartbeats 1000000 in
theorem tdec {tb : Nat} {ea la : Option Addr} {n ec lc : Nat} {l : List Int} {bits m : Int} (w : World) (hT : Blk w tb [.slice ea (2 ^ bt l) ec, .int .i64 ((bt l : Nat) : Int), .slice la n lc]) (hE : Sl w (fun g => g < w.heap.size) 2 (.slice ea (2 ^ bt l) ec) (2 ^ bt l) (rows encE (tbl l))) (hr : Rt l) (hbits : 0 ≤ bits ∧ bits < 18446744073709551616) (hm : -9223372036854775808 ≤ m ∧ m ≤ 9223372036854775807) :
  Calls Tryz.prog 129 #[.pointer (some ⟨tb, 0, none⟩), .int .u64 bits, .int .i64 m] w (Ret fun v w' => v = .tuple #[.int .i64 ((dec l bits m).1), .int .i64 ((dec l bits m).2.1), .int .i64 ((dec l bits m).2.2)] ∧ Upd No w w') := by
 have HU := Upd.rno w
 have hbl_hT := hT.lt
 have hl_hE := rlen encE_len (by decide) hE
 have hc_hE := hE.cap.1
 have hbt := bt_bd hr
 refine calls_of_W func129 rfl ntmps129 (by simp) ?_
 refine W_seq (W_region ?_)
 refine Was (.int .i64 0) ?_
 refine Was (.int .i64 0) ?_
 refine Was (.int .i64 0) ?_
 refine Wl_nil (W_seq (W_block (W_seq (W_region ?_))))
 refine Wmv (.pointer (some ⟨tb, 0, none⟩)) ?_
 refine Wl_call (r_call1 rfl call142 rfl) (none_ok _ hT (by omega)) ?_
 rintro v w1 ⟨rfl, hU1⟩
 have hzw1 := hU1.size
 replace hT := hT.upd0 hU1
 replace hE := hE.upd0 hU1
 replace HU := HU.trans0 hU1
 refine Was (.bool false) ?_
 refine Wl_nil ?_
 refine W_cond_f rfl ?_
 refine W_seq (W_region ?_)
 refine Wmv (.int .i64 m) ?_
 refine Wl_v (r_lt rfl rfl) ?_
 refine Wmv (.bool (decide (m < 0))) ?_
 by_cases q1 : m < 0
 ·rw [decide_eq_true q1]
  refine Wl_guard_f rfl (Wl_guard_f rfl ?_)
  refine Wl_v (r_pick_t (v := .bool true) rfl rfl) ?_
  refine Wmv (.bool true) ?_
  refine Wl_guard_f rfl (Wl_guard_f rfl (Wl_guard_f rfl ?_))
  refine Wl_skip rfl ?_
  refine Wl_skip rfl ?_
  refine Wl_skip rfl ?_
  refine Wl_skip rfl ?_
  refine Wl_guard_f rfl ?_
  refine Wl_v (r_pick_t (v := .bool true) rfl rfl) ?_
  refine Was (.bool true) ?_
  refine Wl_nil ?_
  refine W_cond_t rfl ?_
  refine W_seq (W_region ?_)
  refine Was (.int .i64 0) ?_
  refine Was (.int .i64 0) ?_
  refine Was (.int .i64 2) ?_
  refine Wl_nil ?_
  refine W_ret ?_
  refine ret_end (v := .tuple #[.int .i64 0, .int .i64 0, .int .i64 2]) rfl (res3 results129 rfl rfl rfl) ?_
  rw [dec_arg hr (fun h => by unfold Va at h; omega)]
  exact ⟨_, rfl, (vtup3 (by first | rfl | exact vint (by omega)) (by first | rfl | exact vint (by omega)) (by first | rfl | exact vint (by omega))), HU⟩
 rw [decide_eq_false q1]
 refine Wl_guard_t rfl ?_
 refine Wmv (.int .i64 m) ?_
 refine Wl_guard_t rfl ?_
 refine Wl_v (r_gt rfl rfl) ?_
 refine Wl_v (r_pick_f (v := .bool (decide (64 < m))) rfl rfl) ?_
 refine Wmv (.bool (decide (64 < m))) ?_
 by_cases q2 : 64 < m
 ·rw [decide_eq_true q2]
  refine Wl_guard_f rfl (Wl_guard_f rfl (Wl_guard_f rfl ?_))
  refine Wl_skip rfl ?_
  refine Wl_skip rfl ?_
  refine Wl_skip rfl ?_
  refine Wl_skip rfl ?_
  refine Wl_guard_f rfl ?_
  refine Wl_v (r_pick_t (v := .bool true) rfl rfl) ?_
  refine Was (.bool true) ?_
  refine Wl_nil ?_
  refine W_cond_t rfl ?_
  refine W_seq (W_region ?_)
  refine Was (.int .i64 0) ?_
  refine Was (.int .i64 0) ?_
  refine Was (.int .i64 2) ?_
  refine Wl_nil ?_
  refine W_ret ?_
  refine ret_end (v := .tuple #[.int .i64 0, .int .i64 0, .int .i64 2]) rfl (res3 results129 rfl rfl rfl) ?_
  rw [dec_arg hr (fun h => by unfold Va at h; omega)]
  exact ⟨_, rfl, (vtup3 (by first | rfl | exact vint (by omega)) (by first | rfl | exact vint (by omega)) (by first | rfl | exact vint (by omega))), HU⟩
 rw [decide_eq_false q2]
 refine Wl_guard_t rfl ?_
 refine Wmv (.int .i64 m) ?_
 refine Wl_guard_t rfl ?_
 refine Wl_v (r_lt rfl rfl) ?_
 refine Wl_guard_t rfl ?_
 refine Wmv (.bool (decide (m < 64))) ?_
 by_cases q3 : m < 64
 ·rw [decide_eq_true q3]
  refine Wl_guard_t rfl ?_
  refine Wmv (.int .u64 bits) ?_
  refine Wl_guard_t rfl ?_
  refine Wmv (.int .i64 m) ?_
  refine Wl_guard_t rfl ?_
  refine Wl_v (r_shr rfl rfl (by omega) rfl) ?_
  refine Wl_guard_t rfl ?_
  refine Wl_v (r_gt rfl rfl) ?_
  refine Wl_guard_t rfl ?_
  refine Wl_v (r_pick_t (v := .bool (decide (0 < (bits / 2 ^ (min (m).toNat IntKind.u64.bits))))) rfl rfl) ?_
  refine Wl_v (r_pick_f (v := .bool (decide (0 < (bits / 2 ^ (min (m).toNat IntKind.u64.bits))))) rfl rfl) ?_
  refine Was (.bool (decide (0 < (bits / 2 ^ (min (m).toNat IntKind.u64.bits))))) ?_
  refine Wl_nil ?_
  by_cases q4 : 0 < (bits / 2 ^ (min (m).toNat IntKind.u64.bits))
  ·rw [decide_eq_true q4]
   refine W_cond_t rfl ?_
   refine W_seq (W_region ?_)
   refine Was (.int .i64 0) ?_
   refine Was (.int .i64 0) ?_
   refine Was (.int .i64 2) ?_
   refine Wl_nil ?_
   refine W_ret ?_
   refine ret_end (v := .tuple #[.int .i64 0, .int .i64 0, .int .i64 2]) rfl (res3 results129 rfl rfl rfl) ?_
   rw [dec_arg hr (fun h => by unfold Va at h; omega)]
   exact ⟨_, rfl, (vtup3 (by first | rfl | exact vint (by omega)) (by first | rfl | exact vint (by omega)) (by first | rfl | exact vint (by omega))), HU⟩
  rw [decide_eq_false q4]
  refine W_cond_f rfl ?_
  refine W_skip (W_seq ?_)
  have hva : Va bits m := ⟨by omega, by have hp0 := pdiv0 bits m (by omega); omega⟩
  have hdt := dec_tbl hr hbits.1 hbits.2 hva
  refine W_drawt rfl (l0 := tf 0 25) (by kernel_rfl) ?_
  refine Tk 0 (tf 1 25) rfl (YI_v (v := .pointer (some ⟨tb, 0, none⟩)) rfl (fun w' hw' => r_mv (v := .pointer (some ⟨tb, 0, none⟩)) rfl)) ?_
  refine Tk 1 (tf 2 25) rfl (YI_v (v := .pointer (some ⟨tb, 0, none⟩)) rfl (fun w' hw' => r_nil rfl)) ?_
  refine Tk 2 (tf 3 25) rfl (YI_v (v := .pointer (some ⟨tb, 0, none⟩)) rfl (fun w' hw' => r_fld underlying198 rfl sizeOf196 rfl rfl)) ?_
  refine Tk 3 (tf 4 25) rfl (YI_v (v := .slice ea (2 ^ bt l) ec) rfl (fun w' hw' => r_load isAgg196 rfl (by rw [(hT.upd0 hw').cell]; rfl))) ?_
  refine Tk 4 (tf 5 25) rfl (YI_v (v := .int .u64 bits) rfl (fun w' hw' => r_mv (v := .int .u64 bits) rfl)) ?_
  refine Tk 5 (tf 6 25) rfl (YI_v (v := .pointer (some ⟨tb, 0, none⟩)) rfl (fun w' hw' => r_mv (v := .pointer (some ⟨tb, 0, none⟩)) rfl)) ?_
  refine Tk 6 (tf 7 25) rfl (YI_v (v := .pointer (some ⟨tb, 0, none⟩)) rfl (fun w' hw' => r_nil rfl)) ?_
  refine Tk 7 (tf 8 25) rfl (YI_v (v := .pointer (some ⟨tb, 1, none⟩)) rfl (fun w' hw' => r_fld underlying198 rfl sizeOf3 rfl rfl)) ?_
  refine Tk 8 (tf 9 25) rfl (YI_v (v := .int .i64 ((bt l : Nat) : Int)) rfl (fun w' hw' => r_load isAgg3 rfl (by rw [(hT.upd0 hw').cell]; rfl))) ?_
  refine Tk 9 (tf 10 25) rfl (YI_v (v := .int .i64 m) rfl (fun w' hw' => r_mv (v := .int .i64 m) rfl)) ?_
  refine Tk 10 (tf 11 25) rfl (YI_v (v := .int .i64 (((bt l : Nat) : Int) - m)) rfl (fun w' hw' => r_sub rfl rfl (wi64 (by omega) (by omega)))) ?_
  refine Tk 11 (tf 12 25) rfl (YI_v (v := .int .i64 (max 0 (((bt l : Nat) : Int) - m))) rfl (fun w' hw' => r_max rfl rfl)) ?_
  refine Tk 12 (tf 13 25) rfl (YI_v (v := .int .u64 (bits * 2 ^ (max 0 (((bt l : Nat) : Int) - m)).toNat)) rfl (fun w' hw' => r_shl rfl rfl (by omega) (shl_idx hr hbits.1 hbits.2 hva))) ?_
  refine Tk 13 (tf 14 25) rfl (YI_v (v := .int .i64 m) rfl (fun w' hw' => r_mv (v := .int .i64 m) rfl)) ?_
  refine Tk 14 (tf 15 25) rfl (YI_v (v := .pointer (some ⟨tb, 0, none⟩)) rfl (fun w' hw' => r_mv (v := .pointer (some ⟨tb, 0, none⟩)) rfl)) ?_
  refine Tk 15 (tf 16 25) rfl (YI_v (v := .pointer (some ⟨tb, 0, none⟩)) rfl (fun w' hw' => r_nil rfl)) ?_
  refine Tk 16 (tf 17 25) rfl (YI_v (v := .pointer (some ⟨tb, 1, none⟩)) rfl (fun w' hw' => r_fld underlying198 rfl sizeOf3 rfl rfl)) ?_
  refine Tk 17 (tf 18 25) rfl (YI_v (v := .int .i64 ((bt l : Nat) : Int)) rfl (fun w' hw' => r_load isAgg3 rfl (by rw [(hT.upd0 hw').cell]; rfl))) ?_
  refine Tk 18 (tf 19 25) rfl (YI_v (v := .int .i64 (m - ((bt l : Nat) : Int))) rfl (fun w' hw' => r_sub rfl rfl (wi64 (by omega) (by omega)))) ?_
  refine Tk 19 (tf 20 25) rfl (YI_v (v := .int .i64 (max 0 (m - ((bt l : Nat) : Int)))) rfl (fun w' hw' => r_max rfl rfl)) ?_
  refine Tk 20 (tf 21 25) rfl (YI_v (v := .int .u64 (idx l bits m)) rfl (fun w' hw' => r_shr rfl rfl (by omega) (shr_idx hr hva))) ?_
  obtain ⟨ib2, io2, ha2, hib2, hc2⟩ := Sl.rat (0, 0) encE_len (by decide) (hE) (i := (idx l bits m).toNat) (by omega)
  refine Tk 21 (tf 22 25) rfl (YI_v (v := .pointer (some ⟨ib2, io2 + ((idx l bits m).toNat) * 2, none⟩)) rfl (fun w' hw' => r_idx (b := ib2) (off := io2) (m := 2 ^ bt l) (c := ec) (o' := io2 + ((idx l bits m).toNat) * 2) underlying196 sizeOf201 (by rw [← ha2]; rfl) rfl (by omega) (by omega) (by omega))) ?_
  refine Tk 22 (tf 23 25) rfl (YI_v (v := .agg #[.int .i64 (((tbl l).getD (idx l bits m).toNat (0, 0)).1), .int .i64 (((tbl l).getD (idx l bits m).toNat (0, 0)).2)]) rfl (fun w' hw' => r_loada (cs := [.int .i64 (((tbl l).getD (idx l bits m).toNat (0, 0)).1), .int .i64 (((tbl l).getD (idx l bits m).toNat (0, 0)).2)]) isAgg201 sizeOf201 rfl rfl (hw'.cellsk rfl hc2))) ?_
  intro w3 hU3
  have hzw3 := hU3.size
  replace HU := HU.trans0 hU3
  refine Wa_one (i := 23) (listed' := tf 24 25) (by kernel_rfl) rfl (by kernel_rfl) ?_
  refine Ws_of_Wl ?_
  have hW : Upd No w1 w3 := hU3
  refine Wl_alloc (cs := [.int .i64 0, .int .i64 0]) zeroValue201 rfl ?_
  intro B4 w4 hB4 hU4 hzz4 hb4
  have hzw4 := hU4.size
  replace HU := HU.trans0 hU4
  try replace hW := hW.trans0 hU4
  refine Wl_nil ?_
  intro w5 hS5
  have hX : Upd No w1 w5 := hW.trans0 hS5.upd
  refine ⟨fun _ => ⟨hX, ?_⟩, fun h => absurd h (by rw [show barOp _ 23 = false from by kernel_rfl]; simp)⟩
  have hU5 := hS5.upd
  have hzw5 := hU5.size
  replace HU := HU.trans0 hU5
  replace hb4 := hb4.upd0 hU5
  try replace hW := hW.trans0 hU5
  refine Wt_base hX ?_
  intro w6 hU6
  have hzw6 := hU6.size
  replace HU := HU.trans0 hU6
  replace hb4 := hb4.upd0 hU6
  try replace hW := hW.trans0 hU6
  refine Wa_one (i := 24) (listed' := tf 25 25) (by kernel_rfl) rfl (by kernel_rfl) ?_
  refine Ws_of_Wl ?_
  have hW : Upd No w5 w6 := hU6
  refine Wl_storea (off := 0) (vs := [.int .i64 (((tbl l).getD (idx l bits m).toNat (0, 0)).1), .int .i64 (((tbl l).getD (idx l bits m).toNat (0, 0)).2)]) (cs' := [.int .i64 (((tbl l).getD (idx l bits m).toNat (0, 0)).1), .int .i64 (((tbl l).getD (idx l bits m).toNat (0, 0)).2)]) sizeOf201 rfl rfl rfl (by simp only [List.mem_cons, List.not_mem_nil, or_false, forall_eq_or_imp, forall_eq]; exact ⟨rfl, rfl⟩) hb4 (by simp) rfl ?_
  intro w7 hU7 hzz7 hb4n
  replace hb4 := hb4n; clear hb4n
  have hzw7 := hU7.size
  replace HU := HU.t1 hU7 (by omega)
  refine Wl_nil ?_
  intro w8 hS8
  refine ⟨fun h => absurd h (by rw [show barOp _ 24 = true from by kernel_rfl]; simp), fun _ => ⟨Upd No w8, ?_⟩⟩
  have hU8 := hS8.upd
  have hzw8 := hU8.size
  replace HU := HU.trans0 hU8
  replace hb4 := hb4.upd0 hU8
  try replace hW := hW.trans0 hU8
  refine Wa_done (by kernel_rfl) ?_
  refine W_seq (W_seq (W_region ?_))
  refine Wl_v (r_fld underlying201 rfl sizeOf3 rfl rfl) ?_
  refine Wl_load (v := .int .i64 (((tbl l).getD (idx l bits m).toNat (0, 0)).2)) isAgg3 rfl hb4 rfl ?_
  refine Wmv (.int .i64 m) ?_
  refine Wl_v (r_gt rfl rfl) ?_
  refine Wl_nil ?_
  by_cases q5 : m < (((tbl l).getD (idx l bits m).toNat (0, 0)).2)
  ·rw [decide_eq_true q5]
   refine W_cond_t rfl ?_
   refine W_seq (W_region ?_)
   refine Was (.int .i64 0) ?_
   refine Was (.int .i64 0) ?_
   refine Was (.int .i64 3) ?_
   refine Wl_nil ?_
   refine W_ret ?_
   refine ret_end (v := .tuple #[.int .i64 0, .int .i64 0, .int .i64 3]) rfl (res3 results129 rfl rfl rfl) ?_
   rw [hdt.2, if_neg (by omega)]
   exact ⟨_, rfl, (vtup3 (by first | rfl | exact vint (by omega)) (by first | rfl | exact vint (by omega)) (by first | rfl | exact vint (by omega))), HU⟩
  rw [decide_eq_false q5]
  refine W_cond_f rfl ?_
  refine W_skip (W_seq ?_)
  refine W_drawt rfl (l0 := tf 0 7) (by kernel_rfl) ?_
  refine Tk 0 (tf 1 7) rfl (YI_v (v := .pointer (some ⟨B4, 0, none⟩)) rfl (fun w' hw' => r_fld underlying201 rfl sizeOf3 rfl rfl)) ?_
  refine Tk 1 (tf 2 7) rfl (YI_v (v := .int .i64 (((tbl l).getD (idx l bits m).toNat (0, 0)).1)) rfl (fun w' hw' => r_load isAgg3 rfl (by rw [(hb4.upd0 hw').cell]; rfl))) ?_
  refine Tk 2 (tf 3 7) rfl (YI_v (v := .pointer (some ⟨B4, 1, none⟩)) rfl (fun w' hw' => r_fld underlying201 rfl sizeOf3 rfl rfl)) ?_
  refine Tk 3 (tf 4 7) rfl (YI_v (v := .int .i64 (((tbl l).getD (idx l bits m).toNat (0, 0)).2)) rfl (fun w' hw' => r_load isAgg3 rfl (by rw [(hb4.upd0 hw').cell]; rfl))) ?_
  refine Tk 4 (tf 5 7) rfl (YI_v (v := .int .i64 (((tbl l).getD (idx l bits m).toNat (0, 0)).1)) rfl (fun w' hw' => r_as (v := .int .i64 (((tbl l).getD (idx l bits m).toNat (0, 0)).1)) rfl)) ?_
  refine Tk 5 (tf 6 7) rfl (YI_v (v := .int .i64 (((tbl l).getD (idx l bits m).toNat (0, 0)).2)) rfl (fun w' hw' => r_as (v := .int .i64 (((tbl l).getD (idx l bits m).toNat (0, 0)).2)) rfl)) ?_
  refine Tk 6 (tf 7 7) rfl (YI_v (v := .int .i64 0) rfl (fun w' hw' => r_as (v := .int .i64 0) rfl)) ?_
  intro w9 hU9
  have hzw9 := hU9.size
  replace HU := HU.trans0 hU9
  try replace hW := hW.trans0 hU9
  refine Wa_done (by kernel_rfl) ?_
  refine W_ret ?_
  refine ret_end (v := .tuple #[.int .i64 (((tbl l).getD (idx l bits m).toNat (0, 0)).1), .int .i64 (((tbl l).getD (idx l bits m).toNat (0, 0)).2), .int .i64 0]) rfl (res3 results129 rfl rfl rfl) ?_
  rw [hdt.2, if_pos (by omega)]
  exact ⟨_, rfl, (vtup3 (by first | rfl | exact vint (by omega)) (by first | rfl | exact vint (by omega)) (by first | rfl | exact vint (by omega))), HU⟩
 rw [decide_eq_false q3]
 refine Wl_guard_f rfl (Wl_guard_f rfl (Wl_guard_f rfl (Wl_guard_f rfl (Wl_guard_t rfl ?_))))
 refine Wl_v (r_pick_f (v := .bool false) rfl rfl) ?_
 refine Wl_v (r_pick_f (v := .bool false) rfl rfl) ?_
 refine Was (.bool false) ?_
 refine Wl_nil ?_
 refine W_cond_f rfl ?_
 refine W_skip (W_seq ?_)
 have hva : Va bits m := ⟨by omega, by have hp0 := pdiv0 bits m (by omega); omega⟩
 have hdt := dec_tbl hr hbits.1 hbits.2 hva
 refine W_drawt rfl (l0 := tf 0 25) (by kernel_rfl) ?_
 refine Tk 0 (tf 1 25) rfl (YI_v (v := .pointer (some ⟨tb, 0, none⟩)) rfl (fun w' hw' => r_mv (v := .pointer (some ⟨tb, 0, none⟩)) rfl)) ?_
 refine Tk 1 (tf 2 25) rfl (YI_v (v := .pointer (some ⟨tb, 0, none⟩)) rfl (fun w' hw' => r_nil rfl)) ?_
 refine Tk 2 (tf 3 25) rfl (YI_v (v := .pointer (some ⟨tb, 0, none⟩)) rfl (fun w' hw' => r_fld underlying198 rfl sizeOf196 rfl rfl)) ?_
 refine Tk 3 (tf 4 25) rfl (YI_v (v := .slice ea (2 ^ bt l) ec) rfl (fun w' hw' => r_load isAgg196 rfl (by rw [(hT.upd0 hw').cell]; rfl))) ?_
 refine Tk 4 (tf 5 25) rfl (YI_v (v := .int .u64 bits) rfl (fun w' hw' => r_mv (v := .int .u64 bits) rfl)) ?_
 refine Tk 5 (tf 6 25) rfl (YI_v (v := .pointer (some ⟨tb, 0, none⟩)) rfl (fun w' hw' => r_mv (v := .pointer (some ⟨tb, 0, none⟩)) rfl)) ?_
 refine Tk 6 (tf 7 25) rfl (YI_v (v := .pointer (some ⟨tb, 0, none⟩)) rfl (fun w' hw' => r_nil rfl)) ?_
 refine Tk 7 (tf 8 25) rfl (YI_v (v := .pointer (some ⟨tb, 1, none⟩)) rfl (fun w' hw' => r_fld underlying198 rfl sizeOf3 rfl rfl)) ?_
 refine Tk 8 (tf 9 25) rfl (YI_v (v := .int .i64 ((bt l : Nat) : Int)) rfl (fun w' hw' => r_load isAgg3 rfl (by rw [(hT.upd0 hw').cell]; rfl))) ?_
 refine Tk 9 (tf 10 25) rfl (YI_v (v := .int .i64 m) rfl (fun w' hw' => r_mv (v := .int .i64 m) rfl)) ?_
 refine Tk 10 (tf 11 25) rfl (YI_v (v := .int .i64 (((bt l : Nat) : Int) - m)) rfl (fun w' hw' => r_sub rfl rfl (wi64 (by omega) (by omega)))) ?_
 refine Tk 11 (tf 12 25) rfl (YI_v (v := .int .i64 (max 0 (((bt l : Nat) : Int) - m))) rfl (fun w' hw' => r_max rfl rfl)) ?_
 refine Tk 12 (tf 13 25) rfl (YI_v (v := .int .u64 (bits * 2 ^ (max 0 (((bt l : Nat) : Int) - m)).toNat)) rfl (fun w' hw' => r_shl rfl rfl (by omega) (shl_idx hr hbits.1 hbits.2 hva))) ?_
 refine Tk 13 (tf 14 25) rfl (YI_v (v := .int .i64 m) rfl (fun w' hw' => r_mv (v := .int .i64 m) rfl)) ?_
 refine Tk 14 (tf 15 25) rfl (YI_v (v := .pointer (some ⟨tb, 0, none⟩)) rfl (fun w' hw' => r_mv (v := .pointer (some ⟨tb, 0, none⟩)) rfl)) ?_
 refine Tk 15 (tf 16 25) rfl (YI_v (v := .pointer (some ⟨tb, 0, none⟩)) rfl (fun w' hw' => r_nil rfl)) ?_
 refine Tk 16 (tf 17 25) rfl (YI_v (v := .pointer (some ⟨tb, 1, none⟩)) rfl (fun w' hw' => r_fld underlying198 rfl sizeOf3 rfl rfl)) ?_
 refine Tk 17 (tf 18 25) rfl (YI_v (v := .int .i64 ((bt l : Nat) : Int)) rfl (fun w' hw' => r_load isAgg3 rfl (by rw [(hT.upd0 hw').cell]; rfl))) ?_
 refine Tk 18 (tf 19 25) rfl (YI_v (v := .int .i64 (m - ((bt l : Nat) : Int))) rfl (fun w' hw' => r_sub rfl rfl (wi64 (by omega) (by omega)))) ?_
 refine Tk 19 (tf 20 25) rfl (YI_v (v := .int .i64 (max 0 (m - ((bt l : Nat) : Int)))) rfl (fun w' hw' => r_max rfl rfl)) ?_
 refine Tk 20 (tf 21 25) rfl (YI_v (v := .int .u64 (idx l bits m)) rfl (fun w' hw' => r_shr rfl rfl (by omega) (shr_idx hr hva))) ?_
 obtain ⟨ib10, io10, ha10, hib10, hc10⟩ := Sl.rat (0, 0) encE_len (by decide) (hE) (i := (idx l bits m).toNat) (by omega)
 refine Tk 21 (tf 22 25) rfl (YI_v (v := .pointer (some ⟨ib10, io10 + ((idx l bits m).toNat) * 2, none⟩)) rfl (fun w' hw' => r_idx (b := ib10) (off := io10) (m := 2 ^ bt l) (c := ec) (o' := io10 + ((idx l bits m).toNat) * 2) underlying196 sizeOf201 (by rw [← ha10]; rfl) rfl (by omega) (by omega) (by omega))) ?_
 refine Tk 22 (tf 23 25) rfl (YI_v (v := .agg #[.int .i64 (((tbl l).getD (idx l bits m).toNat (0, 0)).1), .int .i64 (((tbl l).getD (idx l bits m).toNat (0, 0)).2)]) rfl (fun w' hw' => r_loada (cs := [.int .i64 (((tbl l).getD (idx l bits m).toNat (0, 0)).1), .int .i64 (((tbl l).getD (idx l bits m).toNat (0, 0)).2)]) isAgg201 sizeOf201 rfl rfl (hw'.cellsk rfl hc10))) ?_
 intro w11 hU11
 have hzw11 := hU11.size
 replace HU := HU.trans0 hU11
 refine Wa_one (i := 23) (listed' := tf 24 25) (by kernel_rfl) rfl (by kernel_rfl) ?_
 refine Ws_of_Wl ?_
 have hW : Upd No w1 w11 := hU11
 refine Wl_alloc (cs := [.int .i64 0, .int .i64 0]) zeroValue201 rfl ?_
 intro B12 w12 hB12 hU12 hzz12 hb12
 have hzw12 := hU12.size
 replace HU := HU.trans0 hU12
 try replace hW := hW.trans0 hU12
 refine Wl_nil ?_
 intro w13 hS13
 have hX : Upd No w1 w13 := hW.trans0 hS13.upd
 refine ⟨fun _ => ⟨hX, ?_⟩, fun h => absurd h (by rw [show barOp _ 23 = false from by kernel_rfl]; simp)⟩
 have hU13 := hS13.upd
 have hzw13 := hU13.size
 replace HU := HU.trans0 hU13
 replace hb12 := hb12.upd0 hU13
 try replace hW := hW.trans0 hU13
 refine Wt_base hX ?_
 intro w14 hU14
 have hzw14 := hU14.size
 replace HU := HU.trans0 hU14
 replace hb12 := hb12.upd0 hU14
 try replace hW := hW.trans0 hU14
 refine Wa_one (i := 24) (listed' := tf 25 25) (by kernel_rfl) rfl (by kernel_rfl) ?_
 refine Ws_of_Wl ?_
 have hW : Upd No w13 w14 := hU14
 refine Wl_storea (off := 0) (vs := [.int .i64 (((tbl l).getD (idx l bits m).toNat (0, 0)).1), .int .i64 (((tbl l).getD (idx l bits m).toNat (0, 0)).2)]) (cs' := [.int .i64 (((tbl l).getD (idx l bits m).toNat (0, 0)).1), .int .i64 (((tbl l).getD (idx l bits m).toNat (0, 0)).2)]) sizeOf201 rfl rfl rfl (by simp only [List.mem_cons, List.not_mem_nil, or_false, forall_eq_or_imp, forall_eq]; exact ⟨rfl, rfl⟩) hb12 (by simp) rfl ?_
 intro w15 hU15 hzz15 hb12n
 replace hb12 := hb12n; clear hb12n
 have hzw15 := hU15.size
 replace HU := HU.t1 hU15 (by omega)
 refine Wl_nil ?_
 intro w16 hS16
 refine ⟨fun h => absurd h (by rw [show barOp _ 24 = true from by kernel_rfl]; simp), fun _ => ⟨Upd No w16, ?_⟩⟩
 have hU16 := hS16.upd
 have hzw16 := hU16.size
 replace HU := HU.trans0 hU16
 replace hb12 := hb12.upd0 hU16
 try replace hW := hW.trans0 hU16
 refine Wa_done (by kernel_rfl) ?_
 refine W_seq (W_seq (W_region ?_))
 refine Wl_v (r_fld underlying201 rfl sizeOf3 rfl rfl) ?_
 refine Wl_load (v := .int .i64 (((tbl l).getD (idx l bits m).toNat (0, 0)).2)) isAgg3 rfl hb12 rfl ?_
 refine Wmv (.int .i64 m) ?_
 refine Wl_v (r_gt rfl rfl) ?_
 refine Wl_nil ?_
 by_cases q6 : m < (((tbl l).getD (idx l bits m).toNat (0, 0)).2)
 ·rw [decide_eq_true q6]
  refine W_cond_t rfl ?_
  refine W_seq (W_region ?_)
  refine Was (.int .i64 0) ?_
  refine Was (.int .i64 0) ?_
  refine Was (.int .i64 3) ?_
  refine Wl_nil ?_
  refine W_ret ?_
  refine ret_end (v := .tuple #[.int .i64 0, .int .i64 0, .int .i64 3]) rfl (res3 results129 rfl rfl rfl) ?_
  rw [hdt.2, if_neg (by omega)]
  exact ⟨_, rfl, (vtup3 (by first | rfl | exact vint (by omega)) (by first | rfl | exact vint (by omega)) (by first | rfl | exact vint (by omega))), HU⟩
 rw [decide_eq_false q6]
 refine W_cond_f rfl ?_
 refine W_skip (W_seq ?_)
 refine W_drawt rfl (l0 := tf 0 7) (by kernel_rfl) ?_
 refine Tk 0 (tf 1 7) rfl (YI_v (v := .pointer (some ⟨B12, 0, none⟩)) rfl (fun w' hw' => r_fld underlying201 rfl sizeOf3 rfl rfl)) ?_
 refine Tk 1 (tf 2 7) rfl (YI_v (v := .int .i64 (((tbl l).getD (idx l bits m).toNat (0, 0)).1)) rfl (fun w' hw' => r_load isAgg3 rfl (by rw [(hb12.upd0 hw').cell]; rfl))) ?_
 refine Tk 2 (tf 3 7) rfl (YI_v (v := .pointer (some ⟨B12, 1, none⟩)) rfl (fun w' hw' => r_fld underlying201 rfl sizeOf3 rfl rfl)) ?_
 refine Tk 3 (tf 4 7) rfl (YI_v (v := .int .i64 (((tbl l).getD (idx l bits m).toNat (0, 0)).2)) rfl (fun w' hw' => r_load isAgg3 rfl (by rw [(hb12.upd0 hw').cell]; rfl))) ?_
 refine Tk 4 (tf 5 7) rfl (YI_v (v := .int .i64 (((tbl l).getD (idx l bits m).toNat (0, 0)).1)) rfl (fun w' hw' => r_as (v := .int .i64 (((tbl l).getD (idx l bits m).toNat (0, 0)).1)) rfl)) ?_
 refine Tk 5 (tf 6 7) rfl (YI_v (v := .int .i64 (((tbl l).getD (idx l bits m).toNat (0, 0)).2)) rfl (fun w' hw' => r_as (v := .int .i64 (((tbl l).getD (idx l bits m).toNat (0, 0)).2)) rfl)) ?_
 refine Tk 6 (tf 7 7) rfl (YI_v (v := .int .i64 0) rfl (fun w' hw' => r_as (v := .int .i64 0) rfl)) ?_
 intro w17 hU17
 have hzw17 := hU17.size
 replace HU := HU.trans0 hU17
 try replace hW := hW.trans0 hU17
 refine Wa_done (by kernel_rfl) ?_
 refine W_ret ?_
 refine ret_end (v := .tuple #[.int .i64 (((tbl l).getD (idx l bits m).toNat (0, 0)).1), .int .i64 (((tbl l).getD (idx l bits m).toNat (0, 0)).2), .int .i64 0]) rfl (res3 results129 rfl rfl rfl) ?_
 rw [hdt.2, if_pos (by omega)]
 exact ⟨_, rfl, (vtup3 (by first | rfl | exact vint (by omega)) (by first | rfl | exact vint (by omega)) (by first | rfl | exact vint (by omega))), HU⟩
end Go.Proofs.YtdppageondgjkaaGreat
