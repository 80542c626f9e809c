/-
 Walks, printed by a small program of this project (gen.py).
-/
import Derived.Test.YtilegaokfamfnaaXj
import Derived.Test.YtilegaokfamfnaaEa
import Derived.Test.YtilegaokfamfnaaFq
set_option linter.unusedVariables false
set_option linter.unusedSimpArgs false
namespace Go.Proofs.Ytilegaokfamfnaa
open Go.Fw

def encE (x : Int × Int) : List Value := [.int .i64 x.1, .int .i64 x.2]
theorem encE_len (x : Int × Int) : (encE x).length = 2 := rfl
theorem encE_one (x : Int × Int) : ∀ u ∈ encE x, u.oneCell' = true := by
 intro u hu; simp only [encE, List.mem_cons, List.not_mem_nil, or_false] at hu; rcases hu with rfl | rfl <;> rfl
theorem and32 {x : Int} (h0 : 0 ≤ x) (h1 : x < 4294967296) : IntKind.u64.wrap (((x % 2 ^ IntKind.u64.bits).toNat &&& (4294967295 % 2 ^ IntKind.u64.bits : Int).toNat : Nat) : Int) = x := by
 have e : (2 ^ IntKind.u64.bits : Int) = 18446744073709551616 := by decide
 have e2 : (4294967295 % 18446744073709551616 : Int).toNat = 2 ^ 32 - 1 := by decide
 rw [e, e2, Nat.and_two_pow_sub_one_eq_mod, wu64 (by omega) (by omega)]; omega
theorem shr32 {x : Int} (h0 : 0 ≤ x) (h1 : x < 4294967296) : x / 2 ^ (min (32 : Int).toNat IntKind.u64.bits) = 0 := by
 have e : (2 : Int) ^ (min (32 : Int).toNat IntKind.u64.bits) = 4294967296 := by decide
 rw [e]; omega
theorem rep_first {M : Nat} {x : Int × Int} (h : 1 ≤ M) : (List.replicate M ((0, 0) : Int × Int)).take 0 ++ [x].take (min 1 M) ++ (List.replicate M (0, 0)).drop (0 + min 1 M) = List.replicate 1 x ++ List.replicate (M - 1) (0, 0) := by
 rw [show min 1 M = 1 from by omega]; simp
theorem rep_dbl {M k : Nat} {x : Int × Int} (h : k ≤ M) : (List.replicate k x ++ List.replicate (M - k) ((0, 0) : Int × Int)).take k ++ ((List.replicate k x ++ List.replicate (M - k) (0, 0)).take k).take (min k (M - k)) ++ (List.replicate k x ++ List.replicate (M - k) (0, 0)).drop (k + min k (M - k)) =
  List.replicate (k + min k (M - k)) x ++ List.replicate (M - (k + min k (M - k))) (0, 0) := by
 generalize hj : min k (M - k) = j
 rw [List.take_left' (by simp), ← List.replicate_append_replicate, List.take_replicate, show min j k = j from by omega, List.drop_append, List.drop_replicate, List.drop_replicate, List.length_replicate, show k - (k + j) = 0 from by omega, show k + j - k = j from by omega, show M - k - j = M - (k + j) from by omega]
 simp
theorem shlT {d : Int} (h0 : 0 ≤ d) (h1 : d ≤ 11) : IntKind.i64.wrap (1 * 2 ^ (min d.toNat IntKind.i64.bits)) = ((2 ^ d.toNat : Nat) : Int) := by
 have e : min d.toNat IntKind.i64.bits = d.toNat := by show min _ 64 = _; omega
 have h2 := p2_le11 (a := d.toNat) (by omega)
 rw [e, ← p2_nat] at *
 have h3 := p2_nat d.toNat
 unfold p2 at h3
 rw [← h3, Int.one_mul]
 exact wi64 (by omega) (by omega)

set_option maxRecDepth 100000 in
theorem mul64_1 {m : Int} (w : World) (hm : 0 ≤ m ∧ m < 4294967296) :
  Calls Try.prog 110 #[.int .u64 1, .int .u64 m] w (Ret fun v w' => v = .tuple #[.int .u64 0, .int .u64 m] ∧ Upd No w w') := by
 have HU : Upd (fun b => False) w w := Upd.refl _ _
 refine calls_of_W Try.func110 rfl Try.ntmps110 (by simp) ?_
 refine W_seq ?_
 refine W_region ?_
 refine Wl_v (r_as (v := .int .u64 0) rfl) ?_
 refine Wl_v (r_as (v := .int .u64 0) rfl) ?_
 refine Wl_nil ?_
 refine W_seq ?_
 refine W_region ?_
 refine Wl_v (r_mv (v := .int .u64 1) rfl) ?_
 refine Wl_v (r_and rfl rfl (show _ = (1 : Int) from by decide)) ?_
 refine Wl_v (r_as (v := .int .u64 1) rfl) ?_
 refine Wl_nil ?_
 refine W_seq ?_
 refine W_region ?_
 refine Wl_v (r_mv (v := .int .u64 1) rfl) ?_
 refine Wl_v (r_shr rfl rfl (by decide) (shr32 (by omega) (by omega))) ?_
 refine Wl_v (r_as (v := .int .u64 0) rfl) ?_
 refine Wl_nil ?_
 refine W_seq ?_
 refine W_region ?_
 refine Wl_v (r_mv (v := .int .u64 m) rfl) ?_
 refine Wl_v (r_and rfl rfl (and32 (by omega) (by omega))) ?_
 refine Wl_v (r_as (v := .int .u64 m) rfl) ?_
 refine Wl_nil ?_
 refine W_seq ?_
 refine W_region ?_
 refine Wl_v (r_mv (v := .int .u64 m) rfl) ?_
 refine Wl_v (r_shr rfl rfl (by decide) (shr32 (by omega) (by omega))) ?_
 refine Wl_v (r_as (v := .int .u64 0) rfl) ?_
 refine Wl_nil ?_
 refine W_seq ?_
 refine W_region ?_
 refine Wl_v (r_mv (v := .int .u64 1) rfl) ?_
 refine Wl_v (r_mv (v := .int .u64 m) rfl) ?_
 refine Wl_v (r_mul rfl rfl (show _ = m from by rw [Int.one_mul]; exact wu64 (by omega) (by omega))) ?_
 refine Wl_v (r_as (v := .int .u64 m) rfl) ?_
 refine Wl_nil ?_
 refine W_seq ?_
 refine W_region ?_
 refine Wl_v (r_mv (v := .int .u64 0) rfl) ?_
 refine Wl_v (r_mv (v := .int .u64 m) rfl) ?_
 refine Wl_v (r_mul rfl rfl (show _ = (0 : Int) from by first | (rw [Int.zero_mul]; decide) | (rw [Int.mul_zero]; decide))) ?_
 refine Wl_v (r_mv (v := .int .u64 m) rfl) ?_
 refine Wl_v (r_shr rfl rfl (by decide) (shr32 (by omega) (by omega))) ?_
 refine Wl_v (r_add rfl rfl (wu64 (by omega) (by omega))) ?_
 refine Wl_v (r_as (v := .int .u64 (0 + 0)) rfl) ?_
 refine Wl_nil ?_
 refine W_seq ?_
 refine W_region ?_
 refine Wl_v (r_mv (v := .int .u64 (0 + 0)) rfl) ?_
 refine Wl_v (r_and rfl rfl (and32 (by omega) (by omega))) ?_
 refine Wl_v (r_as (v := .int .u64 (0 + 0)) rfl) ?_
 refine Wl_nil ?_
 refine W_seq ?_
 refine W_region ?_
 refine Wl_v (r_mv (v := .int .u64 (0 + 0)) rfl) ?_
 refine Wl_v (r_shr rfl rfl (by decide) (shr32 (by omega) (by omega))) ?_
 refine Wl_v (r_as (v := .int .u64 0) rfl) ?_
 refine Wl_nil ?_
 refine W_seq ?_
 refine W_region ?_
 refine Wl_v (r_mv (v := .int .u64 (0 + 0)) rfl) ?_
 refine Wl_v (r_mv (v := .int .u64 1) rfl) ?_
 refine Wl_v (r_mv (v := .int .u64 0) rfl) ?_
 refine Wl_v (r_mul rfl rfl (show _ = (0 : Int) from by first | (rw [Int.zero_mul]; decide) | (rw [Int.mul_zero]; decide))) ?_
 refine Wl_v (r_add rfl rfl (wu64 (by omega) (by omega))) ?_
 refine Wl_v (r_as (v := .int .u64 ((0 + 0) + 0)) rfl) ?_
 refine Wl_nil ?_
 refine W_seq ?_
 refine W_region ?_
 refine Wl_v (r_mv (v := .int .u64 0) rfl) ?_
 refine Wl_v (r_mv (v := .int .u64 0) rfl) ?_
 refine Wl_v (r_mul rfl rfl (show _ = (0 : Int) from by first | (rw [Int.zero_mul]; decide) | (rw [Int.mul_zero]; decide))) ?_
 refine Wl_v (r_mv (v := .int .u64 0) rfl) ?_
 refine Wl_v (r_add rfl rfl (wu64 (by omega) (by omega))) ?_
 refine Wl_v (r_mv (v := .int .u64 ((0 + 0) + 0)) rfl) ?_
 refine Wl_v (r_shr rfl rfl (by decide) (shr32 (by omega) (by omega))) ?_
 refine Wl_v (r_add rfl rfl (wu64 (by omega) (by omega))) ?_
 refine Wl_v (r_as (v := .int .u64 ((0 + 0) + 0)) rfl) ?_
 refine Wl_nil ?_
 refine W_seq ?_
 refine W_region ?_
 refine Wl_v (r_mv (v := .int .u64 1) rfl) ?_
 refine Wl_v (r_mv (v := .int .u64 m) rfl) ?_
 refine Wl_v (r_mul rfl rfl (show _ = m from by rw [Int.one_mul]; exact wu64 (by omega) (by omega))) ?_
 refine Wl_v (r_as (v := .int .u64 m) rfl) ?_
 refine Wl_nil ?_
 refine W_ret ?_
 refine ret_end (v := .tuple #[.int .u64 ((0 + 0) + 0), .int .u64 m]) rfl (res2 Try.results110 rfl rfl) ?_
 exact ⟨_, rfl, (vtup2 (by first | rfl | exact vint (by omega)) rfl), HU⟩

set_option maxRecDepth 100000 in
theorem mul_1 {m : Int} (w : World) (hm : 0 ≤ m ∧ m < 4294967296) :
  Calls Try.prog 108 #[.int .u64 1, .int .u64 m] w (Ret fun v w' => v = .tuple #[.int .u64 0, .int .u64 m] ∧ Upd No w w') := by
 have HU : Upd (fun b => False) w w := Upd.refl _ _
 refine calls_of_W Try.func108 rfl Try.ntmps108 (by simp) ?_
 refine W_seq ?_
 refine W_region ?_
 refine Wl_v (r_as (v := .int .u64 0) rfl) ?_
 refine Wl_v (r_as (v := .int .u64 0) rfl) ?_
 refine Wl_nil ?_
 refine W_seq ?_
 refine W_cond_f rfl ?_
 refine W_skip ?_
 refine W_seq ?_
 refine W_region ?_
 refine Wl_v (r_mv (v := .int .u64 1) rfl) ?_
 refine Wl_v (r_mv (v := .int .u64 m) rfl) ?_
 refine Wl_call (r_call2 rfl Try.call110 rfl rfl) (mul64_1 _ (by omega)) ?_
 rintro v w1 ⟨rfl, hU1⟩
 have hzw1 := hU1.size
 replace HU := HU.trans0 hU1
 refine Wl_v (r_mv (v := .tuple #[.int .u64 0, .int .u64 m]) rfl) ?_
 refine Wl_v (r_ext (v := .int .u64 0) rfl rfl) ?_
 refine Wl_v (r_ext (v := .int .u64 m) rfl rfl) ?_
 refine Wl_v (r_as (v := .int .u64 0) rfl) ?_
 refine Wl_v (r_as (v := .int .u64 m) rfl) ?_
 refine Wl_nil ?_
 refine W_seq ?_
 refine W_region ?_
 refine Wl_v (r_mv (v := .int .u64 0) rfl) ?_
 refine Wl_v (r_mv (v := .int .u64 m) rfl) ?_
 refine Wl_v (r_as (v := .int .u64 0) rfl) ?_
 refine Wl_v (r_as (v := .int .u64 m) rfl) ?_
 refine Wl_nil ?_
 refine W_ret ?_
 refine ret_end (v := .tuple #[.int .u64 0, .int .u64 m]) rfl (res2 Try.results108 rfl rfl) ?_
 exact ⟨_, rfl, rfl, HU⟩

set_option maxRecDepth 100000 in
theorem repeat1 {a : Option Addr} {c : Nat} {x : Int × Int} {m : Int} (w : World) (hs : Sl w (fun g => g < w.heap.size) 2 (.slice a 1 c) 1 (rows encE [x])) (hm : 1 ≤ m ∧ m ≤ 2048) :
  Calls Try.prog 107 #[.slice a 1 c, .int .i64 m] w (Ret fun v w' => ∃ (a' : Option Addr) (c' : Nat), v = .slice a' ((m).toNat) c' ∧ Own w' (fun g => w.heap.size ≤ g) 134 2 (.slice a' ((m).toNat) c') ((m).toNat) (rows encE (List.replicate (m).toNat x)) ∧ Upd No w w') := by
 have HU : Upd (fun b => False) w w := Upd.refl _ _
 have hl_hs := rlen encE_len (by decide) hs
 have hc_hs := hs.cap.1
 refine calls_of_W Try.func107 rfl Try.ntmps107 (by simp) ?_
 refine W_seq ?_
 refine W_region ?_
 refine Wl_v (r_as (v := .slice none 0 0) rfl) ?_
 refine Wl_nil ?_
 refine W_seq ?_
 refine W_seq ?_
 refine W_region ?_
 refine Wl_v (r_mv (v := .int .i64 m) rfl) ?_
 refine Wl_v (r_lt rfl rfl) ?_
 refine Wl_nil ?_
 have q1 : ¬ (m < 0) := (by omega)
 rw [decide_eq_false q1]
 refine W_cond_f rfl ?_
 refine W_skip ?_
 refine W_seq ?_
 refine W_region ?_
 refine Wl_v (r_mv (v := .slice a 1 c) rfl) ?_
 refine Wl_v (r_len Try.underlying135 rfl) ?_
 refine Wl_v (r_cvt Try.underlying3 Try.underlying75 rfl (wu64 (by omega) (by omega))) ?_
 refine Wl_v (r_mv (v := .int .i64 m) rfl) ?_
 refine Wl_v (r_cvt Try.underlying3 Try.underlying75 rfl (wu64 (by omega) (by omega))) ?_
 refine Wl_call (r_call2 rfl Try.call108 rfl rfl) (mul_1 _ (by omega)) ?_
 rintro v w1 ⟨rfl, hU1⟩
 have hzw1 := hU1.size
 replace hs := hs.upd0 hU1
 replace HU := HU.trans0 hU1
 refine Wl_v (r_mv (v := .tuple #[.int .u64 0, .int .u64 m]) rfl) ?_
 refine Wl_v (r_ext (v := .int .u64 0) rfl rfl) ?_
 refine Wl_v (r_ext (v := .int .u64 m) rfl rfl) ?_
 refine Wl_v (r_as (v := .int .u64 0) rfl) ?_
 refine Wl_v (r_as (v := .int .u64 m) rfl) ?_
 refine Wl_nil ?_
 refine W_seq ?_
 refine W_seq ?_
 refine W_region ?_
 refine Wl_v (r_mv (v := .int .u64 0) rfl) ?_
 refine Wl_v (v := .bool false) (r_gt (a := 0) (b := 0) rfl rfl) ?_
 refine Wl_v (r_mv (v := .bool false) rfl) ?_
 refine Wl_guard_t rfl ?_
 refine Wl_v (r_mv (v := .int .u64 m) rfl) ?_
 refine Wl_guard_t rfl ?_
 refine Wl_v (r_gt rfl rfl) ?_
 refine Wl_v (r_pick_f (v := .bool (decide (9223372036854775807 < m))) rfl rfl) ?_
 refine Wl_nil ?_
 have q2 : ¬ (9223372036854775807 < m) := (by omega)
 rw [decide_eq_false q2]
 refine W_cond_f rfl ?_
 refine W_skip ?_
 refine W_seq ?_
 refine W_region ?_
 refine Wl_v (r_mv (v := .int .u64 m) rfl) ?_
 refine Wl_v (r_cvt Try.underlying75 Try.underlying3 rfl (wi64 (by omega) (by omega))) ?_
 refine Wl_makeo (c' := (m).toNat) (zc := [.int .i64 0, .int .i64 0]) (cs := rows encE (List.replicate ((m).toNat) (0, 0))) (sz := 2) Try.underlying135 (ti := Try.t134) (z := .agg #[.int .i64 0, .int .i64 0]) rfl rfl rfl rfl (by decide) rfl rfl (by omega) (by omega) (by show 16 * _ ≤ _; omega) (by simp only [maxLen]; omega) (rows_rep (enc := encE) (0, 0) _) rfl ?_
 intro B2 w2 hB2 hU2 hzz2 hO2
 have hzw2 := hU2.size
 replace hs := hs.upd0 hU2
 replace HU := HU.trans0 hU2
 have hl_hO2 := rlen encE_len (by decide) hO2.sl
 have hc_hO2 := hO2.sl.cap.1
 refine Wl_v (r_as (v := .slice (some ⟨B2, 0, none⟩) ((m).toNat) ((m).toNat)) rfl) ?_
 refine Wl_nil ?_
 refine W_seq ?_
 refine W_region ?_
 refine Wl_v (r_mv (v := .slice (some ⟨B2, 0, none⟩) ((m).toNat) ((m).toNat)) rfl) ?_
 refine Wl_v (r_mv (v := .slice a 1 c) rfl) ?_
 refine Wl_copyr (o := 0) encE_len (by decide) encE_one Try.underlying135 rfl rfl rfl hO2 hs (by omega) (by omega) ?_
 intro w3 hU3 hzz3 hO3
 clear hO2
 have hzw3 := hU3.size
 replace HU := HU.trans1 hU3 (by show (False) ∨ w.heap.size ≤ B2; omega)
 replace hO3 := hO3.rcong (rep_first (by omega))
 have hl_hO3 := rlen encE_len (by decide) hO3.sl
 have hc_hO3 := hO3.sl.cap.1
 refine Wl_v (r_as (v := .int .i64 ((min 1 ((m).toNat) : Nat) : Int)) rfl) ?_
 refine Wl_nil ?_
 refine W_seq ?_
 refine W_block ?_
 refine W_loop (fun mu ρ ds w' => ∃ (k : Nat), (m).toNat - k = mu ∧ ds = [] ∧ Liv ρ [(7, .slice (some ⟨B2, 0, none⟩) ((m).toNat) ((m).toNat)), (8, .int .i64 ((k : Nat) : Int))] ∧ 1 ≤ k ∧ k ≤ (m).toNat ∧ Own w' (fun g => g = B2) 134 2 (.slice (some ⟨B2, 0, none⟩) ((m).toNat) ((m).toNat)) ((m).toNat) (rows encE (List.replicate k x ++ List.replicate ((m).toNat - k) (0, 0))) ∧ Upd (Is B2) w3 w') _ ⟨1, rfl, rfl, ⟨rfl, (Eq.trans (b := .int .i64 ((min 1 ((m).toNat) : Nat) : Int)) rfl (vint (by omega))), trivial⟩, (by omega), (by omega), hO3, Upd.refl _ _⟩ ?_
 rintro m4 ρ4 ds4 w4 ⟨k, rfl, rfl, hl4, hk1, hk, hO3, hU4⟩
 obtain ⟨ρ4x, rfl⟩ : ∃ ρx, ρ4 = upds ρx [(7, .slice (some ⟨B2, 0, none⟩) ((m).toNat) ((m).toNat)), (8, .int .i64 ((k : Nat) : Int))] := ⟨_, upds_self hl4⟩
 clear hl4
 have hzw4 := hU4.size
 replace HU := HU.trans1 hU4 (by show (False) ∨ w.heap.size ≤ B2; omega)
 have HL4 := hU4
 refine W_seq ?_
 refine W_seq ?_
 refine W_region ?_
 refine Wl_v (r_mv (v := .int .i64 ((k : Nat) : Int)) rfl) ?_
 refine Wl_v (r_mv (v := .slice (some ⟨B2, 0, none⟩) ((m).toNat) ((m).toNat)) rfl) ?_
 refine Wl_v (r_len Try.underlying135 rfl) ?_
 refine Wl_v (r_lt rfl rfl) ?_
 refine Wl_nil ?_
 by_cases q3 : ((k : Nat) : Int) < (((m).toNat : Nat) : Int)
 ·rw [decide_eq_true q3]
  refine W_cond_t rfl ?_
  refine W_skip ?_
  refine W_block ?_
  refine W_drawS (T := fun g => g = B2) rfl (l0 := tf 0 10) (by kernel_rfl) ?_
  refine WtS_take (i := 0) (listed' := tf 1 10) (Upd.refl _ _) (by kernel_rfl) rfl (by kernel_rfl) (by kernel_rfl) (by kernel_rfl) (by kernel_rfl) (YS_v (v := .int .i64 ((k : Nat) : Int)) rfl (fun w' hw' => r_mv (v := .int .i64 ((k : Nat) : Int)) rfl)) ?_
  refine WtS_take (i := 1) (listed' := tf 2 10) (Upd.refl _ _) (by kernel_rfl) rfl (by kernel_rfl) (by kernel_rfl) (by kernel_rfl) (by kernel_rfl) (YS_v (v := .slice (some ⟨B2, 0, none⟩) ((m).toNat) ((m).toNat)) rfl (fun w' hw' => r_mv (v := .slice (some ⟨B2, 0, none⟩) ((m).toNat) ((m).toNat)) rfl)) ?_
  refine WtS_take (i := 2) (listed' := tf 3 10) (Upd.refl _ _) (by kernel_rfl) rfl (by kernel_rfl) (by kernel_rfl) (by kernel_rfl) (by kernel_rfl) (YS_v (v := .int .i64 ((k : Nat) : Int)) rfl (fun w' hw' => r_mv (v := .int .i64 ((k : Nat) : Int)) rfl)) ?_
  refine WtS_take (i := 3) (listed' := tf 4 10) (Upd.refl _ _) (by kernel_rfl) rfl (by kernel_rfl) (by kernel_rfl) (by kernel_rfl) (by kernel_rfl) (YS_v (v := .slice (some ⟨B2, k * 2, none⟩) (((m).toNat) - k) (((m).toNat) - k)) rfl (fun w' hw' => r_slicelt (l' := k) Try.underlying135 Try.sizeOf134 rfl rfl rfl (by omega) (by omega))) ?_
  refine WtS_take (i := 4) (listed' := tf 5 10) (Upd.refl _ _) (by kernel_rfl) rfl (by kernel_rfl) (by kernel_rfl) (by kernel_rfl) (by kernel_rfl) (YS_v (v := .slice (some ⟨B2, 0, none⟩) ((m).toNat) ((m).toNat)) rfl (fun w' hw' => r_mv (v := .slice (some ⟨B2, 0, none⟩) ((m).toNat) ((m).toNat)) rfl)) ?_
  refine WtS_take (i := 5) (listed' := tf 6 10) (Upd.refl _ _) (by kernel_rfl) rfl (by kernel_rfl) (by kernel_rfl) (by kernel_rfl) (by kernel_rfl) (YS_v (v := .int .i64 ((k : Nat) : Int)) rfl (fun w' hw' => r_mv (v := .int .i64 ((k : Nat) : Int)) rfl)) ?_
  refine WtS_take (i := 6) (listed' := tf 7 10) (Upd.refl _ _) (by kernel_rfl) rfl (by kernel_rfl) (by kernel_rfl) (by kernel_rfl) (by kernel_rfl) (YS_v (v := .slice (some ⟨B2, 0, none⟩) k ((m).toNat)) rfl (fun w' hw' => r_slicehn (h' := k) Try.underlying135 Try.sizeOf134 rfl rfl (by omega) (by omega))) ?_
  intro w5 hU5
  have hzw5 := hU5.size
  replace hO3 := hO3.upd0 hU5
  replace HL4 := HL4.trans0 hU5
  refine Wa_one (i := 7) (listed' := tf 8 10) (by kernel_rfl) rfl (by kernel_rfl) ?_
  refine Ws_of_Wl ?_
  have hW : Upd (fun g => g = B2) w4 w4 := (Upd.refl _ _)
  replace hW := hW.trans0 hU5
  refine Wl_copyr (o := k) encE_len (by decide) encE_one Try.underlying135 rfl rfl rfl hO3 (Sl.rhd encE_len hO3.sl (k := k) (by omega)) (by omega) (by omega) ?_
  intro w6 hU6 hzz6 hO6
  clear hO3
  have hzw6 := hU6.size
  replace HL4 := HL4.trans1 hU6 (by show (B2 = B2) ∨ w3.heap.size ≤ B2; omega)
  replace hW := hW.trans1 hU6 (by show (B2 = B2) ∨ w4.heap.size ≤ B2; omega)
  replace hO6 := hO6.rcong (rep_dbl (by omega))
  have hl_hO6 := rlen encE_len (by decide) hO6.sl
  have hc_hO6 := hO6.sl.cap.1
  refine Wl_nil ?_
  intro w7 hS7
  have hX7 : Upd _ w4 w7 := hW.trans0 hS7.upd
  refine ⟨fun _ => ⟨hX7, ?_⟩, fun h => absurd h (by rw [show barOp _ 7 = false from by kernel_rfl]; simp)⟩
  have hU7 := hS7.upd
  have hzw7 := hU7.size
  replace HL4 := HL4.trans0 hU7
  replace hO6 := hO6.upd0 hU7
  refine WtS_base ?_
  refine WtS_take (i := 8) (listed' := tf 9 10) hX7 (by kernel_rfl) rfl (by kernel_rfl) (by kernel_rfl) (by kernel_rfl) (by kernel_rfl) (YS_v (v := .int .i64 (((k : Nat) : Int) + ((min k (((m).toNat) - k) : Nat) : Int))) rfl (fun w' hw' => r_add rfl rfl (wi64 (by omega) (by omega)))) ?_
  refine WtS_take (i := 9) (listed' := tf 10 10) hX7 (by kernel_rfl) rfl (by kernel_rfl) (by kernel_rfl) (by kernel_rfl) (by kernel_rfl) (YS_v (v := .int .i64 (((k : Nat) : Int) + ((min k (((m).toNat) - k) : Nat) : Int))) rfl (fun w' hw' => r_as (v := .int .i64 (((k : Nat) : Int) + ((min k (((m).toNat) - k) : Nat) : Int))) rfl)) ?_
  intro w8 hU8
  have hzw8 := hU8.size
  replace HL4 := HL4.trans0 hU8
  replace hO6 := hO6.upd0 hU8
  refine Wa_done (by kernel_rfl) ?_
  refine ⟨_, ?_, (k + min k ((m).toNat - k)), rfl, rfl, ⟨rfl, (Eq.trans (b := .int .i64 (((k : Nat) : Int) + ((min k (((m).toNat) - k) : Nat) : Int))) rfl (vint (by omega))), trivial⟩, (by omega), (by omega), hO6, HL4⟩
  omega
 ·rw [decide_eq_false q3]
  refine W_cond_f rfl ?_
  refine W_exit ?_
  refine W_seq ?_
  refine W_region ?_
  refine Wl_v (r_mv (v := .slice (some ⟨B2, 0, none⟩) ((m).toNat) ((m).toNat)) rfl) ?_
  refine Wl_v (r_as (v := .slice (some ⟨B2, 0, none⟩) ((m).toNat) ((m).toNat)) rfl) ?_
  refine Wl_nil ?_
  refine W_ret ?_
  refine ret_end (v := .slice (some ⟨B2, 0, none⟩) ((m).toNat) ((m).toNat)) rfl (res1 Try.results107 rfl) ?_
  exact ⟨_, rfl, (some ⟨B2, 0, none⟩), (m).toNat, rfl, (by have e : k = m.toNat := (by omega); subst e; simpa using hO3.weak (by intro g hg; have h3 : g = B2 := hg; show w.heap.size ≤ g; omega)), HU⟩

set_option maxRecDepth 100000 in
theorem refused_0 {a : Option Addr} {n c : Nat} {l : List Int} (w : World) (hs : Sl w (fun g => g < w.heap.size) 1 (.slice a n c) n (ints .i64 l)) (hn : n ≤ 1000) (hz : ∀ i, l.getD i 0 = 0) :
  Calls Try.prog 95 #[.slice a n c] w (Ret fun v w' => v = .int .i64 0 ∧ Upd No w w') := by
 have HU : Upd (fun b => False) w w := Upd.refl _ _
 have hl_hs := ilen hs
 have hc_hs := hs.cap.1
 refine calls_of_W Try.func95 rfl Try.ntmps95 (by simp) ?_
 refine W_seq ?_
 refine W_region ?_
 refine Wl_v (r_as (v := .int .i64 0) rfl) ?_
 refine Wl_nil ?_
 refine W_seq ?_
 refine W_seq ?_
 refine W_region ?_
 refine Wl_v (r_mv (v := .slice a n c) rfl) ?_
 refine Wl_v (r_len Try.underlying109 rfl) ?_
 refine Wl_v (r_mv (v := .int .i64 0) rfl) ?_
 refine Wl_nil ?_
 refine W_block ?_
 refine W_loop (fun mu ρ ds w' => ∃ (k : Nat), n - k = mu ∧ ds = [] ∧ Liv ρ [(5, .slice a n c), (6, .int .i64 ((n : Nat) : Int)), (7, .int .i64 ((k : Nat) : Int))] ∧ k ≤ n ∧ Upd No w w') _ ⟨0, rfl, rfl, ⟨rfl, rfl, (by first | rfl | exact vint (by omega) | exact vint (by simp)), trivial⟩, (by omega), Upd.refl _ _⟩ ?_
 rintro m1 ρ1 ds1 w1 ⟨k, rfl, rfl, hl1, hk, hU1⟩
 obtain ⟨ρ1x, rfl⟩ : ∃ ρx, ρ1 = upds ρx [(5, .slice a n c), (6, .int .i64 ((n : Nat) : Int)), (7, .int .i64 ((k : Nat) : Int))] := ⟨_, upds_self hl1⟩
 clear hl1
 have hzw1 := hU1.size
 replace hs := hs.upd0 hU1
 replace HU := HU.trans0 hU1
 have HL1 := hU1
 refine W_seq ?_
 refine W_region ?_
 refine Wl_v (r_lt rfl rfl) ?_
 refine Wl_nil ?_
 refine W_seq ?_
 by_cases q1 : ((k : Nat) : Int) < ((n : Nat) : Int)
 ·rw [decide_eq_true q1]
  refine W_cond_t rfl ?_
  refine W_skip ?_
  refine W_seq ?_
  refine W_block ?_
  refine W_seq ?_
  refine W_region ?_
  refine Wl_idxi Try.underlying109 Try.sizeOf25 rfl rfl hs (by omega) (by omega) ?_
  intro ib2 io2 hc2
  rw [Int.toNat_natCast] at hc2
  refine Wl_loadc Try.isAgg25 rfl hc2 ?_
  refine Wl_v (r_as (v := .int .i64 (l.getD k 0)) rfl) ?_
  refine Wl_nil ?_
  refine W_seq ?_
  refine W_region ?_
  refine Wl_v (r_mv (v := .int .i64 (l.getD k 0)) rfl) ?_
  refine Wl_v (r_ne rfl rfl) ?_
  refine Wl_nil ?_
  have q2 : ¬ ((l.getD k 0) ≠ 0) := (by rw [hz]; decide)
  rw [decide_eq_false q2]
  refine W_cond_f rfl ?_
  refine W_skip ?_
  refine W_region ?_
  refine Wl_v (r_add rfl rfl (wi64 (by omega) (by omega))) ?_
  refine Wl_v (r_mv (v := .int .i64 (((k : Nat) : Int) + 1)) rfl) ?_
  refine Wl_nil ?_
  refine ⟨_, ?_, (k + 1), rfl, rfl, ⟨rfl, rfl, (by first | rfl | exact vint (by omega) | exact vint (by simp)), trivial⟩, (by omega), HL1⟩
  omega
 ·rw [decide_eq_false q1]
  refine W_cond_f rfl ?_
  refine W_exit ?_
  refine W_seq ?_
  refine W_region ?_
  refine Wl_v (r_as (v := .int .i64 0) rfl) ?_
  refine Wl_nil ?_
  refine W_ret ?_
  refine ret_end (v := .int .i64 0) rfl (res1 Try.results95 rfl) ?_
  exact ⟨_, rfl, rfl, HU⟩

set_option maxRecDepth 100000 in
theorem refused_h {a : Option Addr} {n c : Nat} {l : List Int} {x : Int} (w : World) (hs : Sl w (fun g => g < w.heap.size) 1 (.slice a n c) n (ints .i64 l)) (hn : n ≤ 1000) (hz : 0 < n ∧ l.getD 0 0 = x ∧ x ≠ 0) :
  Calls Try.prog 95 #[.slice a n c] w (Ret fun v w' => v = .int .i64 x ∧ Upd No w w') := by
 have HU : Upd (fun b => False) w w := Upd.refl _ _
 have hl_hs := ilen hs
 have hc_hs := hs.cap.1
 refine calls_of_W Try.func95 rfl Try.ntmps95 (by simp) ?_
 refine W_seq ?_
 refine W_region ?_
 refine Wl_v (r_as (v := .int .i64 0) rfl) ?_
 refine Wl_nil ?_
 refine W_seq ?_
 refine W_seq ?_
 refine W_region ?_
 refine Wl_v (r_mv (v := .slice a n c) rfl) ?_
 refine Wl_v (r_len Try.underlying109 rfl) ?_
 refine Wl_v (r_mv (v := .int .i64 0) rfl) ?_
 refine Wl_nil ?_
 refine W_block ?_
 refine W_loop (fun mu ρ ds w' => ∃ (k : Nat), n - k = mu ∧ ds = [] ∧ Liv ρ [(5, .slice a n c), (6, .int .i64 ((n : Nat) : Int)), (7, .int .i64 ((k : Nat) : Int))] ∧ k ≤ n ∧ k = 0 ∧ Upd No w w') _ ⟨0, rfl, rfl, ⟨rfl, rfl, (by first | rfl | exact vint (by omega) | exact vint (by simp)), trivial⟩, (by omega), rfl, Upd.refl _ _⟩ ?_
 rintro m1 ρ1 ds1 w1 ⟨k, rfl, rfl, hl1, hk, hk0, hU1⟩
 obtain ⟨ρ1x, rfl⟩ : ∃ ρx, ρ1 = upds ρx [(5, .slice a n c), (6, .int .i64 ((n : Nat) : Int)), (7, .int .i64 ((k : Nat) : Int))] := ⟨_, upds_self hl1⟩
 clear hl1
 have hzw1 := hU1.size
 replace hs := hs.upd0 hU1
 replace HU := HU.trans0 hU1
 have HL1 := hU1
 refine W_seq ?_
 refine W_region ?_
 refine Wl_v (r_lt rfl rfl) ?_
 refine Wl_nil ?_
 refine W_seq ?_
 have q1 : ((k : Nat) : Int) < ((n : Nat) : Int) := (by omega)
 rw [decide_eq_true q1]
 refine W_cond_t rfl ?_
 refine W_skip ?_
 refine W_seq ?_
 refine W_block ?_
 refine W_seq ?_
 refine W_region ?_
 refine Wl_idxi Try.underlying109 Try.sizeOf25 rfl rfl hs (by omega) (by omega) ?_
 intro ib2 io2 hc2
 rw [Int.toNat_natCast] at hc2
 refine Wl_loadc Try.isAgg25 rfl hc2 ?_
 refine Wl_v (r_as (v := .int .i64 (l.getD k 0)) rfl) ?_
 refine Wl_nil ?_
 refine W_seq ?_
 refine W_region ?_
 refine Wl_v (r_mv (v := .int .i64 (l.getD k 0)) rfl) ?_
 refine Wl_v (r_ne rfl rfl) ?_
 refine Wl_nil ?_
 have q2 : (l.getD k 0) ≠ 0 := (by rw [hk0, hz.2.1]; exact hz.2.2)
 rw [decide_eq_true q2]
 refine W_cond_t rfl ?_
 refine W_seq ?_
 refine W_region ?_
 refine Wl_v (r_mv (v := .int .i64 (l.getD k 0)) rfl) ?_
 refine Wl_v (r_as (v := .int .i64 (l.getD k 0)) rfl) ?_
 refine Wl_nil ?_
 refine W_ret ?_
 refine ret_end (v := .int .i64 (l.getD k 0)) rfl (res1 Try.results95 rfl) ?_
 exact ⟨_, rfl, (vint (by rw [hk0, hz.2.1])), HU⟩

set_option maxRecDepth 100000 in
theorem ent_clo {x : Int × Int} {Bn : Nat} {nb : Int} (w : World) (hb : Blk w Bn [.int .i64 nb]) (hr : 0 ≤ nb - x.2 ∧ nb - x.2 ≤ 11 ∧ -100 ≤ x.2 ∧ x.2 ≤ 100) :
  Calls Try.prog 102 #[.agg #[.int .i64 x.1, .int .i64 x.2], .pointer (some ⟨Bn, 0, none⟩)] w (Ret fun v w' => v = .tuple #[.int .i64 ((2 ^ (nb - x.2).toNat : Nat) : Int), .agg #[.int .i64 x.1, .int .i64 x.2]] ∧ Upd No w w') := by
 have HU : Upd (fun b => False) w w := Upd.refl _ _
 have hbl_hb := hb.lt
 refine calls_of_W Try.func102 rfl Try.ntmps102 (by simp) ?_
 refine W_seq ?_
 refine W_region ?_
 refine Wl_box (v := .agg #[.int .i64 x.1, .int .i64 x.2]) (cs := [.int .i64 x.1, .int .i64 x.2]) rfl rfl ?_
 intro B1 w1 hB1 hU1 hzz1 hb1
 have hzw1 := hU1.size
 replace hb := hb.upd0 hU1
 replace HU := HU.trans0 hU1
 refine Wl_v (r_as (v := .int .i64 0) rfl) ?_
 refine Wl_alloc (cs := [.int .i64 0, .int .i64 0]) Try.zeroValue134 rfl ?_
 intro B2 w2 hB2 hU2 hzz2 hb2
 have hzw2 := hU2.size
 replace hb := hb.upd0 hU2
 replace HU := HU.trans0 hU2
 replace hb1 := hb1.upd0 hU2
 refine Wl_nil ?_
 refine W_seq ?_
 refine W_drawt rfl (l0 := tf 0 8) (by kernel_rfl) ?_
 refine Tk 0 (tf 1 8) rfl (YI_v (v := .int .i64 nb) rfl (fun w' hw' => r_load Try.isAgg3 rfl (by rw [(hb.upd0 hw').cell]; rfl))) ?_
 refine Tk 1 (tf 2 8) rfl (YI_v (v := .pointer (some ⟨B1, 1, none⟩)) rfl (fun w' hw' => r_fld Try.underlying134 rfl Try.sizeOf3 rfl rfl)) ?_
 refine Tk 2 (tf 3 8) rfl (YI_v (v := .int .i64 x.2) rfl (fun w' hw' => r_load Try.isAgg3 rfl (by rw [(hb1.upd0 hw').cell]; rfl))) ?_
 refine Tk 3 (tf 4 8) rfl (YI_v (v := .int .i64 (nb - x.2)) rfl (fun w' hw' => r_sub rfl rfl (wi64 (by omega) (by omega)))) ?_
 refine Tk 4 (tf 5 8) rfl (YI_v (v := .int .i64 ((2 ^ (nb - x.2).toNat : Nat) : Int)) rfl (fun w' hw' => r_shl rfl rfl (by omega) (shlT (by omega) (by omega)))) ?_
 refine Tk 5 (tf 6 8) rfl (YI_v (v := .agg #[.int .i64 x.1, .int .i64 x.2]) rfl (fun w' hw' => r_loada (b := B1) (off := 0) (cs := [.int .i64 x.1, .int .i64 x.2]) Try.isAgg134 Try.sizeOf134 rfl rfl (fun j hj => by rw [(hb1.upd0 hw').cell]; match j, hj with | 0, _ => rfl | 1, _ => rfl))) ?_
 refine Tk 6 (tf 7 8) rfl (YI_v (v := .int .i64 ((2 ^ (nb - x.2).toNat : Nat) : Int)) rfl (fun w' hw' => r_as (v := .int .i64 ((2 ^ (nb - x.2).toNat : Nat) : Int)) rfl)) ?_
 intro w3 hU3
 have hzw3 := hU3.size
 replace HU := HU.trans0 hU3
 replace hb2 := hb2.upd0 hU3
 refine Wa_one (i := 7) (listed' := tf 8 8) (by kernel_rfl) rfl (by kernel_rfl) ?_
 refine Ws_of_Wl ?_
 have hW : Upd No w2 w3 := hU3
 refine Wl_storea (off := 0) (vs := [.int .i64 x.1, .int .i64 x.2]) (cs' := [.int .i64 x.1, .int .i64 x.2]) Try.sizeOf134 rfl rfl rfl (by simp only [List.mem_cons, List.not_mem_nil, or_false, forall_eq_or_imp, forall_eq]; exact ⟨rfl, rfl⟩) hb2 (by simp) rfl ?_
 intro w4 hU4 hzz4 hb2n
 replace hb2 := hb2n; clear hb2n
 have hzw4 := hU4.size
 replace HU := HU.trans1 hU4 (by show (False) ∨ w.heap.size ≤ B2; omega)
 refine Wl_nil ?_
 intro w5 hS5
 refine ⟨fun h => absurd h (by rw [show barOp _ 7 = true from by kernel_rfl]; simp), fun _ => ⟨Upd No w5, ?_⟩⟩
 have hU5 := hS5.upd
 have hzw5 := hU5.size
 replace HU := HU.trans0 hU5
 replace hb2 := hb2.upd0 hU5
 try replace hW := hW.trans0 hU5
 refine Wa_done (by kernel_rfl) ?_
 refine W_ret ?_
 refine ret_end (v := .tuple #[.int .i64 ((2 ^ (nb - x.2).toNat : Nat) : Int), .agg #[.int .i64 x.1, .int .i64 x.2]]) rfl (rm_tc Try.results102 rfl rfl (cellAgg Try.isAgg134 Try.sizeOf134 rfl hb2)) ?_
 exact ⟨_, rfl, rfl, HU⟩

end Go.Proofs.Ytilegaokfamfnaa
