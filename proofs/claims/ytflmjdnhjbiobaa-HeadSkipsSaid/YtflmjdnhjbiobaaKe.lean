/-
  Walks, printed by a small program of this project (gen.py).
-/
import Derived.Test.YtflmjdnhjbiobaaKd
set_option linter.unusedVariables false
set_option linter.unusedSimpArgs false
namespace Go.Proofs.Ytflmjdnhjbiobaa
open Go.Fw

def xorb (a b : Int) : Int := ((a.toNat ^^^ b.toNat : Nat) : Int)
theorem xor_ltN {a b : Nat} (h : a < 256) (h2 : b < 256) : a ^^^ b < 256 := Nat.xor_lt_two_pow (n := 8) h h2
theorem xorb_lt {a b : Int} (h0 : 0 ≤ a) (h1 : a < 256) (g0 : 0 ≤ b) (g1 : b < 256) : 0 ≤ xorb a b ∧ xorb a b < 256 := by
  have := xor_ltN (a := a.toNat) (b := b.toNat) (by omega) (by omega)
  unfold xorb; omega
theorem xorb_u8 {a b : Int} (h0 : 0 ≤ a) (h1 : a < 256) (g0 : 0 ≤ b) (g1 : b < 256) : IntKind.u8.wrap (((a % 2 ^ IntKind.u8.bits).toNat ^^^ (b % 2 ^ IntKind.u8.bits).toNat : Nat) : Int) = xorb a b := by
  have e : (2 ^ IntKind.u8.bits : Int) = 256 := by decide
  have := xorb_lt h0 h1 g0 g1
  rw [e, show a % 256 = a from by omega, show b % 256 = b from by omega]
  exact wu8 this.1 (by have := this.2; unfold xorb at this; omega)
theorem xorb_0 {a : Int} (h : 0 ≤ a) : xorb a 0 = a := by unfold xorb; simp; omega
theorem xorb_ne {a b : Int} (h : 0 ≤ a) (g0 : 0 ≤ b) (hb : b ≠ 0) : xorb a b ≠ a := by
  intro e
  have e2 : a.toNat ^^^ b.toNat = a.toNat := by unfold xorb at e; omega
  have e3 : a.toNat ^^^ (a.toNat ^^^ b.toNat) = a.toNat ^^^ a.toNat := by rw [e2]
  rw [← Nat.xor_assoc, Nat.xor_self, Nat.zero_xor] at e3
  omega
theorem set_same {l : List Int} {i : Nat} (h : i < l.length) : l.set i (l.getD i 0) = l := by
  refine List.ext_getElem (by simp) fun j h1 h2 => ?_
  rw [List.getElem_set]
  split
  · rename_i e; subst e; rw [List.getD_eq_getElem?_getD, List.getElem?_eq_getElem h]; rfl
  · rfl
theorem mod_nat {x : Int} {m : Nat} (h : 0 < m) : ∃ k : Nat, x % (m : Int) = ((k : Nat) : Int) ∧ k < m := by
  have h1 := Int.emod_nonneg x (b := (m : Int)) (by omega)
  have h2 := Int.emod_lt_of_pos x (b := (m : Int)) (by omega)
  exact ⟨(x % (m : Int)).toNat, by omega, by omega⟩
section
variable {wz sz dn : Int} {sm : Bool}
theorem ghead_neg (hv : Hv wz sz) (d0 : 0 ≤ dn ∧ dn < 4294967296) (hs : sz < 0) (rest : List Int) : ghead (henc wz sz dn sm ++ rest) 0 = ((wz, -1, dn, sm), (henc wz sz dn sm).length, 0) := by
  have := ghead_henc (sm := sm) hv d0.1 d0.2 rest
  rwa [if_neg (by omega)] at this
theorem ghead_pos (hv : Hv wz sz) (d0 : 0 ≤ dn ∧ dn < 4294967296) (hs : ¬ sz < 0) (rest : List Int) : ghead (henc wz sz dn sm ++ rest) 0 = ((wz, sz, dn, sm), (henc wz sz dn sm).length, 0) := by
  have := ghead_henc (sm := sm) hv d0.1 d0.2 rest
  rwa [if_pos (by omega)] at this
theorem ghead_xor0 (hv : Hv wz sz) (d0 : 0 ≤ dn ∧ dn < 4294967296) {i : Nat} (hi : i < 4) {b : Int} (hb : b = 0) : ghead ((henc wz sz dn sm).set i (xorb ((henc wz sz dn sm).getD i 0) b)) 0 = ((wz, if 0 ≤ sz then sz else -1, dn, sm), (henc wz sz dn sm).length, 0) := by
  have h6 := henc_6 (wz := wz) (sz := sz) (dn := dn) (sm := sm)
  have hg := byt_gd (henc_byt (sm := sm) hv d0.1 d0.2) i
  have := ghead_henc (sm := sm) hv d0.1 d0.2 []
  rw [List.append_nil] at this
  subst hb
  rwa [xorb_0 hg.1, set_same (by omega)]
theorem ghead_xor (hv : Hv wz sz) (d0 : 0 ≤ dn ∧ dn < 4294967296) {i : Nat} (hi : i < 4) {b : Int} (b0 : 0 ≤ b) (hb : ¬ b = 0) : ghead ((henc wz sz dn sm).set i (xorb ((henc wz sz dn sm).getD i 0) b)) 0 = (hz, 0, 6) :=
  ghead_alt hi (xorb_ne (byt_gd (henc_byt (sm := sm) hv d0.1 d0.2) i).1 b0 hb)
end
theorem gskip_byt {bs : List Int} {p : Nat} (hb : Byt bs) : Byt (gskip bs p).1 := by
  unfold gskip
  repeat' split
  all_goals first | exact byt_nil | exact gbytes_byt hb

set_option maxRecDepth 100000 in
theorem headwindows {x wn : Int} (w : World) (rx : 0 ≤ x ∧ x < 256) (rwn : -9223372036854775808 ≤ wn ∧ wn ≤ 9223372036854775807) :
    Calls Try.prog 3 #[.int .u8 x, .int .i64 wn] w (Ret fun v w' => v = .bool true ∧ Upd No w w') := by
  have HU : Upd (fun b => False) w w := Upd.refl _ _
  refine calls_of_W Try.func3 rfl Try.ntmps3 (by simp) ?_
  refine W_seq ?_
  refine W_region ?_
  refine Wl_v (r_as (v := .bool false) rfl) ?_
  refine Wl_nil ?_
  refine W_seq ?_
  refine W_region ?_
  refine Wl_v (r_mv (v := .int .u8 x) rfl) ?_
  by_cases q1 : x ≤ 136
  · have hwi_q1 := hw_inI (w := x) (by omega) (by omega)
    refine Wl_call (r_call1 rfl Try.call13 rfl) (window_ok _ (by omega)) ?_
    rintro v w1 ⟨rfl, hU1⟩
    have hzw1 := hU1.size
    replace HU := HU.trans0 hU1
    refine Wl_v (r_mv (v := .tuple #[.int .i64 (hw x), .int .i64 0]) rfl) ?_
    refine Wl_v (r_ext (v := .int .i64 (hw x)) rfl rfl) ?_
    refine Wl_v (r_ext (v := .int .i64 0) rfl rfl) ?_
    refine Wl_v (r_as (v := .int .i64 (hw x)) rfl) ?_
    refine Wl_v (r_as (v := .int .i64 0) rfl) ?_
    refine Wl_nil ?_
    refine W_seq ?_
    refine W_region ?_
    refine Wl_v (r_mv (v := .int .u8 x) rfl) ?_
    refine Wl_call (r_call1 rfl Try.call14 rfl) (rwindow _ (by omega)) ?_
    rintro v w2 ⟨rfl, hU2⟩
    have hzw2 := hU2.size
    replace HU := HU.trans0 hU2
    refine Wl_v (r_as (v := .int .i64 (hw x)) rfl) ?_
    refine Wl_nil ?_
    refine W_seq ?_
    refine W_seq ?_
    refine W_region ?_
    refine Wl_v (r_mv (v := .int .i64 (hw x)) rfl) ?_
    refine Wl_v (r_eq rfl rfl) ?_
    refine Wl_v (r_mv (v := .bool (decide ((hw x) = 0))) rfl) ?_
    have q2 : ¬ ((hw x) = 0) := (by omega)
    rw [decide_eq_false q2]
    refine Wl_guard_f rfl ?_
    refine Wl_guard_f rfl ?_
    refine Wl_guard_f rfl ?_
    refine Wl_skip rfl ?_
    refine Wl_skip rfl ?_
    refine Wl_guard_f rfl ?_
    refine Wl_v (r_pick_f (v := .bool false) rfl rfl) ?_
    refine Wl_v (r_mv (v := .bool false) rfl) ?_
    refine Wl_guard_t rfl ?_
    refine Wl_v (r_mv (v := .int .i64 (hw x)) rfl) ?_
    refine Wl_guard_t rfl ?_
    refine Wl_v (r_ne rfl rfl) ?_
    refine Wl_guard_t rfl ?_
    refine Wl_v (r_mv (v := .bool (decide ((hw x) ≠ 0))) rfl) ?_
    have q3 : (hw x) ≠ 0 := (by omega)
    rw [decide_eq_true q3]
    refine Wl_guard_t rfl ?_
    refine Wl_v (r_mv (v := .int .i64 0) rfl) ?_
    refine Wl_guard_t rfl ?_
    refine Wl_v (v := .bool false) (r_ne (a := 0) (b := 0) rfl rfl) ?_
    refine Wl_guard_t rfl ?_
    refine Wl_v (r_mv (v := .bool false) rfl) ?_
    refine Wl_guard_t rfl ?_
    refine Wl_v (r_mv (v := .int .i64 (hw x)) rfl) ?_
    refine Wl_guard_t rfl ?_
    refine Wl_v (r_mv (v := .int .i64 (hw x)) rfl) ?_
    refine Wl_guard_t rfl ?_
    refine Wl_v (r_ne rfl rfl) ?_
    refine Wl_guard_t rfl ?_
    refine Wl_v (r_pick_f (v := .bool (decide ((hw x) ≠ (hw x)))) rfl rfl) ?_
    refine Wl_guard_t rfl ?_
    refine Wl_v (r_pick_t (v := .bool (decide ((hw x) ≠ (hw x)))) rfl rfl) ?_
    refine Wl_v (r_pick_f (v := .bool (decide ((hw x) ≠ (hw x)))) rfl rfl) ?_
    refine Wl_nil ?_
    have q4 : ¬ ((hw x) ≠ (hw x)) := (fun h => h rfl)
    rw [decide_eq_false q4]
    refine W_cond_f rfl ?_
    refine W_skip ?_
    refine W_seq ?_
    refine W_region ?_
    refine Wl_v (r_mv (v := .int .i64 wn) rfl) ?_
    by_cases q5 : 0 ≤ wn ∧ wn ≤ 134217728
    · refine Wl_call (r_call1 rfl Try.call15 rfl) (byte_ok _ (by omega)) ?_
      rintro v w3 ⟨rfl, hU3⟩
      have hzw3 := hU3.size
      replace HU := HU.trans0 hU3
      refine Wl_v (r_mv (v := .tuple #[.int .u8 ((hb wn : Nat) : Int), .int .i64 0]) rfl) ?_
      refine Wl_v (r_ext (v := .int .u8 ((hb wn : Nat) : Int)) rfl rfl) ?_
      refine Wl_v (r_ext (v := .int .i64 0) rfl rfl) ?_
      refine Wl_v (r_as (v := .int .u8 ((hb wn : Nat) : Int)) rfl) ?_
      refine Wl_v (r_as (v := .int .i64 0) rfl) ?_
      refine Wl_nil ?_
      refine W_seq ?_
      refine W_seq ?_
      refine W_region ?_
      refine Wl_v (r_mv (v := .int .i64 wn) rfl) ?_
      refine Wl_v (r_lt rfl rfl) ?_
      refine Wl_v (r_mv (v := .bool (decide (wn < 0))) rfl) ?_
      have q6 : ¬ (wn < 0) := (by omega)
      rw [decide_eq_false q6]
      refine Wl_guard_t rfl ?_
      refine Wl_v (r_mv (v := .int .i64 wn) rfl) ?_
      refine Wl_guard_t rfl ?_
      refine Wl_v (r_gt rfl rfl) ?_
      refine Wl_v (r_pick_f (v := .bool (decide (134217728 < wn))) rfl rfl) ?_
      refine Wl_nil ?_
      have q7 : ¬ (134217728 < wn) := (by omega)
      rw [decide_eq_false q7]
      refine W_cond_f rfl ?_
      refine W_skip ?_
      refine W_seq ?_
      refine W_region ?_
      refine Wl_v (r_mv (v := .int .i64 0) rfl) ?_
      refine Wl_v (v := .bool true) (r_eq (a := 0) (b := 0) rfl rfl) ?_
      refine Wl_v (r_mv (v := .bool true) rfl) ?_
      refine Wl_guard_t rfl ?_
      refine Wl_v (r_mv (v := .int .u8 ((hb wn : Nat) : Int)) rfl) ?_
      refine Wl_guard_t rfl ?_
      refine Wl_v (r_mv (v := .int .i64 wn) rfl) ?_
      refine Wl_guard_t rfl ?_
      refine Wl_call (r_call1 rfl Try.call17 rfl) (rbyte _ (by omega)) ?_
      rintro v w4 ⟨rfl, hU4⟩
      have hzw4 := hU4.size
      replace HU := HU.trans0 hU4
      refine Wl_guard_t rfl ?_
      refine Wl_v (r_eq rfl rfl) ?_
      refine Wl_v (r_pick_t (v := .bool (decide (((hb wn : Nat) : Int) = ((hb wn : Nat) : Int)))) rfl rfl) ?_
      refine Wl_v (r_mv (v := .bool (decide (((hb wn : Nat) : Int) = ((hb wn : Nat) : Int)))) rfl) ?_
      have q8 : ((hb wn : Nat) : Int) = ((hb wn : Nat) : Int) := rfl
      rw [decide_eq_true q8]
      refine Wl_guard_t rfl ?_
      refine Wl_call (r_call0 rfl Try.call16 ) (known_spec _ ) ?_
      rintro v w5 ⟨rfl, hU5⟩
      have hzw5 := hU5.size
      replace HU := HU.trans0 hU5
      refine Wl_v (r_pick_t (v := .bool true) rfl rfl) ?_
      refine Wl_v (r_as (v := .bool true) rfl) ?_
      refine Wl_nil ?_
      refine W_ret ?_
      refine ret_end (v := .bool true) rfl (res1 Try.results3 rfl) ?_
      exact ⟨_, rfl, rfl, HU⟩
    · refine Wl_call (r_call1 rfl Try.call15 rfl) (byte_no _ (by omega)) ?_
      rintro v w6 ⟨rfl, hU6⟩
      have hzw6 := hU6.size
      replace HU := HU.trans0 hU6
      refine Wl_v (r_mv (v := .tuple #[.int .u8 0, .int .i64 2]) rfl) ?_
      refine Wl_v (r_ext (v := .int .u8 0) rfl rfl) ?_
      refine Wl_v (r_ext (v := .int .i64 2) rfl rfl) ?_
      refine Wl_v (r_as (v := .int .u8 0) rfl) ?_
      refine Wl_v (r_as (v := .int .i64 2) rfl) ?_
      refine Wl_nil ?_
      refine W_seq ?_
      refine W_seq ?_
      refine W_region ?_
      refine Wl_v (r_mv (v := .int .i64 wn) rfl) ?_
      refine Wl_v (r_lt rfl rfl) ?_
      refine Wl_v (r_mv (v := .bool (decide (wn < 0))) rfl) ?_
      by_cases q9 : wn < 0
      · rw [decide_eq_true q9]
        refine Wl_guard_f rfl ?_
        refine Wl_guard_f rfl ?_
        refine Wl_v (r_pick_t (v := .bool true) rfl rfl) ?_
        refine Wl_nil ?_
        refine W_cond_t rfl ?_
        refine W_seq ?_
        refine W_region ?_
        refine Wl_v (r_mv (v := .int .i64 2) rfl) ?_
        refine Wl_v (v := .bool true) (r_eq (a := 2) (b := 2) rfl rfl) ?_
        refine Wl_v (r_mv (v := .bool true) rfl) ?_
        refine Wl_guard_t rfl ?_
        refine Wl_v (r_mv (v := .int .u8 0) rfl) ?_
        refine Wl_guard_t rfl ?_
        refine Wl_v (v := .bool true) (r_eq (a := 0) (b := 0) rfl rfl) ?_
        refine Wl_v (r_pick_t (v := .bool true) rfl rfl) ?_
        refine Wl_v (r_mv (v := .bool true) rfl) ?_
        refine Wl_guard_t rfl ?_
        refine Wl_call (r_call0 rfl Try.call16 ) (known_spec _ ) ?_
        rintro v w7 ⟨rfl, hU7⟩
        have hzw7 := hU7.size
        replace HU := HU.trans0 hU7
        refine Wl_v (r_pick_t (v := .bool true) rfl rfl) ?_
        refine Wl_v (r_as (v := .bool true) rfl) ?_
        refine Wl_nil ?_
        refine W_ret ?_
        refine ret_end (v := .bool true) rfl (res1 Try.results3 rfl) ?_
        exact ⟨_, rfl, rfl, HU⟩
      · rw [decide_eq_false q9]
        refine Wl_guard_t rfl ?_
        refine Wl_v (r_mv (v := .int .i64 wn) rfl) ?_
        refine Wl_guard_t rfl ?_
        refine Wl_v (r_gt rfl rfl) ?_
        refine Wl_v (r_pick_f (v := .bool (decide (134217728 < wn))) rfl rfl) ?_
        refine Wl_nil ?_
        have q10 : 134217728 < wn := (by omega)
        rw [decide_eq_true q10]
        refine W_cond_t rfl ?_
        refine W_seq ?_
        refine W_region ?_
        refine Wl_v (r_mv (v := .int .i64 2) rfl) ?_
        refine Wl_v (v := .bool true) (r_eq (a := 2) (b := 2) rfl rfl) ?_
        refine Wl_v (r_mv (v := .bool true) rfl) ?_
        refine Wl_guard_t rfl ?_
        refine Wl_v (r_mv (v := .int .u8 0) rfl) ?_
        refine Wl_guard_t rfl ?_
        refine Wl_v (v := .bool true) (r_eq (a := 0) (b := 0) rfl rfl) ?_
        refine Wl_v (r_pick_t (v := .bool true) rfl rfl) ?_
        refine Wl_v (r_mv (v := .bool true) rfl) ?_
        refine Wl_guard_t rfl ?_
        refine Wl_call (r_call0 rfl Try.call16 ) (known_spec _ ) ?_
        rintro v w8 ⟨rfl, hU8⟩
        have hzw8 := hU8.size
        replace HU := HU.trans0 hU8
        refine Wl_v (r_pick_t (v := .bool true) rfl rfl) ?_
        refine Wl_v (r_as (v := .bool true) rfl) ?_
        refine Wl_nil ?_
        refine W_ret ?_
        refine ret_end (v := .bool true) rfl (res1 Try.results3 rfl) ?_
        exact ⟨_, rfl, rfl, HU⟩
  · have hwi_q1 := hw_outI (w := x) (by omega) (by omega)
    refine Wl_call (r_call1 rfl Try.call13 rfl) (window_no _ (by omega)) ?_
    rintro v w9 ⟨rfl, hU9⟩
    have hzw9 := hU9.size
    replace HU := HU.trans0 hU9
    refine Wl_v (r_mv (v := .tuple #[.int .i64 0, .int .i64 7]) rfl) ?_
    refine Wl_v (r_ext (v := .int .i64 0) rfl rfl) ?_
    refine Wl_v (r_ext (v := .int .i64 7) rfl rfl) ?_
    refine Wl_v (r_as (v := .int .i64 0) rfl) ?_
    refine Wl_v (r_as (v := .int .i64 7) rfl) ?_
    refine Wl_nil ?_
    refine W_seq ?_
    refine W_region ?_
    refine Wl_v (r_mv (v := .int .u8 x) rfl) ?_
    refine Wl_call (r_call1 rfl Try.call14 rfl) (rwindow _ (by omega)) ?_
    rintro v w10 ⟨rfl, hU10⟩
    have hzw10 := hU10.size
    replace HU := HU.trans0 hU10
    refine Wl_v (r_as (v := .int .i64 (hw x)) rfl) ?_
    refine Wl_nil ?_
    refine W_seq ?_
    refine W_seq ?_
    refine W_region ?_
    refine Wl_v (r_mv (v := .int .i64 (hw x)) rfl) ?_
    refine Wl_v (r_eq rfl rfl) ?_
    refine Wl_v (r_mv (v := .bool (decide ((hw x) = 0))) rfl) ?_
    have q11 : (hw x) = 0 := (by omega)
    rw [decide_eq_true q11]
    refine Wl_guard_t rfl ?_
    refine Wl_v (r_mv (v := .int .i64 7) rfl) ?_
    refine Wl_guard_t rfl ?_
    refine Wl_v (v := .bool false) (r_ne (a := 7) (b := 7) rfl rfl) ?_
    refine Wl_guard_t rfl ?_
    refine Wl_v (r_mv (v := .bool false) rfl) ?_
    refine Wl_guard_t rfl ?_
    refine Wl_v (r_mv (v := .int .i64 0) rfl) ?_
    refine Wl_guard_t rfl ?_
    refine Wl_v (v := .bool false) (r_ne (a := 0) (b := 0) rfl rfl) ?_
    refine Wl_guard_t rfl ?_
    refine Wl_v (r_pick_f (v := .bool false) rfl rfl) ?_
    refine Wl_v (r_pick_t (v := .bool false) rfl rfl) ?_
    refine Wl_v (r_mv (v := .bool false) rfl) ?_
    refine Wl_guard_t rfl ?_
    refine Wl_v (r_mv (v := .int .i64 (hw x)) rfl) ?_
    refine Wl_guard_t rfl ?_
    refine Wl_v (r_ne rfl rfl) ?_
    refine Wl_guard_t rfl ?_
    refine Wl_v (r_mv (v := .bool (decide ((hw x) ≠ 0))) rfl) ?_
    have q12 : ¬ ((hw x) ≠ 0) := (by omega)
    rw [decide_eq_false q12]
    refine Wl_guard_f rfl ?_
    refine Wl_guard_f rfl ?_
    refine Wl_guard_f rfl ?_
    refine Wl_skip rfl ?_
    refine Wl_skip rfl ?_
    refine Wl_skip rfl ?_
    refine Wl_guard_f rfl ?_
    refine Wl_guard_t rfl ?_
    refine Wl_v (r_pick_f (v := .bool false) rfl rfl) ?_
    refine Wl_v (r_pick_f (v := .bool false) rfl rfl) ?_
    refine Wl_nil ?_
    refine W_cond_f rfl ?_
    refine W_skip ?_
    refine W_seq ?_
    refine W_region ?_
    refine Wl_v (r_mv (v := .int .i64 wn) rfl) ?_
    by_cases q13 : 0 ≤ wn ∧ wn ≤ 134217728
    · refine Wl_call (r_call1 rfl Try.call15 rfl) (byte_ok _ (by omega)) ?_
      rintro v w11 ⟨rfl, hU11⟩
      have hzw11 := hU11.size
      replace HU := HU.trans0 hU11
      refine Wl_v (r_mv (v := .tuple #[.int .u8 ((hb wn : Nat) : Int), .int .i64 0]) rfl) ?_
      refine Wl_v (r_ext (v := .int .u8 ((hb wn : Nat) : Int)) rfl rfl) ?_
      refine Wl_v (r_ext (v := .int .i64 0) rfl rfl) ?_
      refine Wl_v (r_as (v := .int .u8 ((hb wn : Nat) : Int)) rfl) ?_
      refine Wl_v (r_as (v := .int .i64 0) rfl) ?_
      refine Wl_nil ?_
      refine W_seq ?_
      refine W_seq ?_
      refine W_region ?_
      refine Wl_v (r_mv (v := .int .i64 wn) rfl) ?_
      refine Wl_v (r_lt rfl rfl) ?_
      refine Wl_v (r_mv (v := .bool (decide (wn < 0))) rfl) ?_
      have q14 : ¬ (wn < 0) := (by omega)
      rw [decide_eq_false q14]
      refine Wl_guard_t rfl ?_
      refine Wl_v (r_mv (v := .int .i64 wn) rfl) ?_
      refine Wl_guard_t rfl ?_
      refine Wl_v (r_gt rfl rfl) ?_
      refine Wl_v (r_pick_f (v := .bool (decide (134217728 < wn))) rfl rfl) ?_
      refine Wl_nil ?_
      have q15 : ¬ (134217728 < wn) := (by omega)
      rw [decide_eq_false q15]
      refine W_cond_f rfl ?_
      refine W_skip ?_
      refine W_seq ?_
      refine W_region ?_
      refine Wl_v (r_mv (v := .int .i64 0) rfl) ?_
      refine Wl_v (v := .bool true) (r_eq (a := 0) (b := 0) rfl rfl) ?_
      refine Wl_v (r_mv (v := .bool true) rfl) ?_
      refine Wl_guard_t rfl ?_
      refine Wl_v (r_mv (v := .int .u8 ((hb wn : Nat) : Int)) rfl) ?_
      refine Wl_guard_t rfl ?_
      refine Wl_v (r_mv (v := .int .i64 wn) rfl) ?_
      refine Wl_guard_t rfl ?_
      refine Wl_call (r_call1 rfl Try.call17 rfl) (rbyte _ (by omega)) ?_
      rintro v w12 ⟨rfl, hU12⟩
      have hzw12 := hU12.size
      replace HU := HU.trans0 hU12
      refine Wl_guard_t rfl ?_
      refine Wl_v (r_eq rfl rfl) ?_
      refine Wl_v (r_pick_t (v := .bool (decide (((hb wn : Nat) : Int) = ((hb wn : Nat) : Int)))) rfl rfl) ?_
      refine Wl_v (r_mv (v := .bool (decide (((hb wn : Nat) : Int) = ((hb wn : Nat) : Int)))) rfl) ?_
      have q16 : ((hb wn : Nat) : Int) = ((hb wn : Nat) : Int) := rfl
      rw [decide_eq_true q16]
      refine Wl_guard_t rfl ?_
      refine Wl_call (r_call0 rfl Try.call16 ) (known_spec _ ) ?_
      rintro v w13 ⟨rfl, hU13⟩
      have hzw13 := hU13.size
      replace HU := HU.trans0 hU13
      refine Wl_v (r_pick_t (v := .bool true) rfl rfl) ?_
      refine Wl_v (r_as (v := .bool true) rfl) ?_
      refine Wl_nil ?_
      refine W_ret ?_
      refine ret_end (v := .bool true) rfl (res1 Try.results3 rfl) ?_
      exact ⟨_, rfl, rfl, HU⟩
    · refine Wl_call (r_call1 rfl Try.call15 rfl) (byte_no _ (by omega)) ?_
      rintro v w14 ⟨rfl, hU14⟩
      have hzw14 := hU14.size
      replace HU := HU.trans0 hU14
      refine Wl_v (r_mv (v := .tuple #[.int .u8 0, .int .i64 2]) rfl) ?_
      refine Wl_v (r_ext (v := .int .u8 0) rfl rfl) ?_
      refine Wl_v (r_ext (v := .int .i64 2) rfl rfl) ?_
      refine Wl_v (r_as (v := .int .u8 0) rfl) ?_
      refine Wl_v (r_as (v := .int .i64 2) rfl) ?_
      refine Wl_nil ?_
      refine W_seq ?_
      refine W_seq ?_
      refine W_region ?_
      refine Wl_v (r_mv (v := .int .i64 wn) rfl) ?_
      refine Wl_v (r_lt rfl rfl) ?_
      refine Wl_v (r_mv (v := .bool (decide (wn < 0))) rfl) ?_
      by_cases q17 : wn < 0
      · rw [decide_eq_true q17]
        refine Wl_guard_f rfl ?_
        refine Wl_guard_f rfl ?_
        refine Wl_v (r_pick_t (v := .bool true) rfl rfl) ?_
        refine Wl_nil ?_
        refine W_cond_t rfl ?_
        refine W_seq ?_
        refine W_region ?_
        refine Wl_v (r_mv (v := .int .i64 2) rfl) ?_
        refine Wl_v (v := .bool true) (r_eq (a := 2) (b := 2) rfl rfl) ?_
        refine Wl_v (r_mv (v := .bool true) rfl) ?_
        refine Wl_guard_t rfl ?_
        refine Wl_v (r_mv (v := .int .u8 0) rfl) ?_
        refine Wl_guard_t rfl ?_
        refine Wl_v (v := .bool true) (r_eq (a := 0) (b := 0) rfl rfl) ?_
        refine Wl_v (r_pick_t (v := .bool true) rfl rfl) ?_
        refine Wl_v (r_mv (v := .bool true) rfl) ?_
        refine Wl_guard_t rfl ?_
        refine Wl_call (r_call0 rfl Try.call16 ) (known_spec _ ) ?_
        rintro v w15 ⟨rfl, hU15⟩
        have hzw15 := hU15.size
        replace HU := HU.trans0 hU15
        refine Wl_v (r_pick_t (v := .bool true) rfl rfl) ?_
        refine Wl_v (r_as (v := .bool true) rfl) ?_
        refine Wl_nil ?_
        refine W_ret ?_
        refine ret_end (v := .bool true) rfl (res1 Try.results3 rfl) ?_
        exact ⟨_, rfl, rfl, HU⟩
      · rw [decide_eq_false q17]
        refine Wl_guard_t rfl ?_
        refine Wl_v (r_mv (v := .int .i64 wn) rfl) ?_
        refine Wl_guard_t rfl ?_
        refine Wl_v (r_gt rfl rfl) ?_
        refine Wl_v (r_pick_f (v := .bool (decide (134217728 < wn))) rfl rfl) ?_
        refine Wl_nil ?_
        have q18 : 134217728 < wn := (by omega)
        rw [decide_eq_true q18]
        refine W_cond_t rfl ?_
        refine W_seq ?_
        refine W_region ?_
        refine Wl_v (r_mv (v := .int .i64 2) rfl) ?_
        refine Wl_v (v := .bool true) (r_eq (a := 2) (b := 2) rfl rfl) ?_
        refine Wl_v (r_mv (v := .bool true) rfl) ?_
        refine Wl_guard_t rfl ?_
        refine Wl_v (r_mv (v := .int .u8 0) rfl) ?_
        refine Wl_guard_t rfl ?_
        refine Wl_v (v := .bool true) (r_eq (a := 0) (b := 0) rfl rfl) ?_
        refine Wl_v (r_pick_t (v := .bool true) rfl rfl) ?_
        refine Wl_v (r_mv (v := .bool true) rfl) ?_
        refine Wl_guard_t rfl ?_
        refine Wl_call (r_call0 rfl Try.call16 ) (known_spec _ ) ?_
        rintro v w16 ⟨rfl, hU16⟩
        have hzw16 := hU16.size
        replace HU := HU.trans0 hU16
        refine Wl_v (r_pick_t (v := .bool true) rfl rfl) ?_
        refine Wl_v (r_as (v := .bool true) rfl) ?_
        refine Wl_nil ?_
        refine W_ret ?_
        refine ret_end (v := .bool true) rfl (res1 Try.results3 rfl) ?_
        exact ⟨_, rfl, rfl, HU⟩

set_option maxRecDepth 100000 in
theorem headleast {wn x : Int} (w : World) (rwn : -9223372036854775808 ≤ wn ∧ wn ≤ 9223372036854775807) (rx : 0 ≤ x ∧ x < 256) :
    Calls Try.prog 4 #[.int .i64 wn, .int .u8 x] w (Ret fun v w' => v = .bool true ∧ Upd No w w') := by
  have HU : Upd (fun b => False) w w := Upd.refl _ _
  refine calls_of_W Try.func4 rfl Try.ntmps4 (by simp) ?_
  refine W_seq ?_
  refine W_region ?_
  refine Wl_v (r_as (v := .bool false) rfl) ?_
  refine Wl_nil ?_
  refine W_seq ?_
  refine W_region ?_
  refine Wl_v (r_mv (v := .int .u8 x) rfl) ?_
  by_cases q1 : x ≤ 136
  · have hwi_q1 := hw_inI (w := x) (by omega) (by omega)
    refine Wl_call (r_call1 rfl Try.call13 rfl) (window_ok _ (by omega)) ?_
    rintro v w1 ⟨rfl, hU1⟩
    have hzw1 := hU1.size
    replace HU := HU.trans0 hU1
    refine Wl_v (r_mv (v := .tuple #[.int .i64 (hw x), .int .i64 0]) rfl) ?_
    refine Wl_v (r_ext (v := .int .i64 (hw x)) rfl rfl) ?_
    refine Wl_v (r_ext (v := .int .i64 0) rfl rfl) ?_
    refine Wl_v (r_as (v := .int .i64 (hw x)) rfl) ?_
    refine Wl_v (r_as (v := .int .i64 0) rfl) ?_
    refine Wl_nil ?_
    refine W_seq ?_
    refine W_seq ?_
    refine W_region ?_
    refine Wl_v (r_mv (v := .int .i64 0) rfl) ?_
    refine Wl_v (v := .bool true) (r_eq (a := 0) (b := 0) rfl rfl) ?_
    refine Wl_nil ?_
    refine W_cond_t rfl ?_
    refine W_seq ?_
    refine W_region ?_
    refine Wl_v (r_mv (v := .int .i64 (hw x)) rfl) ?_
    refine Wl_call (r_call1 rfl Try.call15 rfl) (byte_ok _ (by omega)) ?_
    rintro v w2 ⟨rfl, hU2⟩
    have hzw2 := hU2.size
    replace HU := HU.trans0 hU2
    have hbx : ((hb (hw x) : Nat) : Int) = x := hb_W (by omega) (by omega)
    refine Wl_v (r_mv (v := .tuple #[.int .u8 ((hb (hw x) : Nat) : Int), .int .i64 0]) rfl) ?_
    refine Wl_v (r_ext (v := .int .u8 ((hb (hw x) : Nat) : Int)) rfl rfl) ?_
    refine Wl_v (r_ext (v := .int .i64 0) rfl rfl) ?_
    refine Wl_v (r_as (v := .int .u8 ((hb (hw x) : Nat) : Int)) rfl) ?_
    refine Wl_v (r_as (v := .int .i64 0) rfl) ?_
    refine Wl_nil ?_
    refine W_seq ?_
    refine W_region ?_
    refine Wl_v (r_mv (v := .int .u8 x) rfl) ?_
    refine Wl_v (r_add rfl rfl (wu8 (by omega) (by omega))) ?_
    by_cases q2 : x + 1 ≤ 136
    · have hmo := hw_mono (n := x.toNat) (by omega)
      rw [show ((x.toNat : Nat) : Int) = x from by omega, show ((x.toNat + 1 : Nat) : Int) = x + 1 from by omega] at hmo
      refine Wl_call (r_call1 rfl Try.call13 rfl) (window_ok _ (by omega)) ?_
      rintro v w3 ⟨rfl, hU3⟩
      have hzw3 := hU3.size
      replace HU := HU.trans0 hU3
      refine Wl_v (r_mv (v := .tuple #[.int .i64 (hw (x + 1)), .int .i64 0]) rfl) ?_
      refine Wl_v (r_ext (v := .int .i64 (hw (x + 1))) rfl rfl) ?_
      refine Wl_v (r_ext (v := .int .i64 0) rfl rfl) ?_
      refine Wl_v (r_as (v := .int .i64 (hw (x + 1))) rfl) ?_
      refine Wl_v (r_as (v := .int .i64 0) rfl) ?_
      refine Wl_nil ?_
      refine W_seq ?_
      refine W_region ?_
      refine Wl_v (r_mv (v := .int .i64 0) rfl) ?_
      refine Wl_v (v := .bool false) (r_ne (a := 0) (b := 0) rfl rfl) ?_
      refine Wl_v (r_mv (v := .bool false) rfl) ?_
      refine Wl_guard_t rfl ?_
      refine Wl_v (r_mv (v := .int .u8 ((hb (hw x) : Nat) : Int)) rfl) ?_
      refine Wl_guard_t rfl ?_
      refine Wl_v (r_mv (v := .int .u8 x) rfl) ?_
      refine Wl_guard_t rfl ?_
      refine Wl_v (r_ne rfl rfl) ?_
      refine Wl_v (r_pick_f (v := .bool (decide (((hb (hw x) : Nat) : Int) ≠ x))) rfl rfl) ?_
      refine Wl_v (r_mv (v := .bool (decide (((hb (hw x) : Nat) : Int) ≠ x))) rfl) ?_
      have q3 : ¬ (((hb (hw x) : Nat) : Int) ≠ x) := (by omega)
      rw [decide_eq_false q3]
      refine Wl_guard_t rfl ?_
      refine Wl_v (r_mv (v := .int .i64 0) rfl) ?_
      refine Wl_guard_t rfl ?_
      refine Wl_v (v := .bool true) (r_eq (a := 0) (b := 0) rfl rfl) ?_
      refine Wl_guard_t rfl ?_
      refine Wl_v (r_mv (v := .bool true) rfl) ?_
      refine Wl_guard_t rfl ?_
      refine Wl_v (r_mv (v := .int .i64 (hw (x + 1))) rfl) ?_
      refine Wl_guard_t rfl ?_
      refine Wl_v (r_mv (v := .int .i64 (hw x)) rfl) ?_
      refine Wl_guard_t rfl ?_
      refine Wl_v (r_le rfl rfl) ?_
      refine Wl_guard_t rfl ?_
      refine Wl_v (r_pick_t (v := .bool (decide ((hw (x + 1)) ≤ (hw x)))) rfl rfl) ?_
      refine Wl_v (r_pick_f (v := .bool (decide ((hw (x + 1)) ≤ (hw x)))) rfl rfl) ?_
      refine Wl_nil ?_
      have q4 : ¬ ((hw (x + 1)) ≤ (hw x)) := (by omega)
      rw [decide_eq_false q4]
      refine W_cond_f rfl ?_
      refine W_skip ?_
      refine W_seq ?_
      refine W_seq ?_
      refine W_region ?_
      refine Wl_v (r_mv (v := .int .i64 wn) rfl) ?_
      refine Wl_v (r_lt rfl rfl) ?_
      refine Wl_v (r_mv (v := .bool (decide (wn < 1024))) rfl) ?_
      by_cases q5 : wn < 1024
      · rw [decide_eq_true q5]
        refine Wl_guard_f rfl ?_
        refine Wl_guard_f rfl ?_
        refine Wl_v (r_pick_t (v := .bool true) rfl rfl) ?_
        refine Wl_nil ?_
        refine W_cond_t rfl ?_
        refine W_seq ?_
        refine W_region ?_
        refine Wl_call (r_call0 rfl Try.call16 ) (known_spec _ ) ?_
        rintro v w4 ⟨rfl, hU4⟩
        have hzw4 := hU4.size
        replace HU := HU.trans0 hU4
        refine Wl_v (r_as (v := .bool true) rfl) ?_
        refine Wl_nil ?_
        refine W_ret ?_
        refine ret_end (v := .bool true) rfl (res1 Try.results4 rfl) ?_
        exact ⟨_, rfl, rfl, HU⟩
      · rw [decide_eq_false q5]
        refine Wl_guard_t rfl ?_
        refine Wl_v (r_mv (v := .int .i64 wn) rfl) ?_
        refine Wl_guard_t rfl ?_
        refine Wl_v (r_gt rfl rfl) ?_
        refine Wl_v (r_pick_f (v := .bool (decide (134217728 < wn))) rfl rfl) ?_
        refine Wl_nil ?_
        by_cases q6 : 134217728 < wn
        · rw [decide_eq_true q6]
          refine W_cond_t rfl ?_
          refine W_seq ?_
          refine W_region ?_
          refine Wl_call (r_call0 rfl Try.call16 ) (known_spec _ ) ?_
          rintro v w5 ⟨rfl, hU5⟩
          have hzw5 := hU5.size
          replace HU := HU.trans0 hU5
          refine Wl_v (r_as (v := .bool true) rfl) ?_
          refine Wl_nil ?_
          refine W_ret ?_
          refine ret_end (v := .bool true) rfl (res1 Try.results4 rfl) ?_
          exact ⟨_, rfl, rfl, HU⟩
        · rw [decide_eq_false q6]
          refine W_cond_f rfl ?_
          refine W_skip ?_
          refine W_seq ?_
          refine W_region ?_
          refine Wl_v (r_mv (v := .int .i64 wn) rfl) ?_
          refine Wl_call (r_call1 rfl Try.call15 rfl) (byte_ok _ (by omega)) ?_
          rintro v w6 ⟨rfl, hU6⟩
          have hzw6 := hU6.size
          replace HU := HU.trans0 hU6
          have hbs := hb_spec (x := wn) (by omega)
          have hbn := hb_near (x := wn) (by omega) (by omega)
          have hbi := hw_in hbs.1
          refine Wl_v (r_mv (v := .tuple #[.int .u8 ((hb wn : Nat) : Int), .int .i64 0]) rfl) ?_
          refine Wl_v (r_ext (v := .int .u8 ((hb wn : Nat) : Int)) rfl rfl) ?_
          refine Wl_v (r_ext (v := .int .i64 0) rfl rfl) ?_
          refine Wl_v (r_as (v := .int .u8 ((hb wn : Nat) : Int)) rfl) ?_
          refine Wl_v (r_as (v := .int .i64 0) rfl) ?_
          refine Wl_nil ?_
          refine W_seq ?_
          refine W_region ?_
          refine Wl_v (r_mv (v := .int .u8 ((hb wn : Nat) : Int)) rfl) ?_
          refine Wl_call (r_call1 rfl Try.call13 rfl) (window_ok _ (by omega)) ?_
          rintro v w7 ⟨rfl, hU7⟩
          have hzw7 := hU7.size
          replace HU := HU.trans0 hU7
          refine Wl_v (r_mv (v := .tuple #[.int .i64 (hw ((hb wn : Nat) : Int)), .int .i64 0]) rfl) ?_
          refine Wl_v (r_ext (v := .int .i64 (hw ((hb wn : Nat) : Int))) rfl rfl) ?_
          refine Wl_v (r_ext (v := .int .i64 0) rfl rfl) ?_
          refine Wl_v (r_as (v := .int .i64 (hw ((hb wn : Nat) : Int))) rfl) ?_
          refine Wl_v (r_as (v := .int .i64 0) rfl) ?_
          refine Wl_nil ?_
          refine W_seq ?_
          refine W_region ?_
          refine Wl_v (r_mv (v := .int .i64 0) rfl) ?_
          refine Wl_v (v := .bool true) (r_eq (a := 0) (b := 0) rfl rfl) ?_
          refine Wl_v (r_mv (v := .bool true) rfl) ?_
          refine Wl_guard_t rfl ?_
          refine Wl_v (r_mv (v := .int .i64 0) rfl) ?_
          refine Wl_guard_t rfl ?_
          refine Wl_v (v := .bool true) (r_eq (a := 0) (b := 0) rfl rfl) ?_
          refine Wl_v (r_pick_t (v := .bool true) rfl rfl) ?_
          refine Wl_v (r_mv (v := .bool true) rfl) ?_
          refine Wl_guard_t rfl ?_
          refine Wl_v (r_mv (v := .int .i64 (hw ((hb wn : Nat) : Int))) rfl) ?_
          refine Wl_guard_t rfl ?_
          refine Wl_v (r_mv (v := .int .i64 wn) rfl) ?_
          refine Wl_guard_t rfl ?_
          refine Wl_v (r_ge rfl rfl) ?_
          refine Wl_v (r_pick_t (v := .bool (decide (wn ≤ (hw ((hb wn : Nat) : Int))))) rfl rfl) ?_
          refine Wl_v (r_mv (v := .bool (decide (wn ≤ (hw ((hb wn : Nat) : Int))))) rfl) ?_
          have q7 : wn ≤ (hw ((hb wn : Nat) : Int)) := (by omega)
          rw [decide_eq_true q7]
          refine Wl_guard_t rfl ?_
          refine Wl_v (r_mv (v := .int .i64 (hw ((hb wn : Nat) : Int))) rfl) ?_
          refine Wl_guard_t rfl ?_
          refine Wl_v (r_mv (v := .int .i64 wn) rfl) ?_
          refine Wl_guard_t rfl ?_
          refine Wl_v (r_sub rfl rfl (wi64 (by omega) (by omega))) ?_
          refine Wl_guard_t rfl ?_
          refine Wl_v (r_mv (v := .int .i64 wn) rfl) ?_
          refine Wl_guard_t rfl ?_
          refine Wl_v (r_quo rfl rfl (by omega) (tq (by omega) (wi64 (by omega) (by omega)))) ?_
          refine Wl_guard_t rfl ?_
          refine Wl_v (r_le rfl rfl) ?_
          refine Wl_v (r_pick_t (v := .bool (decide (((hw ((hb wn : Nat) : Int)) - wn) ≤ (wn / 8)))) rfl rfl) ?_
          refine Wl_v (r_mv (v := .bool (decide (((hw ((hb wn : Nat) : Int)) - wn) ≤ (wn / 8)))) rfl) ?_
          have q8 : ((hw ((hb wn : Nat) : Int)) - wn) ≤ (wn / 8) := (by omega)
          rw [decide_eq_true q8]
          refine Wl_guard_t rfl ?_
          refine Wl_call (r_call0 rfl Try.call16 ) (known_spec _ ) ?_
          rintro v w8 ⟨rfl, hU8⟩
          have hzw8 := hU8.size
          replace HU := HU.trans0 hU8
          refine Wl_v (r_pick_t (v := .bool true) rfl rfl) ?_
          refine Wl_v (r_as (v := .bool true) rfl) ?_
          refine Wl_nil ?_
          refine W_ret ?_
          refine ret_end (v := .bool true) rfl (res1 Try.results4 rfl) ?_
          exact ⟨_, rfl, rfl, HU⟩
    · refine Wl_call (r_call1 rfl Try.call13 rfl) (window_no _ (by omega)) ?_
      rintro v w9 ⟨rfl, hU9⟩
      have hzw9 := hU9.size
      replace HU := HU.trans0 hU9
      refine Wl_v (r_mv (v := .tuple #[.int .i64 0, .int .i64 7]) rfl) ?_
      refine Wl_v (r_ext (v := .int .i64 0) rfl rfl) ?_
      refine Wl_v (r_ext (v := .int .i64 7) rfl rfl) ?_
      refine Wl_v (r_as (v := .int .i64 0) rfl) ?_
      refine Wl_v (r_as (v := .int .i64 7) rfl) ?_
      refine Wl_nil ?_
      refine W_seq ?_
      refine W_region ?_
      refine Wl_v (r_mv (v := .int .i64 0) rfl) ?_
      refine Wl_v (v := .bool false) (r_ne (a := 0) (b := 0) rfl rfl) ?_
      refine Wl_v (r_mv (v := .bool false) rfl) ?_
      refine Wl_guard_t rfl ?_
      refine Wl_v (r_mv (v := .int .u8 ((hb (hw x) : Nat) : Int)) rfl) ?_
      refine Wl_guard_t rfl ?_
      refine Wl_v (r_mv (v := .int .u8 x) rfl) ?_
      refine Wl_guard_t rfl ?_
      refine Wl_v (r_ne rfl rfl) ?_
      refine Wl_v (r_pick_f (v := .bool (decide (((hb (hw x) : Nat) : Int) ≠ x))) rfl rfl) ?_
      refine Wl_v (r_mv (v := .bool (decide (((hb (hw x) : Nat) : Int) ≠ x))) rfl) ?_
      have q9 : ¬ (((hb (hw x) : Nat) : Int) ≠ x) := (by omega)
      rw [decide_eq_false q9]
      refine Wl_guard_t rfl ?_
      refine Wl_v (r_mv (v := .int .i64 7) rfl) ?_
      refine Wl_guard_t rfl ?_
      refine Wl_v (v := .bool false) (r_eq (a := 7) (b := 0) rfl rfl) ?_
      refine Wl_guard_t rfl ?_
      refine Wl_v (r_mv (v := .bool false) rfl) ?_
      refine Wl_guard_f rfl ?_
      refine Wl_guard_f rfl ?_
      refine Wl_guard_f rfl ?_
      refine Wl_guard_t rfl ?_
      refine Wl_v (r_pick_f (v := .bool false) rfl rfl) ?_
      refine Wl_v (r_pick_f (v := .bool false) rfl rfl) ?_
      refine Wl_nil ?_
      refine W_cond_f rfl ?_
      refine W_skip ?_
      refine W_seq ?_
      refine W_seq ?_
      refine W_region ?_
      refine Wl_v (r_mv (v := .int .i64 wn) rfl) ?_
      refine Wl_v (r_lt rfl rfl) ?_
      refine Wl_v (r_mv (v := .bool (decide (wn < 1024))) rfl) ?_
      by_cases q10 : wn < 1024
      · rw [decide_eq_true q10]
        refine Wl_guard_f rfl ?_
        refine Wl_guard_f rfl ?_
        refine Wl_v (r_pick_t (v := .bool true) rfl rfl) ?_
        refine Wl_nil ?_
        refine W_cond_t rfl ?_
        refine W_seq ?_
        refine W_region ?_
        refine Wl_call (r_call0 rfl Try.call16 ) (known_spec _ ) ?_
        rintro v w10 ⟨rfl, hU10⟩
        have hzw10 := hU10.size
        replace HU := HU.trans0 hU10
        refine Wl_v (r_as (v := .bool true) rfl) ?_
        refine Wl_nil ?_
        refine W_ret ?_
        refine ret_end (v := .bool true) rfl (res1 Try.results4 rfl) ?_
        exact ⟨_, rfl, rfl, HU⟩
      · rw [decide_eq_false q10]
        refine Wl_guard_t rfl ?_
        refine Wl_v (r_mv (v := .int .i64 wn) rfl) ?_
        refine Wl_guard_t rfl ?_
        refine Wl_v (r_gt rfl rfl) ?_
        refine Wl_v (r_pick_f (v := .bool (decide (134217728 < wn))) rfl rfl) ?_
        refine Wl_nil ?_
        by_cases q11 : 134217728 < wn
        · rw [decide_eq_true q11]
          refine W_cond_t rfl ?_
          refine W_seq ?_
          refine W_region ?_
          refine Wl_call (r_call0 rfl Try.call16 ) (known_spec _ ) ?_
          rintro v w11 ⟨rfl, hU11⟩
          have hzw11 := hU11.size
          replace HU := HU.trans0 hU11
          refine Wl_v (r_as (v := .bool true) rfl) ?_
          refine Wl_nil ?_
          refine W_ret ?_
          refine ret_end (v := .bool true) rfl (res1 Try.results4 rfl) ?_
          exact ⟨_, rfl, rfl, HU⟩
        · rw [decide_eq_false q11]
          refine W_cond_f rfl ?_
          refine W_skip ?_
          refine W_seq ?_
          refine W_region ?_
          refine Wl_v (r_mv (v := .int .i64 wn) rfl) ?_
          refine Wl_call (r_call1 rfl Try.call15 rfl) (byte_ok _ (by omega)) ?_
          rintro v w12 ⟨rfl, hU12⟩
          have hzw12 := hU12.size
          replace HU := HU.trans0 hU12
          have hbs := hb_spec (x := wn) (by omega)
          have hbn := hb_near (x := wn) (by omega) (by omega)
          have hbi := hw_in hbs.1
          refine Wl_v (r_mv (v := .tuple #[.int .u8 ((hb wn : Nat) : Int), .int .i64 0]) rfl) ?_
          refine Wl_v (r_ext (v := .int .u8 ((hb wn : Nat) : Int)) rfl rfl) ?_
          refine Wl_v (r_ext (v := .int .i64 0) rfl rfl) ?_
          refine Wl_v (r_as (v := .int .u8 ((hb wn : Nat) : Int)) rfl) ?_
          refine Wl_v (r_as (v := .int .i64 0) rfl) ?_
          refine Wl_nil ?_
          refine W_seq ?_
          refine W_region ?_
          refine Wl_v (r_mv (v := .int .u8 ((hb wn : Nat) : Int)) rfl) ?_
          refine Wl_call (r_call1 rfl Try.call13 rfl) (window_ok _ (by omega)) ?_
          rintro v w13 ⟨rfl, hU13⟩
          have hzw13 := hU13.size
          replace HU := HU.trans0 hU13
          refine Wl_v (r_mv (v := .tuple #[.int .i64 (hw ((hb wn : Nat) : Int)), .int .i64 0]) rfl) ?_
          refine Wl_v (r_ext (v := .int .i64 (hw ((hb wn : Nat) : Int))) rfl rfl) ?_
          refine Wl_v (r_ext (v := .int .i64 0) rfl rfl) ?_
          refine Wl_v (r_as (v := .int .i64 (hw ((hb wn : Nat) : Int))) rfl) ?_
          refine Wl_v (r_as (v := .int .i64 0) rfl) ?_
          refine Wl_nil ?_
          refine W_seq ?_
          refine W_region ?_
          refine Wl_v (r_mv (v := .int .i64 0) rfl) ?_
          refine Wl_v (v := .bool true) (r_eq (a := 0) (b := 0) rfl rfl) ?_
          refine Wl_v (r_mv (v := .bool true) rfl) ?_
          refine Wl_guard_t rfl ?_
          refine Wl_v (r_mv (v := .int .i64 0) rfl) ?_
          refine Wl_guard_t rfl ?_
          refine Wl_v (v := .bool true) (r_eq (a := 0) (b := 0) rfl rfl) ?_
          refine Wl_v (r_pick_t (v := .bool true) rfl rfl) ?_
          refine Wl_v (r_mv (v := .bool true) rfl) ?_
          refine Wl_guard_t rfl ?_
          refine Wl_v (r_mv (v := .int .i64 (hw ((hb wn : Nat) : Int))) rfl) ?_
          refine Wl_guard_t rfl ?_
          refine Wl_v (r_mv (v := .int .i64 wn) rfl) ?_
          refine Wl_guard_t rfl ?_
          refine Wl_v (r_ge rfl rfl) ?_
          refine Wl_v (r_pick_t (v := .bool (decide (wn ≤ (hw ((hb wn : Nat) : Int))))) rfl rfl) ?_
          refine Wl_v (r_mv (v := .bool (decide (wn ≤ (hw ((hb wn : Nat) : Int))))) rfl) ?_
          have q12 : wn ≤ (hw ((hb wn : Nat) : Int)) := (by omega)
          rw [decide_eq_true q12]
          refine Wl_guard_t rfl ?_
          refine Wl_v (r_mv (v := .int .i64 (hw ((hb wn : Nat) : Int))) rfl) ?_
          refine Wl_guard_t rfl ?_
          refine Wl_v (r_mv (v := .int .i64 wn) rfl) ?_
          refine Wl_guard_t rfl ?_
          refine Wl_v (r_sub rfl rfl (wi64 (by omega) (by omega))) ?_
          refine Wl_guard_t rfl ?_
          refine Wl_v (r_mv (v := .int .i64 wn) rfl) ?_
          refine Wl_guard_t rfl ?_
          refine Wl_v (r_quo rfl rfl (by omega) (tq (by omega) (wi64 (by omega) (by omega)))) ?_
          refine Wl_guard_t rfl ?_
          refine Wl_v (r_le rfl rfl) ?_
          refine Wl_v (r_pick_t (v := .bool (decide (((hw ((hb wn : Nat) : Int)) - wn) ≤ (wn / 8)))) rfl rfl) ?_
          refine Wl_v (r_mv (v := .bool (decide (((hw ((hb wn : Nat) : Int)) - wn) ≤ (wn / 8)))) rfl) ?_
          have q13 : ((hw ((hb wn : Nat) : Int)) - wn) ≤ (wn / 8) := (by omega)
          rw [decide_eq_true q13]
          refine Wl_guard_t rfl ?_
          refine Wl_call (r_call0 rfl Try.call16 ) (known_spec _ ) ?_
          rintro v w14 ⟨rfl, hU14⟩
          have hzw14 := hU14.size
          replace HU := HU.trans0 hU14
          refine Wl_v (r_pick_t (v := .bool true) rfl rfl) ?_
          refine Wl_v (r_as (v := .bool true) rfl) ?_
          refine Wl_nil ?_
          refine W_ret ?_
          refine ret_end (v := .bool true) rfl (res1 Try.results4 rfl) ?_
          exact ⟨_, rfl, rfl, HU⟩
  · have hwi_q1 := hw_outI (w := x) (by omega) (by omega)
    refine Wl_call (r_call1 rfl Try.call13 rfl) (window_no _ (by omega)) ?_
    rintro v w15 ⟨rfl, hU15⟩
    have hzw15 := hU15.size
    replace HU := HU.trans0 hU15
    refine Wl_v (r_mv (v := .tuple #[.int .i64 0, .int .i64 7]) rfl) ?_
    refine Wl_v (r_ext (v := .int .i64 0) rfl rfl) ?_
    refine Wl_v (r_ext (v := .int .i64 7) rfl rfl) ?_
    refine Wl_v (r_as (v := .int .i64 0) rfl) ?_
    refine Wl_v (r_as (v := .int .i64 7) rfl) ?_
    refine Wl_nil ?_
    refine W_seq ?_
    refine W_seq ?_
    refine W_region ?_
    refine Wl_v (r_mv (v := .int .i64 7) rfl) ?_
    refine Wl_v (v := .bool false) (r_eq (a := 7) (b := 0) rfl rfl) ?_
    refine Wl_nil ?_
    refine W_cond_f rfl ?_
    refine W_skip ?_
    refine W_seq ?_
    refine W_seq ?_
    refine W_region ?_
    refine Wl_v (r_mv (v := .int .i64 wn) rfl) ?_
    refine Wl_v (r_lt rfl rfl) ?_
    refine Wl_v (r_mv (v := .bool (decide (wn < 1024))) rfl) ?_
    by_cases q14 : wn < 1024
    · rw [decide_eq_true q14]
      refine Wl_guard_f rfl ?_
      refine Wl_guard_f rfl ?_
      refine Wl_v (r_pick_t (v := .bool true) rfl rfl) ?_
      refine Wl_nil ?_
      refine W_cond_t rfl ?_
      refine W_seq ?_
      refine W_region ?_
      refine Wl_call (r_call0 rfl Try.call16 ) (known_spec _ ) ?_
      rintro v w16 ⟨rfl, hU16⟩
      have hzw16 := hU16.size
      replace HU := HU.trans0 hU16
      refine Wl_v (r_as (v := .bool true) rfl) ?_
      refine Wl_nil ?_
      refine W_ret ?_
      refine ret_end (v := .bool true) rfl (res1 Try.results4 rfl) ?_
      exact ⟨_, rfl, rfl, HU⟩
    · rw [decide_eq_false q14]
      refine Wl_guard_t rfl ?_
      refine Wl_v (r_mv (v := .int .i64 wn) rfl) ?_
      refine Wl_guard_t rfl ?_
      refine Wl_v (r_gt rfl rfl) ?_
      refine Wl_v (r_pick_f (v := .bool (decide (134217728 < wn))) rfl rfl) ?_
      refine Wl_nil ?_
      by_cases q15 : 134217728 < wn
      · rw [decide_eq_true q15]
        refine W_cond_t rfl ?_
        refine W_seq ?_
        refine W_region ?_
        refine Wl_call (r_call0 rfl Try.call16 ) (known_spec _ ) ?_
        rintro v w17 ⟨rfl, hU17⟩
        have hzw17 := hU17.size
        replace HU := HU.trans0 hU17
        refine Wl_v (r_as (v := .bool true) rfl) ?_
        refine Wl_nil ?_
        refine W_ret ?_
        refine ret_end (v := .bool true) rfl (res1 Try.results4 rfl) ?_
        exact ⟨_, rfl, rfl, HU⟩
      · rw [decide_eq_false q15]
        refine W_cond_f rfl ?_
        refine W_skip ?_
        refine W_seq ?_
        refine W_region ?_
        refine Wl_v (r_mv (v := .int .i64 wn) rfl) ?_
        refine Wl_call (r_call1 rfl Try.call15 rfl) (byte_ok _ (by omega)) ?_
        rintro v w18 ⟨rfl, hU18⟩
        have hzw18 := hU18.size
        replace HU := HU.trans0 hU18
        have hbs := hb_spec (x := wn) (by omega)
        have hbn := hb_near (x := wn) (by omega) (by omega)
        have hbi := hw_in hbs.1
        refine Wl_v (r_mv (v := .tuple #[.int .u8 ((hb wn : Nat) : Int), .int .i64 0]) rfl) ?_
        refine Wl_v (r_ext (v := .int .u8 ((hb wn : Nat) : Int)) rfl rfl) ?_
        refine Wl_v (r_ext (v := .int .i64 0) rfl rfl) ?_
        refine Wl_v (r_as (v := .int .u8 ((hb wn : Nat) : Int)) rfl) ?_
        refine Wl_v (r_as (v := .int .i64 0) rfl) ?_
        refine Wl_nil ?_
        refine W_seq ?_
        refine W_region ?_
        refine Wl_v (r_mv (v := .int .u8 ((hb wn : Nat) : Int)) rfl) ?_
        refine Wl_call (r_call1 rfl Try.call13 rfl) (window_ok _ (by omega)) ?_
        rintro v w19 ⟨rfl, hU19⟩
        have hzw19 := hU19.size
        replace HU := HU.trans0 hU19
        refine Wl_v (r_mv (v := .tuple #[.int .i64 (hw ((hb wn : Nat) : Int)), .int .i64 0]) rfl) ?_
        refine Wl_v (r_ext (v := .int .i64 (hw ((hb wn : Nat) : Int))) rfl rfl) ?_
        refine Wl_v (r_ext (v := .int .i64 0) rfl rfl) ?_
        refine Wl_v (r_as (v := .int .i64 (hw ((hb wn : Nat) : Int))) rfl) ?_
        refine Wl_v (r_as (v := .int .i64 0) rfl) ?_
        refine Wl_nil ?_
        refine W_seq ?_
        refine W_region ?_
        refine Wl_v (r_mv (v := .int .i64 0) rfl) ?_
        refine Wl_v (v := .bool true) (r_eq (a := 0) (b := 0) rfl rfl) ?_
        refine Wl_v (r_mv (v := .bool true) rfl) ?_
        refine Wl_guard_t rfl ?_
        refine Wl_v (r_mv (v := .int .i64 0) rfl) ?_
        refine Wl_guard_t rfl ?_
        refine Wl_v (v := .bool true) (r_eq (a := 0) (b := 0) rfl rfl) ?_
        refine Wl_v (r_pick_t (v := .bool true) rfl rfl) ?_
        refine Wl_v (r_mv (v := .bool true) rfl) ?_
        refine Wl_guard_t rfl ?_
        refine Wl_v (r_mv (v := .int .i64 (hw ((hb wn : Nat) : Int))) rfl) ?_
        refine Wl_guard_t rfl ?_
        refine Wl_v (r_mv (v := .int .i64 wn) rfl) ?_
        refine Wl_guard_t rfl ?_
        refine Wl_v (r_ge rfl rfl) ?_
        refine Wl_v (r_pick_t (v := .bool (decide (wn ≤ (hw ((hb wn : Nat) : Int))))) rfl rfl) ?_
        refine Wl_v (r_mv (v := .bool (decide (wn ≤ (hw ((hb wn : Nat) : Int))))) rfl) ?_
        have q16 : wn ≤ (hw ((hb wn : Nat) : Int)) := (by omega)
        rw [decide_eq_true q16]
        refine Wl_guard_t rfl ?_
        refine Wl_v (r_mv (v := .int .i64 (hw ((hb wn : Nat) : Int))) rfl) ?_
        refine Wl_guard_t rfl ?_
        refine Wl_v (r_mv (v := .int .i64 wn) rfl) ?_
        refine Wl_guard_t rfl ?_
        refine Wl_v (r_sub rfl rfl (wi64 (by omega) (by omega))) ?_
        refine Wl_guard_t rfl ?_
        refine Wl_v (r_mv (v := .int .i64 wn) rfl) ?_
        refine Wl_guard_t rfl ?_
        refine Wl_v (r_quo rfl rfl (by omega) (tq (by omega) (wi64 (by omega) (by omega)))) ?_
        refine Wl_guard_t rfl ?_
        refine Wl_v (r_le rfl rfl) ?_
        refine Wl_v (r_pick_t (v := .bool (decide (((hw ((hb wn : Nat) : Int)) - wn) ≤ (wn / 8)))) rfl rfl) ?_
        refine Wl_v (r_mv (v := .bool (decide (((hw ((hb wn : Nat) : Int)) - wn) ≤ (wn / 8)))) rfl) ?_
        have q17 : ((hw ((hb wn : Nat) : Int)) - wn) ≤ (wn / 8) := (by omega)
        rw [decide_eq_true q17]
        refine Wl_guard_t rfl ?_
        refine Wl_call (r_call0 rfl Try.call16 ) (known_spec _ ) ?_
        rintro v w20 ⟨rfl, hU20⟩
        have hzw20 := hU20.size
        replace HU := HU.trans0 hU20
        refine Wl_v (r_pick_t (v := .bool true) rfl rfl) ?_
        refine Wl_v (r_as (v := .bool true) rfl) ?_
        refine Wl_nil ?_
        refine W_ret ?_
        refine ret_end (v := .bool true) rfl (res1 Try.results4 rfl) ?_
        exact ⟨_, rfl, rfl, HU⟩

set_option maxRecDepth 100000 in
theorem headputs {wz sz dn : Int} {sm : Bool} (w : World) (rwz : -9223372036854775808 ≤ wz ∧ wz ≤ 9223372036854775807) (rsz : -9223372036854775808 ≤ sz ∧ sz ≤ 9223372036854775807) (rdn : 0 ≤ dn ∧ dn < 4294967296) :
    Calls Try.prog 5 #[.agg #[.int .i64 wz, .int .i64 sz, .int .u32 dn, .bool (decide (sm = true))]] w (Ret fun v w' => v = .bool true ∧ Upd No w w') := by
  have HU : Upd (fun b => False) w w := Upd.refl _ _
  refine calls_of_W Try.func5 rfl Try.ntmps5 (by simp) ?_
  refine W_seq ?_
  refine W_region ?_
  refine Wl_box (v := .agg #[.int .i64 wz, .int .i64 sz, .int .u32 dn, .bool (decide (sm = true))]) (cs := [.int .i64 wz, .int .i64 sz, .int .u32 dn, .bool (decide (sm = true))]) rfl rfl ?_
  intro B1 w1 hB1 hU1 hzz1 hb1
  have hzw1 := hU1.size
  replace HU := HU.trans0 hU1
  refine Wl_v (r_as (v := .bool false) rfl) ?_
  refine Wl_nil ?_
  refine W_seq ?_
  refine W_region ?_
  refine Wl_v (r_loada (b := B1) (off := 0) (cs := [.int .i64 wz, .int .i64 sz, .int .u32 dn, .bool (decide (sm = true))]) Try.isAgg34 Try.sizeOf34 rfl rfl (fun j hj => by rw [hb1.cell]; match j, hj with | 0, _ => rfl | 1, _ => rfl | 2, _ => rfl | 3, _ => rfl)) ?_
  by_cases q1 : Hv wz sz
  · have hv_ : Hv wz sz := q1
    refine Wl_call (r_call1 rfl Try.call18 rfl) (put_ok _ (by omega) (by omega) (by omega) q1) ?_
    rintro v w2 ⟨a2, m2, c2, rfl, hO2, hm_2, hU2⟩
    have hzw2 := hU2.size
    replace HU := HU.trans0 hU2
    replace hb1 := hb1.upd0 hU2
    replace hO2 := hO2.tight
    have hl_hO2 := ilen hO2.sl
    have hc_hO2 := hO2.sl.cap.1
    refine Wl_v (r_mv (v := .tuple #[.slice a2 m2 c2, .int .i64 0]) rfl) ?_
    refine Wl_v (r_ext (v := .slice a2 m2 c2) rfl rfl) ?_
    refine Wl_v (r_ext (v := .int .i64 0) rfl rfl) ?_
    refine Wl_v (r_as (v := .slice a2 m2 c2) rfl) ?_
    refine Wl_v (r_as (v := .int .i64 0) rfl) ?_
    refine Wl_nil ?_
    refine W_seq ?_
    refine W_region ?_
    refine Wl_v (r_loada (b := B1) (off := 0) (cs := [.int .i64 wz, .int .i64 sz, .int .u32 dn, .bool (decide (sm = true))]) Try.isAgg34 Try.sizeOf34 rfl rfl (fun j hj => by rw [hb1.cell]; match j, hj with | 0, _ => rfl | 1, _ => rfl | 2, _ => rfl | 3, _ => rfl)) ?_
    refine Wl_call (r_call1 rfl Try.call19 rfl) (may_spec _ (by omega) (by omega) (by omega)) ?_
    rintro v w3 ⟨rfl, hU3⟩
    have hzw3 := hU3.size
    replace HU := HU.trans0 hU3
    replace hb1 := hb1.upd0 hU3
    replace hO2 := hO2.upd0 hU3
    refine Wl_v (r_as (v := .bool (decide (Hv wz sz))) rfl) ?_
    refine Wl_nil ?_
    refine W_seq ?_
    refine W_seq ?_
    refine W_region ?_
    refine Wl_v (r_loada (b := B1) (off := 0) (cs := [.int .i64 wz, .int .i64 sz, .int .u32 dn, .bool (decide (sm = true))]) Try.isAgg34 Try.sizeOf34 rfl rfl (fun j hj => by rw [hb1.cell]; match j, hj with | 0, _ => rfl | 1, _ => rfl | 2, _ => rfl | 3, _ => rfl)) ?_
    refine Wl_call (r_call1 rfl Try.call20 rfl) (valid_spec _ (by omega) (by omega) (by omega)) ?_
    rintro v w4 ⟨rfl, hU4⟩
    have hzw4 := hU4.size
    replace HU := HU.trans0 hU4
    replace hb1 := hb1.upd0 hU4
    replace hO2 := hO2.upd0 hU4
    refine Wl_v (r_mv (v := .bool (decide (Hv wz sz))) rfl) ?_
    have q2 : Hv wz sz := q1
    rw [decide_eq_true q2]
    refine Wl_v (v := .bool false) (r_neb (a := true) (b := true) Try.underlying4 rfl rfl) ?_
    refine Wl_nil ?_
    refine W_cond_f rfl ?_
    refine W_skip ?_
    refine W_seq ?_
    refine W_seq ?_
    refine W_region ?_
    refine Wl_v (r_mv (v := .bool true) rfl) ?_
    refine Wl_v (r_not (b := true) rfl) ?_
    refine Wl_nil ?_
    refine W_cond_f rfl ?_
    refine W_skip ?_
    refine W_seq ?_
    refine W_region ?_
    refine Wl_v (r_mv (v := .int .i64 0) rfl) ?_
    refine Wl_v (v := .bool true) (r_eq (a := 0) (b := 0) rfl rfl) ?_
    refine Wl_v (r_mv (v := .bool true) rfl) ?_
    refine Wl_guard_t rfl ?_
    refine Wl_v (r_mv (v := .slice a2 m2 c2) rfl) ?_
    refine Wl_guard_t rfl ?_
    refine Wl_v (r_loada (b := B1) (off := 0) (cs := [.int .i64 wz, .int .i64 sz, .int .u32 dn, .bool (decide (sm = true))]) Try.isAgg34 Try.sizeOf34 rfl rfl (fun j hj => by rw [hb1.cell]; match j, hj with | 0, _ => rfl | 1, _ => rfl | 2, _ => rfl | 3, _ => rfl)) ?_
    refine Wl_guard_t rfl ?_
    refine Wl_call (r_call1 rfl Try.call22 rfl) (rbytes38 _ (by omega) (by omega) (by omega) q2) ?_
    rintro v w5 ⟨a5, m5, c5, rfl, hO5, hm_5, hU5⟩
    have hzw5 := hU5.size
    replace HU := HU.trans0 hU5
    replace hb1 := hb1.upd0 hU5
    replace hO2 := hO2.upd0 hU5
    replace hO5 := hO5.tight
    have hl_hO5 := ilen hO5.sl
    have hc_hO5 := hO5.sl.cap.1
    refine Wl_guard_t rfl ?_
    refine Wl_call (r_call2 rfl Try.call21 rfl rfl) (same_spec _ hO2.sl.any hO5.sl.any (henc_byt hv_ rdn.1 rdn.2) (henc_byt hv_ rdn.1 rdn.2)) ?_
    rintro v w6 ⟨rfl, hU6⟩
    have hzw6 := hU6.size
    replace HU := HU.trans0 hU6
    replace hb1 := hb1.upd0 hU6
    replace hO2 := hO2.upd0 hU6
    replace hO5 := hO5.upd0 hU6
    refine Wl_v (r_pick_t (v := .bool (decide ((henc wz sz dn sm) = (henc wz sz dn sm)))) rfl rfl) ?_
    refine Wl_v (r_mv (v := .bool (decide ((henc wz sz dn sm) = (henc wz sz dn sm)))) rfl) ?_
    have q3 : (henc wz sz dn sm) = (henc wz sz dn sm) := rfl
    rw [decide_eq_true q3]
    refine Wl_guard_t rfl ?_
    refine Wl_call (r_call0 rfl Try.call16 ) (known_spec _ ) ?_
    rintro v w7 ⟨rfl, hU7⟩
    have hzw7 := hU7.size
    replace HU := HU.trans0 hU7
    replace hb1 := hb1.upd0 hU7
    replace hO2 := hO2.upd0 hU7
    replace hO5 := hO5.upd0 hU7
    refine Wl_v (r_pick_t (v := .bool true) rfl rfl) ?_
    refine Wl_v (r_as (v := .bool true) rfl) ?_
    refine Wl_nil ?_
    refine W_ret ?_
    refine ret_end (v := .bool true) rfl (res1 Try.results5 rfl) ?_
    exact ⟨_, rfl, rfl, HU⟩
  · refine Wl_call (r_call1 rfl Try.call18 rfl) (put_no _ (by omega) (by omega) (by omega) q1) ?_
    rintro v w8 ⟨rfl, hU8⟩
    have hzw8 := hU8.size
    replace HU := HU.trans0 hU8
    replace hb1 := hb1.upd0 hU8
    refine Wl_v (r_mv (v := .tuple #[.slice none 0 0, .int .i64 2]) rfl) ?_
    refine Wl_v (r_ext (v := .slice none 0 0) rfl rfl) ?_
    refine Wl_v (r_ext (v := .int .i64 2) rfl rfl) ?_
    refine Wl_v (r_as (v := .slice none 0 0) rfl) ?_
    refine Wl_v (r_as (v := .int .i64 2) rfl) ?_
    refine Wl_nil ?_
    refine W_seq ?_
    refine W_region ?_
    refine Wl_v (r_loada (b := B1) (off := 0) (cs := [.int .i64 wz, .int .i64 sz, .int .u32 dn, .bool (decide (sm = true))]) Try.isAgg34 Try.sizeOf34 rfl rfl (fun j hj => by rw [hb1.cell]; match j, hj with | 0, _ => rfl | 1, _ => rfl | 2, _ => rfl | 3, _ => rfl)) ?_
    refine Wl_call (r_call1 rfl Try.call19 rfl) (may_spec _ (by omega) (by omega) (by omega)) ?_
    rintro v w9 ⟨rfl, hU9⟩
    have hzw9 := hU9.size
    replace HU := HU.trans0 hU9
    replace hb1 := hb1.upd0 hU9
    refine Wl_v (r_as (v := .bool (decide (Hv wz sz))) rfl) ?_
    refine Wl_nil ?_
    refine W_seq ?_
    refine W_seq ?_
    refine W_region ?_
    refine Wl_v (r_loada (b := B1) (off := 0) (cs := [.int .i64 wz, .int .i64 sz, .int .u32 dn, .bool (decide (sm = true))]) Try.isAgg34 Try.sizeOf34 rfl rfl (fun j hj => by rw [hb1.cell]; match j, hj with | 0, _ => rfl | 1, _ => rfl | 2, _ => rfl | 3, _ => rfl)) ?_
    refine Wl_call (r_call1 rfl Try.call20 rfl) (valid_spec _ (by omega) (by omega) (by omega)) ?_
    rintro v w10 ⟨rfl, hU10⟩
    have hzw10 := hU10.size
    replace HU := HU.trans0 hU10
    replace hb1 := hb1.upd0 hU10
    refine Wl_v (r_mv (v := .bool (decide (Hv wz sz))) rfl) ?_
    have q4 : ¬ (Hv wz sz) := q1
    rw [decide_eq_false q4]
    refine Wl_v (v := .bool false) (r_neb (a := false) (b := false) Try.underlying4 rfl rfl) ?_
    refine Wl_nil ?_
    refine W_cond_f rfl ?_
    refine W_skip ?_
    refine W_seq ?_
    refine W_seq ?_
    refine W_region ?_
    refine Wl_v (r_mv (v := .bool false) rfl) ?_
    refine Wl_v (r_not (b := false) rfl) ?_
    refine Wl_nil ?_
    refine W_cond_t rfl ?_
    refine W_seq ?_
    refine W_region ?_
    refine Wl_v (r_mv (v := .int .i64 2) rfl) ?_
    refine Wl_v (v := .bool true) (r_eq (a := 2) (b := 2) rfl rfl) ?_
    refine Wl_v (r_mv (v := .bool true) rfl) ?_
    refine Wl_guard_t rfl ?_
    refine Wl_v (r_mv (v := .slice none 0 0) rfl) ?_
    refine Wl_guard_t rfl ?_
    refine Wl_v (r_len Try.underlying35 rfl) ?_
    refine Wl_guard_t rfl ?_
    refine Wl_v (v := .bool true) (r_eq (a := 0) (b := 0) rfl rfl) ?_
    refine Wl_v (r_pick_t (v := .bool true) rfl rfl) ?_
    refine Wl_v (r_mv (v := .bool true) rfl) ?_
    refine Wl_guard_t rfl ?_
    refine Wl_call (r_call0 rfl Try.call16 ) (known_spec _ ) ?_
    rintro v w11 ⟨rfl, hU11⟩
    have hzw11 := hU11.size
    replace HU := HU.trans0 hU11
    replace hb1 := hb1.upd0 hU11
    refine Wl_v (r_pick_t (v := .bool true) rfl rfl) ?_
    refine Wl_v (r_as (v := .bool true) rfl) ?_
    refine Wl_nil ?_
    refine W_ret ?_
    refine ret_end (v := .bool true) rfl (res1 Try.results5 rfl) ?_
    exact ⟨_, rfl, rfl, HU⟩

set_option maxRecDepth 100000 in
theorem headgets {a : Option Addr} {n c : Nat} {bs : List Int} {sk : Int} (w : World) (hb : Sl w (fun g => g < w.heap.size) 1 (.slice a n c) n (ints .u8 bs)) (bb : Byt bs) (nb : n ≤ 140737488351232) (rsk : -9223372036854775808 ≤ sk ∧ sk ≤ 9223372036854775807) :
    Calls Try.prog 6 #[.slice a n c, .int .i64 sk] w (Ret fun v w' => v = .bool true ∧ Upd No w w') := by
  have HU : Upd (fun b => False) w w := Upd.refl _ _
  have hl_hb := ilen hb
  have hc_hb := hb.cap.1
  refine calls_of_W Try.func6 rfl Try.ntmps6 (by simp) ?_
  refine W_seq ?_
  refine W_region ?_
  refine Wl_v (r_as (v := .bool false) rfl) ?_
  refine Wl_nil ?_
  refine W_seq ?_
  refine W_region ?_
  refine Wl_v (r_mv (v := .slice a n c) rfl) ?_
  refine Wl_call (r_call1 rfl Try.call24 rfl) (own_spec _ hb.any (by omega)) ?_
  rintro v w1 ⟨a1, c1, rfl, hO1, hU1⟩
  have hzw1 := hU1.size
  replace hb := hb.upd0 hU1
  replace HU := HU.trans0 hU1
  replace hO1 := hO1.tight
  have hl_hO1 := ilen hO1.sl
  have hc_hO1 := hO1.sl.cap.1
  refine Wl_call (r_call1 rfl Try.call23 rfl) (new_spec _ hO1.sl.any (by omega)) ?_
  rintro v w2 ⟨pb2, a2, c2, rfl, hp2, hO2, hpg_2, hU2⟩
  have hzw2 := hU2.size
  replace hb := hb.upd0 hU2
  replace HU := HU.trans0 hU2
  replace hO1 := hO1.upd0 hU2
  have hbl_hp2 := hp2.lt
  replace hO2 := hO2.tight
  have hl_hO2 := ilen hO2.sl
  have hc_hO2 := hO2.sl.cap.1
  refine Wl_v (r_as (v := .pointer (some ⟨pb2, 0, none⟩)) rfl) ?_
  refine Wl_nil ?_
  refine W_seq ?_
  refine W_region ?_
  refine Wl_v (r_as (v := .int .i64 0) rfl) ?_
  refine Wl_nil ?_
  refine W_seq ?_
  refine W_seq ?_
  refine W_region ?_
  refine Wl_v (r_mv (v := .int .i64 sk) rfl) ?_
  refine Wl_v (r_gt rfl rfl) ?_
  refine Wl_v (r_mv (v := .bool (decide (0 < sk))) rfl) ?_
  by_cases q1 : 0 < sk
  · rw [decide_eq_true q1]
    refine Wl_guard_t rfl ?_
    refine Wl_v (r_mv (v := .int .i64 sk) rfl) ?_
    refine Wl_guard_t rfl ?_
    refine Wl_v (r_mv (v := .slice a n c) rfl) ?_
    refine Wl_guard_t rfl ?_
    refine Wl_v (r_len Try.underlying35 rfl) ?_
    refine Wl_guard_t rfl ?_
    refine Wl_v (r_le rfl rfl) ?_
    refine Wl_v (r_pick_t (v := .bool (decide (sk ≤ ((n : Nat) : Int)))) rfl rfl) ?_
    refine Wl_nil ?_
    by_cases q2 : sk ≤ ((n : Nat) : Int)
    · rw [decide_eq_true q2]
      refine W_cond_t rfl ?_
      refine W_seq ?_
      refine W_region ?_
      refine Wl_v (r_mv (v := .pointer (some ⟨pb2, 0, none⟩)) rfl) ?_
      refine Wl_v (r_mv (v := .int .i64 sk) rfl) ?_
      refine Wl_call (r_call2 rfl Try.call25 (v1 := .int .i64 ((sk.toNat : Nat) : Int)) rfl (Eq.trans (b := .int .i64 sk) rfl (vint (by omega)))) (cbytes_k (p := 0) _ hp2 (hO2.sl.cur (by intro h1; have h3 : ((w1.heap.size ≤ pb2 ∧ pb2 ≠ pb2) ∧ pb2 < w2.heap.size) := h1; first | omega | simp at h3)) bb (by omega) (by omega) (by omega)) ?_
      rintro v w3 ⟨a3, c3, rfl, hp3, hO3, hU3⟩
      have hzw3 := hU3.size
      replace hb := hb.upd1 hU3 (by intro h1; have h3 : pb2 < w.heap.size := h1; omega)
      replace HU := HU.trans1 hU3 (by show (False) ∨ w.heap.size ≤ pb2; omega)
      replace hO1 := hO1.upd1 hU3 (by intro h1; have h3 : ((w.heap.size ≤ pb2) ∧ pb2 < w1.heap.size) := h1; omega)
      replace hO2 := hO2.upd1 hU3 (by intro h1; have h3 : ((w1.heap.size ≤ pb2 ∧ pb2 ≠ pb2) ∧ pb2 < w2.heap.size) := h1; omega)
      have hbl_hp3 := hp3.lt
      replace hO3 := hO3.tight
      have hl_hO3 := ilen hO3.sl
      have hc_hO3 := hO3.sl.cap.1
      refine Wl_nil ?_
      refine W_region ?_
      refine Wl_v (r_mv (v := .int .i64 sk) rfl) ?_
      refine Wl_v (r_as (v := .int .i64 sk) rfl) ?_
      refine Wl_nil ?_
      refine W_seq ?_
      refine W_region ?_
      refine Wl_v (r_mv (v := .pointer (some ⟨pb2, 0, none⟩)) rfl) ?_
      refine Wl_call (r_call1 rfl Try.call26 rfl) (get_spec _ hp3 (hO2.sl.cur (by intro h1; have h3 : ((w1.heap.size ≤ pb2 ∧ pb2 ≠ pb2) ∧ pb2 < w2.heap.size) := h1; first | omega | simp at h3)) bb (by omega) (by omega)) ?_
      rintro v w4 ⟨rfl, hp4, hU4⟩
      have hzw4 := hU4.size
      replace hb := hb.upd1 hU4 (by intro h1; have h3 : pb2 < w.heap.size := h1; omega)
      replace HU := HU.trans1 hU4 (by show (False) ∨ w.heap.size ≤ pb2; omega)
      replace hO1 := hO1.upd1 hU4 (by intro h1; have h3 : ((w.heap.size ≤ pb2) ∧ pb2 < w1.heap.size) := h1; omega)
      replace hO2 := hO2.upd1 hU4 (by intro h1; have h3 : ((w1.heap.size ≤ pb2 ∧ pb2 ≠ pb2) ∧ pb2 < w2.heap.size) := h1; omega)
      replace hO3 := hO3.upd1 hU4 (by intro h1; have h3 : ((w2.heap.size ≤ pb2) ∧ pb2 < w3.heap.size) := h1; omega)
      have hbl_hp4 := hp4.lt
      have hgle := ghead_le (bs := bs) (p := 0 + sk.toNat) (by omega)
      refine Wl_v (r_mv (v := .tuple #[.agg #[.int .i64 ((ghead bs (0 + sk.toNat)).1.1), .int .i64 ((ghead bs (0 + sk.toNat)).1.2.1), .int .u32 ((ghead bs (0 + sk.toNat)).1.2.2.1), .bool (decide ((ghead bs (0 + sk.toNat)).1.2.2.2 = true))], .int .i64 ((ghead bs (0 + sk.toNat)).2.2)]) rfl) ?_
      refine Wl_v (r_ext (v := .agg #[.int .i64 ((ghead bs (0 + sk.toNat)).1.1), .int .i64 ((ghead bs (0 + sk.toNat)).1.2.1), .int .u32 ((ghead bs (0 + sk.toNat)).1.2.2.1), .bool (decide ((ghead bs (0 + sk.toNat)).1.2.2.2 = true))]) rfl rfl) ?_
      refine Wl_v (r_ext (v := .int .i64 ((ghead bs (0 + sk.toNat)).2.2)) rfl rfl) ?_
      refine Wl_alloc (cs := [.int .i64 0, .int .i64 0, .int .u32 0, .bool false]) Try.zeroValue34 rfl ?_
      intro B5 w5 hB5 hU5 hzz5 hb5
      have hzw5 := hU5.size
      replace hb := hb.upd0 hU5
      replace HU := HU.trans0 hU5
      replace hO1 := hO1.upd0 hU5
      replace hO2 := hO2.upd0 hU5
      replace hO3 := hO3.upd0 hU5
      replace hp4 := hp4.upd0 hU5
      refine Wl_storea (off := 0) (vs := [.int .i64 ((ghead bs (0 + sk.toNat)).1.1), .int .i64 ((ghead bs (0 + sk.toNat)).1.2.1), .int .u32 ((ghead bs (0 + sk.toNat)).1.2.2.1), .bool (decide ((ghead bs (0 + sk.toNat)).1.2.2.2 = true))]) (cs' := [.int .i64 ((ghead bs (0 + sk.toNat)).1.1), .int .i64 ((ghead bs (0 + sk.toNat)).1.2.1), .int .u32 ((ghead bs (0 + sk.toNat)).1.2.2.1), .bool (decide ((ghead bs (0 + sk.toNat)).1.2.2.2 = true))]) Try.sizeOf34 rfl rfl rfl (by simp only [List.mem_cons, List.not_mem_nil, or_false, forall_eq_or_imp, forall_eq]; exact ⟨rfl, rfl, rfl, rfl⟩) hb5 (by simp) rfl ?_
      intro w6 hU6 hzz6 hb5n
      replace hb5 := hb5n; clear hb5n
      have hzw6 := hU6.size
      replace hb := hb.upd1 hU6 (by intro h1; have h3 : B5 < w.heap.size := h1; omega)
      replace HU := HU.trans1 hU6 (by show (False) ∨ w.heap.size ≤ B5; omega)
      replace hO1 := hO1.upd1 hU6 (by intro h1; have h3 : ((w.heap.size ≤ B5) ∧ B5 < w1.heap.size) := h1; omega)
      replace hO2 := hO2.upd1 hU6 (by intro h1; have h3 : ((w1.heap.size ≤ B5 ∧ B5 ≠ pb2) ∧ B5 < w2.heap.size) := h1; omega)
      replace hO3 := hO3.upd1 hU6 (by intro h1; have h3 : ((w2.heap.size ≤ B5) ∧ B5 < w3.heap.size) := h1; omega)
      replace hp4 := hp4.upd1 hU6 (by omega)
      refine Wl_v (r_as (v := .int .i64 ((ghead bs (0 + sk.toNat)).2.2)) rfl) ?_
      refine Wl_nil ?_
      refine W_seq ?_
      refine W_region ?_
      refine Wl_v (r_mv (v := .slice a n c) rfl) ?_
      refine Wl_v (r_mv (v := .int .i64 sk) rfl) ?_
      refine Wl_call (r_call2 rfl Try.call27 (v1 := .int .i64 ((0 + sk.toNat : Nat) : Int)) rfl (Eq.trans (b := .int .i64 sk) rfl (vint (by omega)))) (rget38 _ hb.any bb (by omega) (by omega)) ?_
      rintro v w7 ⟨rfl, hU7⟩
      have hzw7 := hU7.size
      replace hb := hb.upd0 hU7
      replace HU := HU.trans0 hU7
      replace hO1 := hO1.upd0 hU7
      replace hO2 := hO2.upd0 hU7
      replace hO3 := hO3.upd0 hU7
      replace hp4 := hp4.upd0 hU7
      replace hb5 := hb5.upd0 hU7
      refine Wl_v (r_mv (v := .tuple #[.agg #[.int .i64 ((ghead bs (0 + sk.toNat)).1.1), .int .i64 ((ghead bs (0 + sk.toNat)).1.2.1), .int .u32 ((ghead bs (0 + sk.toNat)).1.2.2.1), .bool (decide ((ghead bs (0 + sk.toNat)).1.2.2.2 = true))], .int .i64 (((ghead bs (0 + sk.toNat)).2.1 : Nat) : Int), .int .i64 ((ghead bs (0 + sk.toNat)).2.2)]) rfl) ?_
      refine Wl_v (r_ext (v := .agg #[.int .i64 ((ghead bs (0 + sk.toNat)).1.1), .int .i64 ((ghead bs (0 + sk.toNat)).1.2.1), .int .u32 ((ghead bs (0 + sk.toNat)).1.2.2.1), .bool (decide ((ghead bs (0 + sk.toNat)).1.2.2.2 = true))]) rfl rfl) ?_
      refine Wl_v (r_ext (v := .int .i64 (((ghead bs (0 + sk.toNat)).2.1 : Nat) : Int)) rfl rfl) ?_
      refine Wl_v (r_ext (v := .int .i64 ((ghead bs (0 + sk.toNat)).2.2)) rfl rfl) ?_
      refine Wl_alloc (cs := [.int .i64 0, .int .i64 0, .int .u32 0, .bool false]) Try.zeroValue34 rfl ?_
      intro B8 w8 hB8 hU8 hzz8 hb8
      have hzw8 := hU8.size
      replace hb := hb.upd0 hU8
      replace HU := HU.trans0 hU8
      replace hO1 := hO1.upd0 hU8
      replace hO2 := hO2.upd0 hU8
      replace hO3 := hO3.upd0 hU8
      replace hp4 := hp4.upd0 hU8
      replace hb5 := hb5.upd0 hU8
      refine Wl_storea (off := 0) (vs := [.int .i64 ((ghead bs (0 + sk.toNat)).1.1), .int .i64 ((ghead bs (0 + sk.toNat)).1.2.1), .int .u32 ((ghead bs (0 + sk.toNat)).1.2.2.1), .bool (decide ((ghead bs (0 + sk.toNat)).1.2.2.2 = true))]) (cs' := [.int .i64 ((ghead bs (0 + sk.toNat)).1.1), .int .i64 ((ghead bs (0 + sk.toNat)).1.2.1), .int .u32 ((ghead bs (0 + sk.toNat)).1.2.2.1), .bool (decide ((ghead bs (0 + sk.toNat)).1.2.2.2 = true))]) Try.sizeOf34 rfl rfl rfl (by simp only [List.mem_cons, List.not_mem_nil, or_false, forall_eq_or_imp, forall_eq]; exact ⟨rfl, rfl, rfl, rfl⟩) hb8 (by simp) rfl ?_
      intro w9 hU9 hzz9 hb8n
      replace hb8 := hb8n; clear hb8n
      have hzw9 := hU9.size
      replace hb := hb.upd1 hU9 (by intro h1; have h3 : B8 < w.heap.size := h1; omega)
      replace HU := HU.trans1 hU9 (by show (False) ∨ w.heap.size ≤ B8; omega)
      replace hO1 := hO1.upd1 hU9 (by intro h1; have h3 : ((w.heap.size ≤ B8) ∧ B8 < w1.heap.size) := h1; omega)
      replace hO2 := hO2.upd1 hU9 (by intro h1; have h3 : ((w1.heap.size ≤ B8 ∧ B8 ≠ pb2) ∧ B8 < w2.heap.size) := h1; omega)
      replace hO3 := hO3.upd1 hU9 (by intro h1; have h3 : ((w2.heap.size ≤ B8) ∧ B8 < w3.heap.size) := h1; omega)
      replace hp4 := hp4.upd1 hU9 (by omega)
      replace hb5 := hb5.upd1 hU9 (by omega)
      refine Wl_v (r_as (v := .int .i64 (((ghead bs (0 + sk.toNat)).2.1 : Nat) : Int)) rfl) ?_
      refine Wl_v (r_as (v := .int .i64 ((ghead bs (0 + sk.toNat)).2.2)) rfl) ?_
      refine Wl_nil ?_
      refine W_seq ?_
      refine W_region ?_
      refine Wl_v (r_mv (v := .int .i64 ((ghead bs (0 + sk.toNat)).2.2)) rfl) ?_
      refine Wl_v (r_mv (v := .int .i64 ((ghead bs (0 + sk.toNat)).2.2)) rfl) ?_
      refine Wl_v (r_eq rfl rfl) ?_
      refine Wl_v (r_mv (v := .bool (decide (((ghead bs (0 + sk.toNat)).2.2) = ((ghead bs (0 + sk.toNat)).2.2)))) rfl) ?_
      have q3 : ((ghead bs (0 + sk.toNat)).2.2) = ((ghead bs (0 + sk.toNat)).2.2) := rfl
      rw [decide_eq_true q3]
      refine Wl_guard_t rfl ?_
      refine Wl_v (r_loada (b := B5) (off := 0) (cs := [.int .i64 ((ghead bs (0 + sk.toNat)).1.1), .int .i64 ((ghead bs (0 + sk.toNat)).1.2.1), .int .u32 ((ghead bs (0 + sk.toNat)).1.2.2.1), .bool (decide ((ghead bs (0 + sk.toNat)).1.2.2.2 = true))]) Try.isAgg34 Try.sizeOf34 rfl rfl (fun j hj => by rw [hb5.cell]; match j, hj with | 0, _ => rfl | 1, _ => rfl | 2, _ => rfl | 3, _ => rfl)) ?_
      refine Wl_guard_t rfl ?_
      refine Wl_v (r_loada (b := B8) (off := 0) (cs := [.int .i64 ((ghead bs (0 + sk.toNat)).1.1), .int .i64 ((ghead bs (0 + sk.toNat)).1.2.1), .int .u32 ((ghead bs (0 + sk.toNat)).1.2.2.1), .bool (decide ((ghead bs (0 + sk.toNat)).1.2.2.2 = true))]) Try.isAgg34 Try.sizeOf34 rfl rfl (fun j hj => by rw [hb8.cell]; match j, hj with | 0, _ => rfl | 1, _ => rfl | 2, _ => rfl | 3, _ => rfl)) ?_
      refine Wl_guard_t rfl ?_
      refine Wl_v (r_eqag (pp := ((ghead bs (0 + sk.toNat)).1.1) = ((ghead bs (0 + sk.toNat)).1.1) ∧ ((ghead bs (0 + sk.toNat)).1.2.1) = ((ghead bs (0 + sk.toNat)).1.2.1) ∧ ((ghead bs (0 + sk.toNat)).1.2.2.1) = ((ghead bs (0 + sk.toNat)).1.2.2.1) ∧ (decide ((ghead bs (0 + sk.toNat)).1.2.2.2 = true)) = (decide ((ghead bs (0 + sk.toNat)).1.2.2.2 = true))) Try.underlying34 (by kernel_rfl) (by kernel_rfl) rfl rfl (fun w => eqf_int (by decide) Try.underlying3 Try.isAgg3 rfl rfl (fun w => eqf_int (by decide) Try.underlying3 Try.isAgg3 rfl rfl (fun w => eqf_int (by decide) Try.underlying32 Try.isAgg32 rfl rfl (fun w => eqf_bool (by decide) Try.underlying4 Try.isAgg4 rfl rfl (fun w => eqf_nil))))) (by simp [Bool.decide_and])) ?_
      refine Wl_v (r_pick_t (v := .bool (decide (((ghead bs (0 + sk.toNat)).1.1) = ((ghead bs (0 + sk.toNat)).1.1) ∧ ((ghead bs (0 + sk.toNat)).1.2.1) = ((ghead bs (0 + sk.toNat)).1.2.1) ∧ ((ghead bs (0 + sk.toNat)).1.2.2.1) = ((ghead bs (0 + sk.toNat)).1.2.2.1) ∧ (decide ((ghead bs (0 + sk.toNat)).1.2.2.2 = true)) = (decide ((ghead bs (0 + sk.toNat)).1.2.2.2 = true))))) rfl rfl) ?_
      refine Wl_v (r_mv (v := .bool (decide (((ghead bs (0 + sk.toNat)).1.1) = ((ghead bs (0 + sk.toNat)).1.1) ∧ ((ghead bs (0 + sk.toNat)).1.2.1) = ((ghead bs (0 + sk.toNat)).1.2.1) ∧ ((ghead bs (0 + sk.toNat)).1.2.2.1) = ((ghead bs (0 + sk.toNat)).1.2.2.1) ∧ (decide ((ghead bs (0 + sk.toNat)).1.2.2.2 = true)) = (decide ((ghead bs (0 + sk.toNat)).1.2.2.2 = true))))) rfl) ?_
      have q4 : ((ghead bs (0 + sk.toNat)).1.1) = ((ghead bs (0 + sk.toNat)).1.1) ∧ ((ghead bs (0 + sk.toNat)).1.2.1) = ((ghead bs (0 + sk.toNat)).1.2.1) ∧ ((ghead bs (0 + sk.toNat)).1.2.2.1) = ((ghead bs (0 + sk.toNat)).1.2.2.1) ∧ (decide ((ghead bs (0 + sk.toNat)).1.2.2.2 = true)) = (decide ((ghead bs (0 + sk.toNat)).1.2.2.2 = true)) := ⟨rfl, rfl, rfl, rfl⟩
      rw [decide_eq_true q4]
      refine Wl_guard_t rfl ?_
      refine Wl_v (r_mv (v := .pointer (some ⟨pb2, 0, none⟩)) rfl) ?_
      refine Wl_guard_t rfl ?_
      refine Wl_call (r_call1 rfl Try.call28 rfl) (at_spec _ hp4 (by omega) (by omega) (by omega)) ?_
      rintro v w10 ⟨rfl, hU10⟩
      have hzw10 := hU10.size
      replace hb := hb.upd0 hU10
      replace HU := HU.trans0 hU10
      replace hO1 := hO1.upd0 hU10
      replace hO2 := hO2.upd0 hU10
      replace hO3 := hO3.upd0 hU10
      replace hp4 := hp4.upd0 hU10
      replace hb5 := hb5.upd0 hU10
      replace hb8 := hb8.upd0 hU10
      refine Wl_guard_t rfl ?_
      refine Wl_v (r_mv (v := .int .i64 (((ghead bs (0 + sk.toNat)).2.1 : Nat) : Int)) rfl) ?_
      refine Wl_guard_t rfl ?_
      refine Wl_v (r_eq rfl rfl) ?_
      refine Wl_v (r_pick_t (v := .bool (decide ((((ghead bs (0 + sk.toNat)).2.1 : Nat) : Int) = (((ghead bs (0 + sk.toNat)).2.1 : Nat) : Int)))) rfl rfl) ?_
      refine Wl_v (r_mv (v := .bool (decide ((((ghead bs (0 + sk.toNat)).2.1 : Nat) : Int) = (((ghead bs (0 + sk.toNat)).2.1 : Nat) : Int)))) rfl) ?_
      have q5 : (((ghead bs (0 + sk.toNat)).2.1 : Nat) : Int) = (((ghead bs (0 + sk.toNat)).2.1 : Nat) : Int) := rfl
      rw [decide_eq_true q5]
      refine Wl_guard_t rfl ?_
      refine Wl_call (r_call0 rfl Try.call16 ) (known_spec _ ) ?_
      rintro v w11 ⟨rfl, hU11⟩
      have hzw11 := hU11.size
      replace hb := hb.upd0 hU11
      replace HU := HU.trans0 hU11
      replace hO1 := hO1.upd0 hU11
      replace hO2 := hO2.upd0 hU11
      replace hO3 := hO3.upd0 hU11
      replace hp4 := hp4.upd0 hU11
      replace hb5 := hb5.upd0 hU11
      replace hb8 := hb8.upd0 hU11
      refine Wl_v (r_pick_t (v := .bool true) rfl rfl) ?_
      refine Wl_v (r_as (v := .bool true) rfl) ?_
      refine Wl_nil ?_
      refine W_ret ?_
      refine ret_end (v := .bool true) rfl (res1 Try.results6 rfl) ?_
      exact ⟨_, rfl, rfl, HU⟩
    · rw [decide_eq_false q2]
      refine W_cond_f rfl ?_
      refine W_skip ?_
      refine W_seq ?_
      refine W_region ?_
      refine Wl_v (r_mv (v := .pointer (some ⟨pb2, 0, none⟩)) rfl) ?_
      refine Wl_call (r_call1 rfl Try.call26 rfl) (get_spec (p := 0) _ hp2 (hO2.sl.cur (by intro h1; have h3 : ((w1.heap.size ≤ pb2 ∧ pb2 ≠ pb2) ∧ pb2 < w2.heap.size) := h1; first | omega | simp at h3)) bb (by omega) (by omega)) ?_
      rintro v w12 ⟨rfl, hp12, hU12⟩
      have hzw12 := hU12.size
      replace hb := hb.upd1 hU12 (by intro h1; have h3 : pb2 < w.heap.size := h1; omega)
      replace HU := HU.trans1 hU12 (by show (False) ∨ w.heap.size ≤ pb2; omega)
      replace hO1 := hO1.upd1 hU12 (by intro h1; have h3 : ((w.heap.size ≤ pb2) ∧ pb2 < w1.heap.size) := h1; omega)
      replace hO2 := hO2.upd1 hU12 (by intro h1; have h3 : ((w1.heap.size ≤ pb2 ∧ pb2 ≠ pb2) ∧ pb2 < w2.heap.size) := h1; omega)
      have hbl_hp12 := hp12.lt
      have hgle := ghead_le (bs := bs) (p := 0) (by omega)
      refine Wl_v (r_mv (v := .tuple #[.agg #[.int .i64 ((ghead bs 0).1.1), .int .i64 ((ghead bs 0).1.2.1), .int .u32 ((ghead bs 0).1.2.2.1), .bool (decide ((ghead bs 0).1.2.2.2 = true))], .int .i64 ((ghead bs 0).2.2)]) rfl) ?_
      refine Wl_v (r_ext (v := .agg #[.int .i64 ((ghead bs 0).1.1), .int .i64 ((ghead bs 0).1.2.1), .int .u32 ((ghead bs 0).1.2.2.1), .bool (decide ((ghead bs 0).1.2.2.2 = true))]) rfl rfl) ?_
      refine Wl_v (r_ext (v := .int .i64 ((ghead bs 0).2.2)) rfl rfl) ?_
      refine Wl_alloc (cs := [.int .i64 0, .int .i64 0, .int .u32 0, .bool false]) Try.zeroValue34 rfl ?_
      intro B13 w13 hB13 hU13 hzz13 hb13
      have hzw13 := hU13.size
      replace hb := hb.upd0 hU13
      replace HU := HU.trans0 hU13
      replace hO1 := hO1.upd0 hU13
      replace hO2 := hO2.upd0 hU13
      replace hp12 := hp12.upd0 hU13
      refine Wl_storea (off := 0) (vs := [.int .i64 ((ghead bs 0).1.1), .int .i64 ((ghead bs 0).1.2.1), .int .u32 ((ghead bs 0).1.2.2.1), .bool (decide ((ghead bs 0).1.2.2.2 = true))]) (cs' := [.int .i64 ((ghead bs 0).1.1), .int .i64 ((ghead bs 0).1.2.1), .int .u32 ((ghead bs 0).1.2.2.1), .bool (decide ((ghead bs 0).1.2.2.2 = true))]) Try.sizeOf34 rfl rfl rfl (by simp only [List.mem_cons, List.not_mem_nil, or_false, forall_eq_or_imp, forall_eq]; exact ⟨rfl, rfl, rfl, rfl⟩) hb13 (by simp) rfl ?_
      intro w14 hU14 hzz14 hb13n
      replace hb13 := hb13n; clear hb13n
      have hzw14 := hU14.size
      replace hb := hb.upd1 hU14 (by intro h1; have h3 : B13 < w.heap.size := h1; omega)
      replace HU := HU.trans1 hU14 (by show (False) ∨ w.heap.size ≤ B13; omega)
      replace hO1 := hO1.upd1 hU14 (by intro h1; have h3 : ((w.heap.size ≤ B13) ∧ B13 < w1.heap.size) := h1; omega)
      replace hO2 := hO2.upd1 hU14 (by intro h1; have h3 : ((w1.heap.size ≤ B13 ∧ B13 ≠ pb2) ∧ B13 < w2.heap.size) := h1; omega)
      replace hp12 := hp12.upd1 hU14 (by omega)
      refine Wl_v (r_as (v := .int .i64 ((ghead bs 0).2.2)) rfl) ?_
      refine Wl_nil ?_
      refine W_seq ?_
      refine W_region ?_
      refine Wl_v (r_mv (v := .slice a n c) rfl) ?_
      refine Wl_v (r_mv (v := .int .i64 0) rfl) ?_
      refine Wl_call (r_call2 rfl Try.call27 rfl rfl) (rget38 (p := 0) _ hb.any bb (by omega) (by omega)) ?_
      rintro v w15 ⟨rfl, hU15⟩
      have hzw15 := hU15.size
      replace hb := hb.upd0 hU15
      replace HU := HU.trans0 hU15
      replace hO1 := hO1.upd0 hU15
      replace hO2 := hO2.upd0 hU15
      replace hp12 := hp12.upd0 hU15
      replace hb13 := hb13.upd0 hU15
      refine Wl_v (r_mv (v := .tuple #[.agg #[.int .i64 ((ghead bs 0).1.1), .int .i64 ((ghead bs 0).1.2.1), .int .u32 ((ghead bs 0).1.2.2.1), .bool (decide ((ghead bs 0).1.2.2.2 = true))], .int .i64 (((ghead bs 0).2.1 : Nat) : Int), .int .i64 ((ghead bs 0).2.2)]) rfl) ?_
      refine Wl_v (r_ext (v := .agg #[.int .i64 ((ghead bs 0).1.1), .int .i64 ((ghead bs 0).1.2.1), .int .u32 ((ghead bs 0).1.2.2.1), .bool (decide ((ghead bs 0).1.2.2.2 = true))]) rfl rfl) ?_
      refine Wl_v (r_ext (v := .int .i64 (((ghead bs 0).2.1 : Nat) : Int)) rfl rfl) ?_
      refine Wl_v (r_ext (v := .int .i64 ((ghead bs 0).2.2)) rfl rfl) ?_
      refine Wl_alloc (cs := [.int .i64 0, .int .i64 0, .int .u32 0, .bool false]) Try.zeroValue34 rfl ?_
      intro B16 w16 hB16 hU16 hzz16 hb16
      have hzw16 := hU16.size
      replace hb := hb.upd0 hU16
      replace HU := HU.trans0 hU16
      replace hO1 := hO1.upd0 hU16
      replace hO2 := hO2.upd0 hU16
      replace hp12 := hp12.upd0 hU16
      replace hb13 := hb13.upd0 hU16
      refine Wl_storea (off := 0) (vs := [.int .i64 ((ghead bs 0).1.1), .int .i64 ((ghead bs 0).1.2.1), .int .u32 ((ghead bs 0).1.2.2.1), .bool (decide ((ghead bs 0).1.2.2.2 = true))]) (cs' := [.int .i64 ((ghead bs 0).1.1), .int .i64 ((ghead bs 0).1.2.1), .int .u32 ((ghead bs 0).1.2.2.1), .bool (decide ((ghead bs 0).1.2.2.2 = true))]) Try.sizeOf34 rfl rfl rfl (by simp only [List.mem_cons, List.not_mem_nil, or_false, forall_eq_or_imp, forall_eq]; exact ⟨rfl, rfl, rfl, rfl⟩) hb16 (by simp) rfl ?_
      intro w17 hU17 hzz17 hb16n
      replace hb16 := hb16n; clear hb16n
      have hzw17 := hU17.size
      replace hb := hb.upd1 hU17 (by intro h1; have h3 : B16 < w.heap.size := h1; omega)
      replace HU := HU.trans1 hU17 (by show (False) ∨ w.heap.size ≤ B16; omega)
      replace hO1 := hO1.upd1 hU17 (by intro h1; have h3 : ((w.heap.size ≤ B16) ∧ B16 < w1.heap.size) := h1; omega)
      replace hO2 := hO2.upd1 hU17 (by intro h1; have h3 : ((w1.heap.size ≤ B16 ∧ B16 ≠ pb2) ∧ B16 < w2.heap.size) := h1; omega)
      replace hp12 := hp12.upd1 hU17 (by omega)
      replace hb13 := hb13.upd1 hU17 (by omega)
      refine Wl_v (r_as (v := .int .i64 (((ghead bs 0).2.1 : Nat) : Int)) rfl) ?_
      refine Wl_v (r_as (v := .int .i64 ((ghead bs 0).2.2)) rfl) ?_
      refine Wl_nil ?_
      refine W_seq ?_
      refine W_region ?_
      refine Wl_v (r_mv (v := .int .i64 ((ghead bs 0).2.2)) rfl) ?_
      refine Wl_v (r_mv (v := .int .i64 ((ghead bs 0).2.2)) rfl) ?_
      refine Wl_v (r_eq rfl rfl) ?_
      refine Wl_v (r_mv (v := .bool (decide (((ghead bs 0).2.2) = ((ghead bs 0).2.2)))) rfl) ?_
      have q6 : ((ghead bs 0).2.2) = ((ghead bs 0).2.2) := rfl
      rw [decide_eq_true q6]
      refine Wl_guard_t rfl ?_
      refine Wl_v (r_loada (b := B13) (off := 0) (cs := [.int .i64 ((ghead bs 0).1.1), .int .i64 ((ghead bs 0).1.2.1), .int .u32 ((ghead bs 0).1.2.2.1), .bool (decide ((ghead bs 0).1.2.2.2 = true))]) Try.isAgg34 Try.sizeOf34 rfl rfl (fun j hj => by rw [hb13.cell]; match j, hj with | 0, _ => rfl | 1, _ => rfl | 2, _ => rfl | 3, _ => rfl)) ?_
      refine Wl_guard_t rfl ?_
      refine Wl_v (r_loada (b := B16) (off := 0) (cs := [.int .i64 ((ghead bs 0).1.1), .int .i64 ((ghead bs 0).1.2.1), .int .u32 ((ghead bs 0).1.2.2.1), .bool (decide ((ghead bs 0).1.2.2.2 = true))]) Try.isAgg34 Try.sizeOf34 rfl rfl (fun j hj => by rw [hb16.cell]; match j, hj with | 0, _ => rfl | 1, _ => rfl | 2, _ => rfl | 3, _ => rfl)) ?_
      refine Wl_guard_t rfl ?_
      refine Wl_v (r_eqag (pp := ((ghead bs 0).1.1) = ((ghead bs 0).1.1) ∧ ((ghead bs 0).1.2.1) = ((ghead bs 0).1.2.1) ∧ ((ghead bs 0).1.2.2.1) = ((ghead bs 0).1.2.2.1) ∧ (decide ((ghead bs 0).1.2.2.2 = true)) = (decide ((ghead bs 0).1.2.2.2 = true))) Try.underlying34 (by kernel_rfl) (by kernel_rfl) rfl rfl (fun w => eqf_int (by decide) Try.underlying3 Try.isAgg3 rfl rfl (fun w => eqf_int (by decide) Try.underlying3 Try.isAgg3 rfl rfl (fun w => eqf_int (by decide) Try.underlying32 Try.isAgg32 rfl rfl (fun w => eqf_bool (by decide) Try.underlying4 Try.isAgg4 rfl rfl (fun w => eqf_nil))))) (by simp [Bool.decide_and])) ?_
      refine Wl_v (r_pick_t (v := .bool (decide (((ghead bs 0).1.1) = ((ghead bs 0).1.1) ∧ ((ghead bs 0).1.2.1) = ((ghead bs 0).1.2.1) ∧ ((ghead bs 0).1.2.2.1) = ((ghead bs 0).1.2.2.1) ∧ (decide ((ghead bs 0).1.2.2.2 = true)) = (decide ((ghead bs 0).1.2.2.2 = true))))) rfl rfl) ?_
      refine Wl_v (r_mv (v := .bool (decide (((ghead bs 0).1.1) = ((ghead bs 0).1.1) ∧ ((ghead bs 0).1.2.1) = ((ghead bs 0).1.2.1) ∧ ((ghead bs 0).1.2.2.1) = ((ghead bs 0).1.2.2.1) ∧ (decide ((ghead bs 0).1.2.2.2 = true)) = (decide ((ghead bs 0).1.2.2.2 = true))))) rfl) ?_
      have q7 : ((ghead bs 0).1.1) = ((ghead bs 0).1.1) ∧ ((ghead bs 0).1.2.1) = ((ghead bs 0).1.2.1) ∧ ((ghead bs 0).1.2.2.1) = ((ghead bs 0).1.2.2.1) ∧ (decide ((ghead bs 0).1.2.2.2 = true)) = (decide ((ghead bs 0).1.2.2.2 = true)) := ⟨rfl, rfl, rfl, rfl⟩
      rw [decide_eq_true q7]
      refine Wl_guard_t rfl ?_
      refine Wl_v (r_mv (v := .pointer (some ⟨pb2, 0, none⟩)) rfl) ?_
      refine Wl_guard_t rfl ?_
      refine Wl_call (r_call1 rfl Try.call28 rfl) (at_spec _ hp12 (by omega) (by omega) (by omega)) ?_
      rintro v w18 ⟨rfl, hU18⟩
      have hzw18 := hU18.size
      replace hb := hb.upd0 hU18
      replace HU := HU.trans0 hU18
      replace hO1 := hO1.upd0 hU18
      replace hO2 := hO2.upd0 hU18
      replace hp12 := hp12.upd0 hU18
      replace hb13 := hb13.upd0 hU18
      replace hb16 := hb16.upd0 hU18
      refine Wl_guard_t rfl ?_
      refine Wl_v (r_mv (v := .int .i64 (((ghead bs 0).2.1 : Nat) : Int)) rfl) ?_
      refine Wl_guard_t rfl ?_
      refine Wl_v (r_eq rfl rfl) ?_
      refine Wl_v (r_pick_t (v := .bool (decide ((((ghead bs 0).2.1 : Nat) : Int) = (((ghead bs 0).2.1 : Nat) : Int)))) rfl rfl) ?_
      refine Wl_v (r_mv (v := .bool (decide ((((ghead bs 0).2.1 : Nat) : Int) = (((ghead bs 0).2.1 : Nat) : Int)))) rfl) ?_
      have q8 : (((ghead bs 0).2.1 : Nat) : Int) = (((ghead bs 0).2.1 : Nat) : Int) := rfl
      rw [decide_eq_true q8]
      refine Wl_guard_t rfl ?_
      refine Wl_call (r_call0 rfl Try.call16 ) (known_spec _ ) ?_
      rintro v w19 ⟨rfl, hU19⟩
      have hzw19 := hU19.size
      replace hb := hb.upd0 hU19
      replace HU := HU.trans0 hU19
      replace hO1 := hO1.upd0 hU19
      replace hO2 := hO2.upd0 hU19
      replace hp12 := hp12.upd0 hU19
      replace hb13 := hb13.upd0 hU19
      replace hb16 := hb16.upd0 hU19
      refine Wl_v (r_pick_t (v := .bool true) rfl rfl) ?_
      refine Wl_v (r_as (v := .bool true) rfl) ?_
      refine Wl_nil ?_
      refine W_ret ?_
      refine ret_end (v := .bool true) rfl (res1 Try.results6 rfl) ?_
      exact ⟨_, rfl, rfl, HU⟩
  · rw [decide_eq_false q1]
    refine Wl_guard_f rfl ?_
    refine Wl_guard_f rfl ?_
    refine Wl_guard_f rfl ?_
    refine Wl_guard_f rfl ?_
    refine Wl_v (r_pick_f (v := .bool false) rfl rfl) ?_
    refine Wl_nil ?_
    refine W_cond_f rfl ?_
    refine W_skip ?_
    refine W_seq ?_
    refine W_region ?_
    refine Wl_v (r_mv (v := .pointer (some ⟨pb2, 0, none⟩)) rfl) ?_
    refine Wl_call (r_call1 rfl Try.call26 rfl) (get_spec (p := 0) _ hp2 (hO2.sl.cur (by intro h1; have h3 : ((w1.heap.size ≤ pb2 ∧ pb2 ≠ pb2) ∧ pb2 < w2.heap.size) := h1; first | omega | simp at h3)) bb (by omega) (by omega)) ?_
    rintro v w20 ⟨rfl, hp20, hU20⟩
    have hzw20 := hU20.size
    replace hb := hb.upd1 hU20 (by intro h1; have h3 : pb2 < w.heap.size := h1; omega)
    replace HU := HU.trans1 hU20 (by show (False) ∨ w.heap.size ≤ pb2; omega)
    replace hO1 := hO1.upd1 hU20 (by intro h1; have h3 : ((w.heap.size ≤ pb2) ∧ pb2 < w1.heap.size) := h1; omega)
    replace hO2 := hO2.upd1 hU20 (by intro h1; have h3 : ((w1.heap.size ≤ pb2 ∧ pb2 ≠ pb2) ∧ pb2 < w2.heap.size) := h1; omega)
    have hbl_hp20 := hp20.lt
    have hgle := ghead_le (bs := bs) (p := 0) (by omega)
    refine Wl_v (r_mv (v := .tuple #[.agg #[.int .i64 ((ghead bs 0).1.1), .int .i64 ((ghead bs 0).1.2.1), .int .u32 ((ghead bs 0).1.2.2.1), .bool (decide ((ghead bs 0).1.2.2.2 = true))], .int .i64 ((ghead bs 0).2.2)]) rfl) ?_
    refine Wl_v (r_ext (v := .agg #[.int .i64 ((ghead bs 0).1.1), .int .i64 ((ghead bs 0).1.2.1), .int .u32 ((ghead bs 0).1.2.2.1), .bool (decide ((ghead bs 0).1.2.2.2 = true))]) rfl rfl) ?_
    refine Wl_v (r_ext (v := .int .i64 ((ghead bs 0).2.2)) rfl rfl) ?_
    refine Wl_alloc (cs := [.int .i64 0, .int .i64 0, .int .u32 0, .bool false]) Try.zeroValue34 rfl ?_
    intro B21 w21 hB21 hU21 hzz21 hb21
    have hzw21 := hU21.size
    replace hb := hb.upd0 hU21
    replace HU := HU.trans0 hU21
    replace hO1 := hO1.upd0 hU21
    replace hO2 := hO2.upd0 hU21
    replace hp20 := hp20.upd0 hU21
    refine Wl_storea (off := 0) (vs := [.int .i64 ((ghead bs 0).1.1), .int .i64 ((ghead bs 0).1.2.1), .int .u32 ((ghead bs 0).1.2.2.1), .bool (decide ((ghead bs 0).1.2.2.2 = true))]) (cs' := [.int .i64 ((ghead bs 0).1.1), .int .i64 ((ghead bs 0).1.2.1), .int .u32 ((ghead bs 0).1.2.2.1), .bool (decide ((ghead bs 0).1.2.2.2 = true))]) Try.sizeOf34 rfl rfl rfl (by simp only [List.mem_cons, List.not_mem_nil, or_false, forall_eq_or_imp, forall_eq]; exact ⟨rfl, rfl, rfl, rfl⟩) hb21 (by simp) rfl ?_
    intro w22 hU22 hzz22 hb21n
    replace hb21 := hb21n; clear hb21n
    have hzw22 := hU22.size
    replace hb := hb.upd1 hU22 (by intro h1; have h3 : B21 < w.heap.size := h1; omega)
    replace HU := HU.trans1 hU22 (by show (False) ∨ w.heap.size ≤ B21; omega)
    replace hO1 := hO1.upd1 hU22 (by intro h1; have h3 : ((w.heap.size ≤ B21) ∧ B21 < w1.heap.size) := h1; omega)
    replace hO2 := hO2.upd1 hU22 (by intro h1; have h3 : ((w1.heap.size ≤ B21 ∧ B21 ≠ pb2) ∧ B21 < w2.heap.size) := h1; omega)
    replace hp20 := hp20.upd1 hU22 (by omega)
    refine Wl_v (r_as (v := .int .i64 ((ghead bs 0).2.2)) rfl) ?_
    refine Wl_nil ?_
    refine W_seq ?_
    refine W_region ?_
    refine Wl_v (r_mv (v := .slice a n c) rfl) ?_
    refine Wl_v (r_mv (v := .int .i64 0) rfl) ?_
    refine Wl_call (r_call2 rfl Try.call27 rfl rfl) (rget38 (p := 0) _ hb.any bb (by omega) (by omega)) ?_
    rintro v w23 ⟨rfl, hU23⟩
    have hzw23 := hU23.size
    replace hb := hb.upd0 hU23
    replace HU := HU.trans0 hU23
    replace hO1 := hO1.upd0 hU23
    replace hO2 := hO2.upd0 hU23
    replace hp20 := hp20.upd0 hU23
    replace hb21 := hb21.upd0 hU23
    refine Wl_v (r_mv (v := .tuple #[.agg #[.int .i64 ((ghead bs 0).1.1), .int .i64 ((ghead bs 0).1.2.1), .int .u32 ((ghead bs 0).1.2.2.1), .bool (decide ((ghead bs 0).1.2.2.2 = true))], .int .i64 (((ghead bs 0).2.1 : Nat) : Int), .int .i64 ((ghead bs 0).2.2)]) rfl) ?_
    refine Wl_v (r_ext (v := .agg #[.int .i64 ((ghead bs 0).1.1), .int .i64 ((ghead bs 0).1.2.1), .int .u32 ((ghead bs 0).1.2.2.1), .bool (decide ((ghead bs 0).1.2.2.2 = true))]) rfl rfl) ?_
    refine Wl_v (r_ext (v := .int .i64 (((ghead bs 0).2.1 : Nat) : Int)) rfl rfl) ?_
    refine Wl_v (r_ext (v := .int .i64 ((ghead bs 0).2.2)) rfl rfl) ?_
    refine Wl_alloc (cs := [.int .i64 0, .int .i64 0, .int .u32 0, .bool false]) Try.zeroValue34 rfl ?_
    intro B24 w24 hB24 hU24 hzz24 hb24
    have hzw24 := hU24.size
    replace hb := hb.upd0 hU24
    replace HU := HU.trans0 hU24
    replace hO1 := hO1.upd0 hU24
    replace hO2 := hO2.upd0 hU24
    replace hp20 := hp20.upd0 hU24
    replace hb21 := hb21.upd0 hU24
    refine Wl_storea (off := 0) (vs := [.int .i64 ((ghead bs 0).1.1), .int .i64 ((ghead bs 0).1.2.1), .int .u32 ((ghead bs 0).1.2.2.1), .bool (decide ((ghead bs 0).1.2.2.2 = true))]) (cs' := [.int .i64 ((ghead bs 0).1.1), .int .i64 ((ghead bs 0).1.2.1), .int .u32 ((ghead bs 0).1.2.2.1), .bool (decide ((ghead bs 0).1.2.2.2 = true))]) Try.sizeOf34 rfl rfl rfl (by simp only [List.mem_cons, List.not_mem_nil, or_false, forall_eq_or_imp, forall_eq]; exact ⟨rfl, rfl, rfl, rfl⟩) hb24 (by simp) rfl ?_
    intro w25 hU25 hzz25 hb24n
    replace hb24 := hb24n; clear hb24n
    have hzw25 := hU25.size
    replace hb := hb.upd1 hU25 (by intro h1; have h3 : B24 < w.heap.size := h1; omega)
    replace HU := HU.trans1 hU25 (by show (False) ∨ w.heap.size ≤ B24; omega)
    replace hO1 := hO1.upd1 hU25 (by intro h1; have h3 : ((w.heap.size ≤ B24) ∧ B24 < w1.heap.size) := h1; omega)
    replace hO2 := hO2.upd1 hU25 (by intro h1; have h3 : ((w1.heap.size ≤ B24 ∧ B24 ≠ pb2) ∧ B24 < w2.heap.size) := h1; omega)
    replace hp20 := hp20.upd1 hU25 (by omega)
    replace hb21 := hb21.upd1 hU25 (by omega)
    refine Wl_v (r_as (v := .int .i64 (((ghead bs 0).2.1 : Nat) : Int)) rfl) ?_
    refine Wl_v (r_as (v := .int .i64 ((ghead bs 0).2.2)) rfl) ?_
    refine Wl_nil ?_
    refine W_seq ?_
    refine W_region ?_
    refine Wl_v (r_mv (v := .int .i64 ((ghead bs 0).2.2)) rfl) ?_
    refine Wl_v (r_mv (v := .int .i64 ((ghead bs 0).2.2)) rfl) ?_
    refine Wl_v (r_eq rfl rfl) ?_
    refine Wl_v (r_mv (v := .bool (decide (((ghead bs 0).2.2) = ((ghead bs 0).2.2)))) rfl) ?_
    have q9 : ((ghead bs 0).2.2) = ((ghead bs 0).2.2) := rfl
    rw [decide_eq_true q9]
    refine Wl_guard_t rfl ?_
    refine Wl_v (r_loada (b := B21) (off := 0) (cs := [.int .i64 ((ghead bs 0).1.1), .int .i64 ((ghead bs 0).1.2.1), .int .u32 ((ghead bs 0).1.2.2.1), .bool (decide ((ghead bs 0).1.2.2.2 = true))]) Try.isAgg34 Try.sizeOf34 rfl rfl (fun j hj => by rw [hb21.cell]; match j, hj with | 0, _ => rfl | 1, _ => rfl | 2, _ => rfl | 3, _ => rfl)) ?_
    refine Wl_guard_t rfl ?_
    refine Wl_v (r_loada (b := B24) (off := 0) (cs := [.int .i64 ((ghead bs 0).1.1), .int .i64 ((ghead bs 0).1.2.1), .int .u32 ((ghead bs 0).1.2.2.1), .bool (decide ((ghead bs 0).1.2.2.2 = true))]) Try.isAgg34 Try.sizeOf34 rfl rfl (fun j hj => by rw [hb24.cell]; match j, hj with | 0, _ => rfl | 1, _ => rfl | 2, _ => rfl | 3, _ => rfl)) ?_
    refine Wl_guard_t rfl ?_
    refine Wl_v (r_eqag (pp := ((ghead bs 0).1.1) = ((ghead bs 0).1.1) ∧ ((ghead bs 0).1.2.1) = ((ghead bs 0).1.2.1) ∧ ((ghead bs 0).1.2.2.1) = ((ghead bs 0).1.2.2.1) ∧ (decide ((ghead bs 0).1.2.2.2 = true)) = (decide ((ghead bs 0).1.2.2.2 = true))) Try.underlying34 (by kernel_rfl) (by kernel_rfl) rfl rfl (fun w => eqf_int (by decide) Try.underlying3 Try.isAgg3 rfl rfl (fun w => eqf_int (by decide) Try.underlying3 Try.isAgg3 rfl rfl (fun w => eqf_int (by decide) Try.underlying32 Try.isAgg32 rfl rfl (fun w => eqf_bool (by decide) Try.underlying4 Try.isAgg4 rfl rfl (fun w => eqf_nil))))) (by simp [Bool.decide_and])) ?_
    refine Wl_v (r_pick_t (v := .bool (decide (((ghead bs 0).1.1) = ((ghead bs 0).1.1) ∧ ((ghead bs 0).1.2.1) = ((ghead bs 0).1.2.1) ∧ ((ghead bs 0).1.2.2.1) = ((ghead bs 0).1.2.2.1) ∧ (decide ((ghead bs 0).1.2.2.2 = true)) = (decide ((ghead bs 0).1.2.2.2 = true))))) rfl rfl) ?_
    refine Wl_v (r_mv (v := .bool (decide (((ghead bs 0).1.1) = ((ghead bs 0).1.1) ∧ ((ghead bs 0).1.2.1) = ((ghead bs 0).1.2.1) ∧ ((ghead bs 0).1.2.2.1) = ((ghead bs 0).1.2.2.1) ∧ (decide ((ghead bs 0).1.2.2.2 = true)) = (decide ((ghead bs 0).1.2.2.2 = true))))) rfl) ?_
    have q10 : ((ghead bs 0).1.1) = ((ghead bs 0).1.1) ∧ ((ghead bs 0).1.2.1) = ((ghead bs 0).1.2.1) ∧ ((ghead bs 0).1.2.2.1) = ((ghead bs 0).1.2.2.1) ∧ (decide ((ghead bs 0).1.2.2.2 = true)) = (decide ((ghead bs 0).1.2.2.2 = true)) := ⟨rfl, rfl, rfl, rfl⟩
    rw [decide_eq_true q10]
    refine Wl_guard_t rfl ?_
    refine Wl_v (r_mv (v := .pointer (some ⟨pb2, 0, none⟩)) rfl) ?_
    refine Wl_guard_t rfl ?_
    refine Wl_call (r_call1 rfl Try.call28 rfl) (at_spec _ hp20 (by omega) (by omega) (by omega)) ?_
    rintro v w26 ⟨rfl, hU26⟩
    have hzw26 := hU26.size
    replace hb := hb.upd0 hU26
    replace HU := HU.trans0 hU26
    replace hO1 := hO1.upd0 hU26
    replace hO2 := hO2.upd0 hU26
    replace hp20 := hp20.upd0 hU26
    replace hb21 := hb21.upd0 hU26
    replace hb24 := hb24.upd0 hU26
    refine Wl_guard_t rfl ?_
    refine Wl_v (r_mv (v := .int .i64 (((ghead bs 0).2.1 : Nat) : Int)) rfl) ?_
    refine Wl_guard_t rfl ?_
    refine Wl_v (r_eq rfl rfl) ?_
    refine Wl_v (r_pick_t (v := .bool (decide ((((ghead bs 0).2.1 : Nat) : Int) = (((ghead bs 0).2.1 : Nat) : Int)))) rfl rfl) ?_
    refine Wl_v (r_mv (v := .bool (decide ((((ghead bs 0).2.1 : Nat) : Int) = (((ghead bs 0).2.1 : Nat) : Int)))) rfl) ?_
    have q11 : (((ghead bs 0).2.1 : Nat) : Int) = (((ghead bs 0).2.1 : Nat) : Int) := rfl
    rw [decide_eq_true q11]
    refine Wl_guard_t rfl ?_
    refine Wl_call (r_call0 rfl Try.call16 ) (known_spec _ ) ?_
    rintro v w27 ⟨rfl, hU27⟩
    have hzw27 := hU27.size
    replace hb := hb.upd0 hU27
    replace HU := HU.trans0 hU27
    replace hO1 := hO1.upd0 hU27
    replace hO2 := hO2.upd0 hU27
    replace hp20 := hp20.upd0 hU27
    replace hb21 := hb21.upd0 hU27
    replace hb24 := hb24.upd0 hU27
    refine Wl_v (r_pick_t (v := .bool true) rfl rfl) ?_
    refine Wl_v (r_as (v := .bool true) rfl) ?_
    refine Wl_nil ?_
    refine W_ret ?_
    refine ret_end (v := .bool true) rfl (res1 Try.results6 rfl) ?_
    exact ⟨_, rfl, rfl, HU⟩

set_option maxRecDepth 100000 in
theorem headkinds {a : Option Addr} {n c : Nat} {bs : List Int} (w : World) (hb : Sl w (fun g => g < w.heap.size) 1 (.slice a n c) n (ints .u8 bs)) (bb : Byt bs) (nb : n ≤ 140737488351232) :
    Calls Try.prog 9 #[.slice a n c] w (Ret fun v w' => v = .bool true ∧ Upd No w w') := by
  have HU : Upd (fun b => False) w w := Upd.refl _ _
  have hl_hb := ilen hb
  have hc_hb := hb.cap.1
  refine calls_of_W Try.func9 rfl Try.ntmps9 (by simp) ?_
  refine W_seq ?_
  refine W_region ?_
  refine Wl_v (r_as (v := .bool false) rfl) ?_
  refine Wl_nil ?_
  refine W_seq ?_
  refine W_region ?_
  refine Wl_v (r_mv (v := .slice a n c) rfl) ?_
  refine Wl_call (r_call1 rfl Try.call24 rfl) (own_spec _ hb.any (by omega)) ?_
  rintro v w1 ⟨a1, c1, rfl, hO1, hU1⟩
  have hzw1 := hU1.size
  replace hb := hb.upd0 hU1
  replace HU := HU.trans0 hU1
  replace hO1 := hO1.tight
  have hl_hO1 := ilen hO1.sl
  have hc_hO1 := hO1.sl.cap.1
  refine Wl_call (r_call1 rfl Try.call23 rfl) (new_spec _ hO1.sl.any (by omega)) ?_
  rintro v w2 ⟨pb2, a2, c2, rfl, hp2, hO2, hpg_2, hU2⟩
  have hzw2 := hU2.size
  replace hb := hb.upd0 hU2
  replace HU := HU.trans0 hU2
  replace hO1 := hO1.upd0 hU2
  have hbl_hp2 := hp2.lt
  replace hO2 := hO2.tight
  have hl_hO2 := ilen hO2.sl
  have hc_hO2 := hO2.sl.cap.1
  refine Wl_v (r_as (v := .pointer (some ⟨pb2, 0, none⟩)) rfl) ?_
  refine Wl_nil ?_
  refine W_seq ?_
  refine W_region ?_
  refine Wl_v (r_mv (v := .pointer (some ⟨pb2, 0, none⟩)) rfl) ?_
  refine Wl_call (r_call1 rfl Try.call29 rfl) (isf_spec (p := 0) _ hp2 (hO2.sl.cur (by intro h1; have h3 : ((w1.heap.size ≤ pb2 ∧ pb2 ≠ pb2) ∧ pb2 < w2.heap.size) := h1; first | omega | simp at h3)) bb (by omega) (by omega)) ?_
  rintro v w3 ⟨rfl, hU3⟩
  have hzw3 := hU3.size
  replace hb := hb.upd0 hU3
  replace HU := HU.trans0 hU3
  replace hO1 := hO1.upd0 hU3
  replace hp2 := hp2.upd0 hU3
  replace hO2 := hO2.upd0 hU3
  refine Wl_v (r_mv (v := .tuple #[.bool (decide ((hmk bs 0).1 = 1)), .int .i64 ((hmk bs 0).2)]) rfl) ?_
  refine Wl_v (r_ext (v := .bool (decide ((hmk bs 0).1 = 1))) rfl rfl) ?_
  refine Wl_v (r_ext (v := .int .i64 ((hmk bs 0).2)) rfl rfl) ?_
  refine Wl_v (r_as (v := .bool (decide ((hmk bs 0).1 = 1))) rfl) ?_
  refine Wl_v (r_as (v := .int .i64 ((hmk bs 0).2)) rfl) ?_
  refine Wl_nil ?_
  refine W_seq ?_
  refine W_region ?_
  refine Wl_v (r_mv (v := .slice a n c) rfl) ?_
  refine Wl_call (r_call2 rfl Try.call30 rfl rfl) (rmark (p := 0) _ hb.any bb (by omega) (by omega)) ?_
  rintro v w4 ⟨rfl, hU4⟩
  have hzw4 := hU4.size
  replace hb := hb.upd0 hU4
  replace HU := HU.trans0 hU4
  replace hO1 := hO1.upd0 hU4
  replace hp2 := hp2.upd0 hU4
  replace hO2 := hO2.upd0 hU4
  refine Wl_v (r_mv (v := .tuple #[.int .i64 ((hmk bs 0).1), .int .i64 ((hmk bs 0).2)]) rfl) ?_
  refine Wl_v (r_ext (v := .int .i64 ((hmk bs 0).1)) rfl rfl) ?_
  refine Wl_v (r_ext (v := .int .i64 ((hmk bs 0).2)) rfl rfl) ?_
  refine Wl_v (r_as (v := .int .i64 ((hmk bs 0).1)) rfl) ?_
  refine Wl_v (r_as (v := .int .i64 ((hmk bs 0).2)) rfl) ?_
  refine Wl_nil ?_
  refine W_seq ?_
  refine W_region ?_
  refine Wl_v (r_mv (v := .int .i64 ((hmk bs 0).2)) rfl) ?_
  refine Wl_v (r_mv (v := .int .i64 ((hmk bs 0).2)) rfl) ?_
  refine Wl_v (r_eq rfl rfl) ?_
  refine Wl_v (r_mv (v := .bool (decide (((hmk bs 0).2) = ((hmk bs 0).2)))) rfl) ?_
  have q1 : ((hmk bs 0).2) = ((hmk bs 0).2) := rfl
  rw [decide_eq_true q1]
  refine Wl_guard_t rfl ?_
  refine Wl_v (r_mv (v := .bool (decide ((hmk bs 0).1 = 1))) rfl) ?_
  refine Wl_guard_t rfl ?_
  refine Wl_v (r_mv (v := .int .i64 ((hmk bs 0).1)) rfl) ?_
  refine Wl_guard_t rfl ?_
  refine Wl_v (r_eq rfl rfl) ?_
  refine Wl_guard_t rfl ?_
  by_cases q2 : (hmk bs 0).1 = 1
  · rw [decide_eq_true q2]
    refine Wl_v (v := .bool true) (r_eqb (a := true) (b := true) Try.underlying4 rfl rfl) ?_
    refine Wl_v (r_pick_t (v := .bool true) rfl rfl) ?_
    refine Wl_v (r_mv (v := .bool true) rfl) ?_
    refine Wl_guard_t rfl ?_
    refine Wl_v (r_mv (v := .pointer (some ⟨pb2, 0, none⟩)) rfl) ?_
    refine Wl_guard_t rfl ?_
    refine Wl_call (r_call1 rfl Try.call28 rfl) (at_spec _ hp2 (by omega) (by omega) (by omega)) ?_
    rintro v w5 ⟨rfl, hU5⟩
    have hzw5 := hU5.size
    replace hb := hb.upd0 hU5
    replace HU := HU.trans0 hU5
    replace hO1 := hO1.upd0 hU5
    replace hp2 := hp2.upd0 hU5
    replace hO2 := hO2.upd0 hU5
    refine Wl_guard_t rfl ?_
    refine Wl_v (v := .bool true) (r_eq (a := 0) (b := 0) rfl rfl) ?_
    refine Wl_v (r_pick_t (v := .bool true) rfl rfl) ?_
    refine Wl_v (r_mv (v := .bool true) rfl) ?_
    refine Wl_guard_t rfl ?_
    refine Wl_call (r_call0 rfl Try.call16 ) (known_spec _ ) ?_
    rintro v w6 ⟨rfl, hU6⟩
    have hzw6 := hU6.size
    replace hb := hb.upd0 hU6
    replace HU := HU.trans0 hU6
    replace hO1 := hO1.upd0 hU6
    replace hp2 := hp2.upd0 hU6
    replace hO2 := hO2.upd0 hU6
    refine Wl_v (r_pick_t (v := .bool true) rfl rfl) ?_
    refine Wl_v (r_as (v := .bool true) rfl) ?_
    refine Wl_nil ?_
    refine W_ret ?_
    refine ret_end (v := .bool true) rfl (res1 Try.results9 rfl) ?_
    exact ⟨_, rfl, rfl, HU⟩
  · rw [decide_eq_false q2]
    refine Wl_v (v := .bool true) (r_eqb (a := false) (b := false) Try.underlying4 rfl rfl) ?_
    refine Wl_v (r_pick_t (v := .bool true) rfl rfl) ?_
    refine Wl_v (r_mv (v := .bool true) rfl) ?_
    refine Wl_guard_t rfl ?_
    refine Wl_v (r_mv (v := .pointer (some ⟨pb2, 0, none⟩)) rfl) ?_
    refine Wl_guard_t rfl ?_
    refine Wl_call (r_call1 rfl Try.call28 rfl) (at_spec _ hp2 (by omega) (by omega) (by omega)) ?_
    rintro v w7 ⟨rfl, hU7⟩
    have hzw7 := hU7.size
    replace hb := hb.upd0 hU7
    replace HU := HU.trans0 hU7
    replace hO1 := hO1.upd0 hU7
    replace hp2 := hp2.upd0 hU7
    replace hO2 := hO2.upd0 hU7
    refine Wl_guard_t rfl ?_
    refine Wl_v (v := .bool true) (r_eq (a := 0) (b := 0) rfl rfl) ?_
    refine Wl_v (r_pick_t (v := .bool true) rfl rfl) ?_
    refine Wl_v (r_mv (v := .bool true) rfl) ?_
    refine Wl_guard_t rfl ?_
    refine Wl_call (r_call0 rfl Try.call16 ) (known_spec _ ) ?_
    rintro v w8 ⟨rfl, hU8⟩
    have hzw8 := hU8.size
    replace hb := hb.upd0 hU8
    replace HU := HU.trans0 hU8
    replace hO1 := hO1.upd0 hU8
    replace hp2 := hp2.upd0 hU8
    replace hO2 := hO2.upd0 hU8
    refine Wl_v (r_pick_t (v := .bool true) rfl rfl) ?_
    refine Wl_v (r_as (v := .bool true) rfl) ?_
    refine Wl_nil ?_
    refine W_ret ?_
    refine ret_end (v := .bool true) rfl (res1 Try.results9 rfl) ?_
    exact ⟨_, rfl, rfl, HU⟩

end Go.Proofs.Ytflmjdnhjbiobaa
