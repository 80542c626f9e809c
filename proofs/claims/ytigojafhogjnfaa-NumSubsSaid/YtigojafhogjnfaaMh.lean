/-
  Walks, printed by a small program of this project (gen.py).
-/
import Derived.Test.YtigojafhogjnfaaWk
set_option linter.unusedVariables false
namespace Go.Proofs.Ytigojafhogjnfaa
open Go.Fw

def encCall (x : Int × Int) : List Value := [.int .i64 x.1, .int .i64 x.2]
theorem encCall_len (x : Int × Int) : (encCall x).length = 2 := rfl
def Cok (l : List (Int × Int)) : Prop := ∀ x ∈ l, (-9223372036854775808 ≤ x.1 ∧ x.1 ≤ 9223372036854775807) ∧ (-9223372036854775808 ≤ x.2 ∧ x.2 ≤ 9223372036854775807)
theorem Cok.at {l : List (Int × Int)} (h : Cok l) (i : Nat) : -9223372036854775808 ≤ (l.getD i (0, 0)).2 ∧ (l.getD i (0, 0)).2 ≤ 9223372036854775807 := by
  rcases Nat.lt_or_ge i l.length with h1 | h1
  · rw [List.getD_eq_getElem?_getD, List.getElem?_eq_getElem h1]; exact (h _ (List.getElem_mem _)).2
  · rw [List.getD_eq_getElem?_getD, List.getElem?_eq_none h1]; simp

set_option maxHeartbeats 4000000 in
set_option maxRecDepth 100000 in
theorem numsubs {a aq : Option Addr} {n c m cq : Nat} {bs : List Int} {sk nn : Int} {cl : List (Int × Int)} (w : World) (hb : Sl w (fun g => g < w.heap.size) 1 (.slice a n c) n (ints .u8 bs)) (bb : Byt bs) (nb : n ≤ 140737488351232) (rsk : -9223372036854775808 ≤ sk ∧ sk ≤ 9223372036854775807) (rnn : -9223372036854775808 ≤ nn ∧ nn ≤ 9223372036854775807) (hq : Sl w (fun g => g < w.heap.size) 2 (.slice aq m cq) m (rows encCall cl)) (hcl : Cok cl) :
    Calls Try.prog 11 #[.slice a n c, .int .i64 sk, .int .i64 nn, .slice aq m cq] w (Ret fun v w' => v = .bool true ∧ Upd No w w') := by
  have HU : Upd (fun b => False) w w := Upd.refl _ _
  have hl_hb := ilen hb
  have hc_hb := hb.cap.1
  have hl_hq := rlen encCall_len (by decide) hq
  have hc_hq := hq.cap.1
  refine calls_of_W Try.func11 rfl Try.ntmps11 (by simp) ?_
  refine W_seq ?_
  refine W_region ?_
  refine Wl_v (r_as (v := .bool false) rfl) ?_
  refine Wl_nil ?_
  refine W_seq ?_
  refine W_seq ?_
  refine W_region ?_
  refine Wl_v (r_mv (v := .slice aq m cq) rfl) ?_
  refine Wl_v (r_len Try.underlying52 rfl) ?_
  refine Wl_v (r_gt rfl rfl) ?_
  refine Wl_nil ?_
  by_cases q1 : 200 < ((m : Nat) : Int)
  · rw [decide_eq_true q1]
    refine W_cond_t rfl ?_
    refine W_seq ?_
    refine W_region ?_
    refine Wl_call (r_call0 rfl Try.call19 ) (known_spec _ ) ?_
    rintro v w1 ⟨rfl, hU1⟩
    have hzw1 := hU1.size
    replace hb := hb.upd0 hU1
    replace hq := hq.upd0 hU1
    replace HU := HU.trans0 hU1
    refine Wl_v (r_as (v := .bool true) rfl) ?_
    refine Wl_nil ?_
    refine W_ret ?_
    refine ret_end (v := .bool true) rfl (res1 Try.results11 rfl) ?_
    exact ⟨_, rfl, rfl, HU⟩
  · rw [decide_eq_false q1]
    refine W_cond_f rfl ?_
    refine W_skip ?_
    refine W_seq ?_
    refine W_region ?_
    refine Wl_v (r_mv (v := .slice a n c) rfl) ?_
    refine Wl_call (r_call1 rfl Try.call15 rfl) (own_spec _ hb.any (by omega)) ?_
    rintro v w2 ⟨a2, c2, rfl, hO2, hU2⟩
    have hzw2 := hU2.size
    replace hb := hb.upd0 hU2
    replace hq := hq.upd0 hU2
    replace HU := HU.trans0 hU2
    replace hO2 := hO2.tight
    have hl_hO2 := ilen hO2.sl
    have hc_hO2 := hO2.sl.cap.1
    refine Wl_call (r_call1 rfl Try.call21 rfl) (new_spec _ hO2.sl.any (by omega)) ?_
    rintro v w3 ⟨pb3, a3, c3, rfl, hp3, hO3, hpg_3, hU3⟩
    have hzw3 := hU3.size
    replace hb := hb.upd0 hU3
    replace hq := hq.upd0 hU3
    replace HU := HU.trans0 hU3
    replace hO2 := hO2.upd0 hU3
    have hbl_hp3 := hp3.lt
    replace hO3 := hO3.tight
    have hl_hO3 := ilen hO3.sl
    have hc_hO3 := hO3.sl.cap.1
    refine Wl_v (r_as (v := .pointer (some ⟨pb3, 0, none⟩)) rfl) ?_
    refine Wl_nil ?_
    refine W_seq ?_
    refine W_region ?_
    refine Wl_v (r_as (v := .int .i64 0) rfl) ?_
    refine Wl_nil ?_
    refine W_seq ?_
    refine W_seq ?_
    refine W_region ?_
    refine Wl_v (r_mv (v := .int .i64 sk) rfl) ?_
    refine Wl_v (r_gt rfl rfl) ?_
    refine Wl_v (r_mv (v := .bool (decide (0 < sk))) rfl) ?_
    by_cases q2 : 0 < sk
    · rw [decide_eq_true q2]
      refine Wl_guard_t rfl ?_
      refine Wl_v (r_mv (v := .int .i64 sk) rfl) ?_
      refine Wl_guard_t rfl ?_
      refine Wl_v (r_mv (v := .slice a n c) rfl) ?_
      refine Wl_guard_t rfl ?_
      refine Wl_v (r_len Try.underlying22 rfl) ?_
      refine Wl_guard_t rfl ?_
      refine Wl_v (r_le rfl rfl) ?_
      refine Wl_v (r_pick_t (v := .bool (decide (sk ≤ ((n : Nat) : Int)))) rfl rfl) ?_
      refine Wl_nil ?_
      by_cases q3 : sk ≤ ((n : Nat) : Int)
      · rw [decide_eq_true q3]
        refine W_cond_t rfl ?_
        refine W_seq ?_
        refine W_region ?_
        refine Wl_v (r_mv (v := .pointer (some ⟨pb3, 0, none⟩)) rfl) ?_
        refine Wl_v (r_mv (v := .int .i64 sk) rfl) ?_
        refine Wl_call (r_call2 rfl Try.call26 rfl rfl) (cbytes_ok (p := 0) _ hp3 (hO3.sl.cur (by intro h1; have h3 : ((w2.heap.size ≤ pb3 ∧ pb3 ≠ pb3) ∧ pb3 < w3.heap.size) := h1; first | omega | simp at h3)) bb (by omega) (by omega) (by omega) (by omega)) ?_
        rintro v w4 ⟨a4, c4, rfl, hp4, hO4, hU4⟩
        have hzw4 := hU4.size
        replace hb := hb.upd1 hU4 (by intro h1; have h3 : pb3 < w.heap.size := h1; omega)
        replace hq := hq.upd1 hU4 (by intro h1; have h3 : pb3 < w.heap.size := h1; omega)
        replace HU := HU.trans1 hU4 (by show (False) ∨ w.heap.size ≤ pb3; omega)
        replace hO2 := hO2.upd1 hU4 (by intro h1; have h3 : ((w.heap.size ≤ pb3) ∧ pb3 < w2.heap.size) := h1; omega)
        replace hO3 := hO3.upd1 hU4 (by intro h1; have h3 : ((w2.heap.size ≤ pb3 ∧ pb3 ≠ pb3) ∧ pb3 < w3.heap.size) := h1; omega)
        have hbl_hp4 := hp4.lt
        replace hO4 := hO4.tight
        have hl_hO4 := ilen hO4.sl
        have hc_hO4 := hO4.sl.cap.1
        refine Wl_nil ?_
        refine W_region ?_
        refine Wl_v (r_mv (v := .int .i64 sk) rfl) ?_
        refine Wl_v (r_as (v := .int .i64 sk) rfl) ?_
        refine Wl_nil ?_
        refine W_seq ?_
        refine W_region ?_
        refine Wl_v (r_mv (v := .pointer (some ⟨pb3, 0, none⟩)) rfl) ?_
        refine Wl_v (r_mv (v := .int .i64 nn) rfl) ?_
        by_cases q4 : (gbytes bs (0 + sk.toNat) nn).2.2 = 0
        · refine Wl_call (r_call2 rfl Try.call33 rfl rfl) (csub_ok _ hp4 (hO3.sl.cur (by intro h1; have h3 : ((w2.heap.size ≤ pb3 ∧ pb3 ≠ pb3) ∧ pb3 < w3.heap.size) := h1; first | omega | simp at h3)) bb (by omega) (by omega) q4) ?_
          rintro v w5 ⟨B5, a5, m5, c5, rfl, hp5, hB5, hO5, hm_5, hBg_5, hU5⟩
          have hzw5 := hU5.size
          replace hb := hb.upd1 hU5 (by intro h1; have h3 : pb3 < w.heap.size := h1; omega)
          replace hq := hq.upd1 hU5 (by intro h1; have h3 : pb3 < w.heap.size := h1; omega)
          replace HU := HU.trans1 hU5 (by show (False) ∨ w.heap.size ≤ pb3; omega)
          replace hO2 := hO2.upd1 hU5 (by intro h1; have h3 : ((w.heap.size ≤ pb3) ∧ pb3 < w2.heap.size) := h1; omega)
          replace hO3 := hO3.upd1 hU5 (by intro h1; have h3 : ((w2.heap.size ≤ pb3 ∧ pb3 ≠ pb3) ∧ pb3 < w3.heap.size) := h1; omega)
          replace hO4 := hO4.upd1 hU5 (by intro h1; have h3 : ((w3.heap.size ≤ pb3) ∧ pb3 < w4.heap.size) := h1; omega)
          have hbl_hp5 := hp5.lt
          have hbl_hB5 := hB5.lt
          replace hO5 := hO5.tight
          have hl_hO5 := ilen hO5.sl
          have hc_hO5 := hO5.sl.cap.1
          have hgl := gbytes_len2 (bs := bs) (p := 0 + sk.toNat) (k := nn)
          have hgq := gbytes_props (bs := bs) (p := 0 + sk.toNat) (k := nn) (by omega)
          refine Wl_v (r_mv (v := .tuple #[.pointer (some ⟨B5, 0, none⟩), .int .i64 0]) rfl) ?_
          refine Wl_v (r_ext (v := .pointer (some ⟨B5, 0, none⟩)) rfl rfl) ?_
          refine Wl_v (r_ext (v := .int .i64 0) rfl rfl) ?_
          refine Wl_v (r_as (v := .pointer (some ⟨B5, 0, none⟩)) rfl) ?_
          refine Wl_v (r_as (v := .int .i64 0) rfl) ?_
          refine Wl_nil ?_
          refine W_seq ?_
          refine W_region ?_
          refine Wl_v (r_mv (v := .slice a n c) rfl) ?_
          refine Wl_v (r_mv (v := .int .i64 sk) rfl) ?_
          refine Wl_v (r_mv (v := .int .i64 nn) rfl) ?_
          refine Wl_call (r_call3 rfl Try.call34 (v1 := .int .i64 ((0 + sk.toNat : Nat) : Int)) rfl (Eq.trans (b := .int .i64 sk) rfl (vint (by omega))) rfl) (rbytes_spec _ hb bb (by omega) (by omega)) ?_
          rintro v w6 ⟨a6, m6, c6, rfl, hB6, hm_6, hU6⟩
          have hzw6 := hU6.size
          replace hb := hb.upd0 hU6
          replace hq := hq.upd0 hU6
          replace HU := HU.trans0 hU6
          replace hO2 := hO2.upd0 hU6
          replace hO3 := hO3.upd0 hU6
          replace hO4 := hO4.upd0 hU6
          replace hp5 := hp5.upd0 hU6
          replace hB5 := hB5.upd0 hU6
          replace hO5 := hO5.upd0 hU6
          have hl_hB6 := ilen hB6
          have hc_hB6 := hB6.cap.1
          refine Wl_v (r_mv (v := .tuple #[.slice a6 m6 c6, .int .i64 (((gbytes bs (0 + sk.toNat) nn).2.1 : Nat) : Int), .int .i64 ((gbytes bs (0 + sk.toNat) nn).2.2)]) rfl) ?_
          refine Wl_v (r_ext (v := .slice a6 m6 c6) rfl rfl) ?_
          refine Wl_v (r_ext (v := .int .i64 (((gbytes bs (0 + sk.toNat) nn).2.1 : Nat) : Int)) rfl rfl) ?_
          refine Wl_v (r_ext (v := .int .i64 ((gbytes bs (0 + sk.toNat) nn).2.2)) rfl rfl) ?_
          refine Wl_v (r_as (v := .slice a6 m6 c6) rfl) ?_
          refine Wl_v (r_as (v := .int .i64 (((gbytes bs (0 + sk.toNat) nn).2.1 : Nat) : Int)) rfl) ?_
          refine Wl_v (r_as (v := .int .i64 ((gbytes bs (0 + sk.toNat) nn).2.2)) rfl) ?_
          refine Wl_nil ?_
          refine W_seq ?_
          refine W_seq ?_
          refine W_region ?_
          refine Wl_v (r_mv (v := .int .i64 ((gbytes bs (0 + sk.toNat) nn).2.2)) rfl) ?_
          refine Wl_v (r_ne rfl rfl) ?_
          refine Wl_nil ?_
          have q5 : ¬ (((gbytes bs (0 + sk.toNat) nn).2.2) ≠ 0) := (fun h2 => h2 q4)
          rw [decide_eq_false q5]
          refine W_cond_f rfl ?_
          refine W_skip ?_
          refine W_seq ?_
          refine W_seq ?_
          refine W_region ?_
          refine Wl_v (r_mv (v := .int .i64 0) rfl) ?_
          refine Wl_v (v := .bool false) (r_ne (a := 0) (b := 0) rfl rfl) ?_
          refine Wl_v (r_mv (v := .bool false) rfl) ?_
          refine Wl_guard_t rfl ?_
          refine Wl_v (r_mv (v := .pointer (some ⟨B5, 0, none⟩)) rfl) ?_
          refine Wl_guard_t rfl ?_
          refine Wl_v (r_eqpn_s Try.underlying38 rfl rfl) ?_
          refine Wl_v (r_pick_f (v := .bool false) rfl rfl) ?_
          refine Wl_v (r_mv (v := .bool false) rfl) ?_
          refine Wl_guard_t rfl ?_
          refine Wl_v (r_mv (v := .pointer (some ⟨pb3, 0, none⟩)) rfl) ?_
          refine Wl_guard_t rfl ?_
          refine Wl_call (r_call1 rfl Try.call24 rfl) (at_spec _ hp5 (by omega) (by omega) (by omega)) ?_
          rintro v w7 ⟨rfl, hU7⟩
          have hzw7 := hU7.size
          replace hb := hb.upd0 hU7
          replace hq := hq.upd0 hU7
          replace HU := HU.trans0 hU7
          replace hO2 := hO2.upd0 hU7
          replace hO3 := hO3.upd0 hU7
          replace hO4 := hO4.upd0 hU7
          replace hp5 := hp5.upd0 hU7
          replace hB5 := hB5.upd0 hU7
          replace hO5 := hO5.upd0 hU7
          replace hB6 := hB6.upd0 hU7
          refine Wl_guard_t rfl ?_
          refine Wl_v (r_mv (v := .int .i64 (((gbytes bs (0 + sk.toNat) nn).2.1 : Nat) : Int)) rfl) ?_
          refine Wl_guard_t rfl ?_
          refine Wl_v (r_ne rfl rfl) ?_
          refine Wl_v (r_pick_f (v := .bool (decide ((((gbytes bs (0 + sk.toNat) nn).2.1 : Nat) : Int) ≠ (((gbytes bs (0 + sk.toNat) nn).2.1 : Nat) : Int)))) rfl rfl) ?_
          refine Wl_v (r_mv (v := .bool (decide ((((gbytes bs (0 + sk.toNat) nn).2.1 : Nat) : Int) ≠ (((gbytes bs (0 + sk.toNat) nn).2.1 : Nat) : Int)))) rfl) ?_
          have q6 : ¬ ((((gbytes bs (0 + sk.toNat) nn).2.1 : Nat) : Int) ≠ (((gbytes bs (0 + sk.toNat) nn).2.1 : Nat) : Int)) := (fun h => h rfl)
          rw [decide_eq_false q6]
          refine Wl_guard_t rfl ?_
          refine Wl_v (r_mv (v := .pointer (some ⟨B5, 0, none⟩)) rfl) ?_
          refine Wl_guard_t rfl ?_
          refine Wl_call (r_call1 rfl Try.call24 rfl) (at_spec _ hB5 (by omega) (by omega) (by omega)) ?_
          rintro v w8 ⟨rfl, hU8⟩
          have hzw8 := hU8.size
          replace hb := hb.upd0 hU8
          replace hq := hq.upd0 hU8
          replace HU := HU.trans0 hU8
          replace hO2 := hO2.upd0 hU8
          replace hO3 := hO3.upd0 hU8
          replace hO4 := hO4.upd0 hU8
          replace hp5 := hp5.upd0 hU8
          replace hB5 := hB5.upd0 hU8
          replace hO5 := hO5.upd0 hU8
          replace hB6 := hB6.upd0 hU8
          refine Wl_guard_t rfl ?_
          refine Wl_v (v := .bool false) (r_ne (a := 0) (b := 0) rfl rfl) ?_
          refine Wl_v (r_pick_f (v := .bool false) rfl rfl) ?_
          refine Wl_v (r_mv (v := .bool false) rfl) ?_
          refine Wl_guard_t rfl ?_
          refine Wl_v (r_mv (v := .pointer (some ⟨B5, 0, none⟩)) rfl) ?_
          refine Wl_guard_t rfl ?_
          refine Wl_call (r_call1 rfl Try.call25 rfl) (rest_spec (p := 0) _ hB5 (hO5.sl.cur (by intro h1; have h3 : ((w4.heap.size ≤ B5 ∧ B5 ≠ B5) ∧ B5 < w5.heap.size) := h1; first | omega | simp at h3)) (gbytes_byt bb) (by omega) (by omega)) ?_
          rintro v w9 ⟨a9, c9, rfl, hO9, hU9⟩
          have hzw9 := hU9.size
          replace hb := hb.upd0 hU9
          replace hq := hq.upd0 hU9
          replace HU := HU.trans0 hU9
          replace hO2 := hO2.upd0 hU9
          replace hO3 := hO3.upd0 hU9
          replace hO4 := hO4.upd0 hU9
          replace hp5 := hp5.upd0 hU9
          replace hB5 := hB5.upd0 hU9
          replace hO5 := hO5.upd0 hU9
          replace hB6 := hB6.upd0 hU9
          replace hO9 := hO9.tight
          have hl_hO9 := ilen hO9.sl
          have hc_hO9 := hO9.sl.cap.1
          refine Wl_guard_t rfl ?_
          refine Wl_v (r_mv (v := .slice a6 m6 c6) rfl) ?_
          refine Wl_guard_t rfl ?_
          refine Wl_call (r_call2 rfl Try.call13 rfl rfl) (same_spec _ hO9.sl.any hB6.any (byt_drop (gbytes_byt bb) _) (gbytes_byt bb)) ?_
          rintro v w10 ⟨rfl, hU10⟩
          have hzw10 := hU10.size
          replace hb := hb.upd0 hU10
          replace hq := hq.upd0 hU10
          replace HU := HU.trans0 hU10
          replace hO2 := hO2.upd0 hU10
          replace hO3 := hO3.upd0 hU10
          replace hO4 := hO4.upd0 hU10
          replace hp5 := hp5.upd0 hU10
          replace hB5 := hB5.upd0 hU10
          replace hO5 := hO5.upd0 hU10
          replace hB6 := hB6.upd0 hU10
          replace hO9 := hO9.upd0 hU10
          refine Wl_guard_t rfl ?_
          refine Wl_v (r_not rfl) ?_
          refine Wl_v (r_pick_f (v := .bool (!decide ((((gbytes bs (0 + sk.toNat) nn).1).drop 0) = ((gbytes bs (0 + sk.toNat) nn).1)))) rfl rfl) ?_
          refine Wl_nil ?_
          have q7 : (((gbytes bs (0 + sk.toNat) nn).1).drop 0) = ((gbytes bs (0 + sk.toNat) nn).1) := rfl
          rw [decide_eq_true q7]
          simp only [Bool.not_true, Bool.not_false]
          refine W_cond_f rfl ?_
          refine W_skip ?_
          refine W_seq ?_
          refine W_region ?_
          refine Wl_v (r_mv (v := .slice a6 m6 c6) rfl) ?_
          refine Wl_call (r_call1 rfl Try.call21 rfl) (new_spec _ hB6.any (by omega)) ?_
          rintro v w11 ⟨pb11, a11, c11, rfl, hp11, hO11, hpg_11, hU11⟩
          have hzw11 := hU11.size
          replace hb := hb.upd0 hU11
          replace hq := hq.upd0 hU11
          replace HU := HU.trans0 hU11
          replace hO2 := hO2.upd0 hU11
          replace hO3 := hO3.upd0 hU11
          replace hO4 := hO4.upd0 hU11
          replace hp5 := hp5.upd0 hU11
          replace hB5 := hB5.upd0 hU11
          replace hO5 := hO5.upd0 hU11
          replace hB6 := hB6.upd0 hU11
          replace hO9 := hO9.upd0 hU11
          have hbl_hp11 := hp11.lt
          replace hO11 := hO11.tight
          have hl_hO11 := ilen hO11.sl
          have hc_hO11 := hO11.sl.cap.1
          refine Wl_v (r_as (v := .pointer (some ⟨pb11, 0, none⟩)) rfl) ?_
          refine Wl_nil ?_
          refine W_seq ?_
          refine W_seq ?_
          refine W_region ?_
          refine Wl_v (r_as (v := .int .i64 0) rfl) ?_
          refine Wl_nil ?_
          refine W_block ?_
          refine W_loop (fun mu ρ ds w' => ∃ (k p : Nat), m - k = mu ∧ ds = [] ∧ Liv ρ [(0, .slice a n c), (3, .slice aq m cq), (9, .pointer (some ⟨pb3, 0, none⟩)), (11, .pointer (some ⟨B5, 0, none⟩)), (14, .int .i64 (((gbytes bs (0 + sk.toNat) nn).2.1 : Nat) : Int)), (16, .pointer (some ⟨pb11, 0, none⟩)), (17, .int .i64 ((k : Nat) : Int))] ∧ k ≤ m ∧ p ≤ m5 ∧ Blk w' B5 [.slice a5 m5 c5, .int .i64 ((p : Nat) : Int)] ∧ Blk w' pb11 [.slice a11 m6 c11, .int .i64 ((p : Nat) : Int)] ∧ Upd (fun g => g = B5 ∨ g = pb11) w11 w') _ ⟨0, 0, rfl, rfl, ⟨rfl, rfl, rfl, rfl, rfl, rfl, (by first | rfl | exact vint (by omega) | exact vint (by simp)), trivial⟩, (by omega), (by omega), hB5, hp11, Upd.refl _ _⟩ ?_
          rintro m12 ρ12 ds12 w12 ⟨k, p, rfl, rfl, hl12, hkm, hpn, hB5, hp11, hU12⟩
          obtain ⟨ρ12x, rfl⟩ : ∃ ρx, ρ12 = upds ρx [(0, .slice a n c), (3, .slice aq m cq), (9, .pointer (some ⟨pb3, 0, none⟩)), (11, .pointer (some ⟨B5, 0, none⟩)), (14, .int .i64 (((gbytes bs (0 + sk.toNat) nn).2.1 : Nat) : Int)), (16, .pointer (some ⟨pb11, 0, none⟩)), (17, .int .i64 ((k : Nat) : Int))] := ⟨_, upds_self hl12⟩
          clear hl12
          have hzw12 := hU12.size
          replace hb := hb.upd hU12 (by intro x h1 h2; have h3 : x < w.heap.size := h1; have h4 : x = B5 ∨ x = pb11 := h2; omega)
          replace hq := hq.upd hU12 (by intro x h1 h2; have h3 : x < w.heap.size := h1; have h4 : x = B5 ∨ x = pb11 := h2; omega)
          replace HU := HU.trans hU12 (by intro x hx; have hx2 : x = B5 ∨ x = pb11 := hx; show (False) ∨ w.heap.size ≤ x; omega)
          replace hO2 := hO2.upd hU12 (by intro x h1 h2; have h3 : ((w.heap.size ≤ x) ∧ x < w2.heap.size) := h1; have h4 : x = B5 ∨ x = pb11 := h2; omega)
          replace hO3 := hO3.upd hU12 (by intro x h1 h2; have h3 : ((w2.heap.size ≤ x ∧ x ≠ pb3) ∧ x < w3.heap.size) := h1; have h4 : x = B5 ∨ x = pb11 := h2; omega)
          replace hO4 := hO4.upd hU12 (by intro x h1 h2; have h3 : ((w3.heap.size ≤ x) ∧ x < w4.heap.size) := h1; have h4 : x = B5 ∨ x = pb11 := h2; omega)
          replace hp5 := hp5.upd hU12 (by intro hx; have hx2 : pb3 = B5 ∨ pb3 = pb11 := hx; omega)
          replace hO5 := hO5.upd hU12 (by intro x h1 h2; have h3 : ((w4.heap.size ≤ x ∧ x ≠ B5) ∧ x < w5.heap.size) := h1; have h4 : x = B5 ∨ x = pb11 := h2; omega)
          replace hB6 := hB6.upd hU12 (by intro x h1 h2; have h3 : x < w.heap.size := h1; have h4 : x = B5 ∨ x = pb11 := h2; omega)
          replace hO9 := hO9.upd hU12 (by intro x h1 h2; have h3 : ((w8.heap.size ≤ x) ∧ x < w9.heap.size) := h1; have h4 : x = B5 ∨ x = pb11 := h2; omega)
          replace hO11 := hO11.upd hU12 (by intro x h1 h2; have h3 : ((w10.heap.size ≤ x ∧ x ≠ pb11) ∧ x < w11.heap.size) := h1; have h4 : x = B5 ∨ x = pb11 := h2; omega)
          have HL12 := hU12
          refine W_seq ?_
          refine W_seq ?_
          refine W_region ?_
          refine Wl_v (r_mv (v := .int .i64 ((k : Nat) : Int)) rfl) ?_
          refine Wl_v (r_mv (v := .slice aq m cq) rfl) ?_
          refine Wl_v (r_len Try.underlying52 rfl) ?_
          refine Wl_v (r_lt rfl rfl) ?_
          refine Wl_nil ?_
          by_cases q8 : ((k : Nat) : Int) < ((m : Nat) : Int)
          · have hck := hcl.at k
            have hle := stp_le (gbytes_byt (k := nn) (p := (0 + sk.toNat)) bb) (p := p) (by omega) (cl.getD k (0, 0)).1 (cl.getD k (0, 0)).2
            rw [decide_eq_true q8]
            refine W_cond_t rfl ?_
            refine W_skip ?_
            refine W_seq ?_
            refine W_block ?_
            refine W_seq ?_
            refine W_region ?_
            refine Wl_v (r_mv (v := .pointer (some ⟨B5, 0, none⟩)) rfl) ?_
            refine Wl_v (r_mv (v := .slice aq m cq) rfl) ?_
            refine Wl_v (r_mv (v := .int .i64 ((k : Nat) : Int)) rfl) ?_
            refine Wl_idxr (0, 0) encCall_len (by decide) Try.underlying52 Try.sizeOf56 rfl rfl hq (by omega) (by omega) ?_
            intro ib13 io13 hc13
            try rw [Int.toNat_natCast] at hc13
            refine Wl_v (r_loada (cs := [.int .i64 ((cl.getD k (0, 0)).1), .int .i64 ((cl.getD k (0, 0)).2)]) Try.isAgg56 Try.sizeOf56 rfl rfl hc13) ?_
            refine Wl_call (r_call2 rfl Try.call31 rfl rfl) (ask_spec _ hB5 (hO5.sl.cur (by intro h1; have h3 : ((w4.heap.size ≤ B5 ∧ B5 ≠ B5) ∧ B5 < w5.heap.size) := h1; first | omega | simp at h3)) (gbytes_byt bb) (by omega) (by omega) (by omega)) ?_
            rintro v w14 ⟨a14, m14, c14, rfl, hp14, hO14, hm_14, hU14⟩
            have hzw14 := hU14.size
            replace hb := hb.upd1 hU14 (by intro h1; have h3 : B5 < w.heap.size := h1; omega)
            replace hq := hq.upd1 hU14 (by intro h1; have h3 : B5 < w.heap.size := h1; omega)
            replace HU := HU.trans1 hU14 (by show (False) ∨ w.heap.size ≤ B5; omega)
            replace hO2 := hO2.upd1 hU14 (by intro h1; have h3 : ((w.heap.size ≤ B5) ∧ B5 < w2.heap.size) := h1; omega)
            replace hO3 := hO3.upd1 hU14 (by intro h1; have h3 : ((w2.heap.size ≤ B5 ∧ B5 ≠ pb3) ∧ B5 < w3.heap.size) := h1; omega)
            replace hO4 := hO4.upd1 hU14 (by intro h1; have h3 : ((w3.heap.size ≤ B5) ∧ B5 < w4.heap.size) := h1; omega)
            replace hp5 := hp5.upd1 hU14 (by omega)
            replace hO5 := hO5.upd1 hU14 (by intro h1; have h3 : ((w4.heap.size ≤ B5 ∧ B5 ≠ B5) ∧ B5 < w5.heap.size) := h1; omega)
            replace hB6 := hB6.upd1 hU14 (by intro h1; have h3 : B5 < w.heap.size := h1; omega)
            replace hO9 := hO9.upd1 hU14 (by intro h1; have h3 : ((w8.heap.size ≤ B5) ∧ B5 < w9.heap.size) := h1; omega)
            replace hO11 := hO11.upd1 hU14 (by intro h1; have h3 : ((w10.heap.size ≤ B5 ∧ B5 ≠ pb11) ∧ B5 < w11.heap.size) := h1; omega)
            replace hp11 := hp11.upd1 hU14 (by omega)
            replace HL12 := HL12.trans1 hU14 (by show (B5 = B5 ∨ B5 = pb11) ∨ w11.heap.size ≤ B5; omega)
            have hbl_hp14 := hp14.lt
            replace hO14 := hO14.tight
            have hl_hO14 := ilen hO14.sl
            have hc_hO14 := hO14.sl.cap.1
            refine Wl_v (r_mv (v := .tuple #[.int .u64 ((stp ((gbytes bs (0 + sk.toNat) nn).1) p ((cl.getD k (0, 0)).1) ((cl.getD k (0, 0)).2)).1), .slice a14 m14 c14, .int .i64 ((stp ((gbytes bs (0 + sk.toNat) nn).1) p ((cl.getD k (0, 0)).1) ((cl.getD k (0, 0)).2)).2.2.2)]) rfl) ?_
            refine Wl_v (r_ext (v := .int .u64 ((stp ((gbytes bs (0 + sk.toNat) nn).1) p ((cl.getD k (0, 0)).1) ((cl.getD k (0, 0)).2)).1)) rfl rfl) ?_
            refine Wl_v (r_ext (v := .slice a14 m14 c14) rfl rfl) ?_
            refine Wl_v (r_ext (v := .int .i64 ((stp ((gbytes bs (0 + sk.toNat) nn).1) p ((cl.getD k (0, 0)).1) ((cl.getD k (0, 0)).2)).2.2.2)) rfl rfl) ?_
            refine Wl_v (r_as (v := .int .u64 ((stp ((gbytes bs (0 + sk.toNat) nn).1) p ((cl.getD k (0, 0)).1) ((cl.getD k (0, 0)).2)).1)) rfl) ?_
            refine Wl_v (r_as (v := .slice a14 m14 c14) rfl) ?_
            refine Wl_v (r_as (v := .int .i64 ((stp ((gbytes bs (0 + sk.toNat) nn).1) p ((cl.getD k (0, 0)).1) ((cl.getD k (0, 0)).2)).2.2.2)) rfl) ?_
            refine Wl_nil ?_
            refine W_seq ?_
            refine W_region ?_
            refine Wl_v (r_mv (v := .pointer (some ⟨pb11, 0, none⟩)) rfl) ?_
            refine Wl_v (r_mv (v := .slice aq m cq) rfl) ?_
            refine Wl_v (r_mv (v := .int .i64 ((k : Nat) : Int)) rfl) ?_
            refine Wl_idxr (0, 0) encCall_len (by decide) Try.underlying52 Try.sizeOf56 rfl rfl hq (by omega) (by omega) ?_
            intro ib15 io15 hc15
            try rw [Int.toNat_natCast] at hc15
            refine Wl_v (r_loada (cs := [.int .i64 ((cl.getD k (0, 0)).1), .int .i64 ((cl.getD k (0, 0)).2)]) Try.isAgg56 Try.sizeOf56 rfl rfl hc15) ?_
            refine Wl_call (r_call2 rfl Try.call31 rfl rfl) (ask_spec _ hp11 (hO11.sl.cur (by intro h1; have h3 : ((w10.heap.size ≤ pb11 ∧ pb11 ≠ pb11) ∧ pb11 < w11.heap.size) := h1; first | omega | simp at h3)) (gbytes_byt bb) (by omega) (by omega) (by omega)) ?_
            rintro v w16 ⟨a16, m16, c16, rfl, hp16, hO16, hm_16, hU16⟩
            have hzw16 := hU16.size
            replace hb := hb.upd1 hU16 (by intro h1; have h3 : pb11 < w.heap.size := h1; omega)
            replace hq := hq.upd1 hU16 (by intro h1; have h3 : pb11 < w.heap.size := h1; omega)
            replace HU := HU.trans1 hU16 (by show (False) ∨ w.heap.size ≤ pb11; omega)
            replace hO2 := hO2.upd1 hU16 (by intro h1; have h3 : ((w.heap.size ≤ pb11) ∧ pb11 < w2.heap.size) := h1; omega)
            replace hO3 := hO3.upd1 hU16 (by intro h1; have h3 : ((w2.heap.size ≤ pb11 ∧ pb11 ≠ pb3) ∧ pb11 < w3.heap.size) := h1; omega)
            replace hO4 := hO4.upd1 hU16 (by intro h1; have h3 : ((w3.heap.size ≤ pb11) ∧ pb11 < w4.heap.size) := h1; omega)
            replace hp5 := hp5.upd1 hU16 (by omega)
            replace hO5 := hO5.upd1 hU16 (by intro h1; have h3 : ((w4.heap.size ≤ pb11 ∧ pb11 ≠ B5) ∧ pb11 < w5.heap.size) := h1; omega)
            replace hB6 := hB6.upd1 hU16 (by intro h1; have h3 : pb11 < w.heap.size := h1; omega)
            replace hO9 := hO9.upd1 hU16 (by intro h1; have h3 : ((w8.heap.size ≤ pb11) ∧ pb11 < w9.heap.size) := h1; omega)
            replace hO11 := hO11.upd1 hU16 (by intro h1; have h3 : ((w10.heap.size ≤ pb11 ∧ pb11 ≠ pb11) ∧ pb11 < w11.heap.size) := h1; omega)
            replace HL12 := HL12.trans1 hU16 (by show (pb11 = B5 ∨ pb11 = pb11) ∨ w11.heap.size ≤ pb11; omega)
            replace hp14 := hp14.upd1 hU16 (by omega)
            replace hO14 := hO14.upd1 hU16 (by intro h1; have h3 : ((w12.heap.size ≤ pb11) ∧ pb11 < w14.heap.size) := h1; omega)
            have hbl_hp16 := hp16.lt
            replace hO16 := hO16.tight
            have hl_hO16 := ilen hO16.sl
            have hc_hO16 := hO16.sl.cap.1
            refine Wl_v (r_mv (v := .tuple #[.int .u64 ((stp ((gbytes bs (0 + sk.toNat) nn).1) p ((cl.getD k (0, 0)).1) ((cl.getD k (0, 0)).2)).1), .slice a16 m16 c16, .int .i64 ((stp ((gbytes bs (0 + sk.toNat) nn).1) p ((cl.getD k (0, 0)).1) ((cl.getD k (0, 0)).2)).2.2.2)]) rfl) ?_
            refine Wl_v (r_ext (v := .int .u64 ((stp ((gbytes bs (0 + sk.toNat) nn).1) p ((cl.getD k (0, 0)).1) ((cl.getD k (0, 0)).2)).1)) rfl rfl) ?_
            refine Wl_v (r_ext (v := .slice a16 m16 c16) rfl rfl) ?_
            refine Wl_v (r_ext (v := .int .i64 ((stp ((gbytes bs (0 + sk.toNat) nn).1) p ((cl.getD k (0, 0)).1) ((cl.getD k (0, 0)).2)).2.2.2)) rfl rfl) ?_
            refine Wl_v (r_as (v := .int .u64 ((stp ((gbytes bs (0 + sk.toNat) nn).1) p ((cl.getD k (0, 0)).1) ((cl.getD k (0, 0)).2)).1)) rfl) ?_
            refine Wl_v (r_as (v := .slice a16 m16 c16) rfl) ?_
            refine Wl_v (r_as (v := .int .i64 ((stp ((gbytes bs (0 + sk.toNat) nn).1) p ((cl.getD k (0, 0)).1) ((cl.getD k (0, 0)).2)).2.2.2)) rfl) ?_
            refine Wl_nil ?_
            refine W_seq ?_
            refine W_region ?_
            refine Wl_v (r_mv (v := .int .u64 ((stp ((gbytes bs (0 + sk.toNat) nn).1) p ((cl.getD k (0, 0)).1) ((cl.getD k (0, 0)).2)).1)) rfl) ?_
            refine Wl_v (r_mv (v := .int .u64 ((stp ((gbytes bs (0 + sk.toNat) nn).1) p ((cl.getD k (0, 0)).1) ((cl.getD k (0, 0)).2)).1)) rfl) ?_
            refine Wl_v (r_ne rfl rfl) ?_
            refine Wl_v (r_mv (v := .bool (decide (((stp ((gbytes bs (0 + sk.toNat) nn).1) p ((cl.getD k (0, 0)).1) ((cl.getD k (0, 0)).2)).1) ≠ ((stp ((gbytes bs (0 + sk.toNat) nn).1) p ((cl.getD k (0, 0)).1) ((cl.getD k (0, 0)).2)).1)))) rfl) ?_
            have q9 : ¬ (((stp ((gbytes bs (0 + sk.toNat) nn).1) p ((cl.getD k (0, 0)).1) ((cl.getD k (0, 0)).2)).1) ≠ ((stp ((gbytes bs (0 + sk.toNat) nn).1) p ((cl.getD k (0, 0)).1) ((cl.getD k (0, 0)).2)).1)) := (fun h => h rfl)
            rw [decide_eq_false q9]
            refine Wl_guard_t rfl ?_
            refine Wl_v (r_mv (v := .slice a14 m14 c14) rfl) ?_
            refine Wl_guard_t rfl ?_
            refine Wl_v (r_mv (v := .slice a16 m16 c16) rfl) ?_
            refine Wl_guard_t rfl ?_
            refine Wl_call (r_call2 rfl Try.call13 rfl rfl) (same_spec _ hO14.sl.any hO16.sl.any (stp_byt (gbytes_byt bb)) (stp_byt (gbytes_byt bb))) ?_
            rintro v w17 ⟨rfl, hU17⟩
            have hzw17 := hU17.size
            replace hb := hb.upd0 hU17
            replace hq := hq.upd0 hU17
            replace HU := HU.trans0 hU17
            replace hO2 := hO2.upd0 hU17
            replace hO3 := hO3.upd0 hU17
            replace hO4 := hO4.upd0 hU17
            replace hp5 := hp5.upd0 hU17
            replace hO5 := hO5.upd0 hU17
            replace hB6 := hB6.upd0 hU17
            replace hO9 := hO9.upd0 hU17
            replace hO11 := hO11.upd0 hU17
            replace HL12 := HL12.trans0 hU17
            replace hp14 := hp14.upd0 hU17
            replace hO14 := hO14.upd0 hU17
            replace hp16 := hp16.upd0 hU17
            replace hO16 := hO16.upd0 hU17
            refine Wl_guard_t rfl ?_
            refine Wl_v (r_not rfl) ?_
            refine Wl_v (r_pick_f (v := .bool (!decide (((stp ((gbytes bs (0 + sk.toNat) nn).1) p ((cl.getD k (0, 0)).1) ((cl.getD k (0, 0)).2)).2.1) = ((stp ((gbytes bs (0 + sk.toNat) nn).1) p ((cl.getD k (0, 0)).1) ((cl.getD k (0, 0)).2)).2.1)))) rfl rfl) ?_
            refine Wl_v (r_mv (v := .bool (!decide (((stp ((gbytes bs (0 + sk.toNat) nn).1) p ((cl.getD k (0, 0)).1) ((cl.getD k (0, 0)).2)).2.1) = ((stp ((gbytes bs (0 + sk.toNat) nn).1) p ((cl.getD k (0, 0)).1) ((cl.getD k (0, 0)).2)).2.1)))) rfl) ?_
            have q10 : ((stp ((gbytes bs (0 + sk.toNat) nn).1) p ((cl.getD k (0, 0)).1) ((cl.getD k (0, 0)).2)).2.1) = ((stp ((gbytes bs (0 + sk.toNat) nn).1) p ((cl.getD k (0, 0)).1) ((cl.getD k (0, 0)).2)).2.1) := rfl
            rw [decide_eq_true q10]
            simp only [Bool.not_true, Bool.not_false]
            refine Wl_guard_t rfl ?_
            refine Wl_v (r_mv (v := .int .i64 ((stp ((gbytes bs (0 + sk.toNat) nn).1) p ((cl.getD k (0, 0)).1) ((cl.getD k (0, 0)).2)).2.2.2)) rfl) ?_
            refine Wl_guard_t rfl ?_
            refine Wl_v (r_mv (v := .int .i64 ((stp ((gbytes bs (0 + sk.toNat) nn).1) p ((cl.getD k (0, 0)).1) ((cl.getD k (0, 0)).2)).2.2.2)) rfl) ?_
            refine Wl_guard_t rfl ?_
            refine Wl_v (r_ne rfl rfl) ?_
            refine Wl_v (r_pick_f (v := .bool (decide (((stp ((gbytes bs (0 + sk.toNat) nn).1) p ((cl.getD k (0, 0)).1) ((cl.getD k (0, 0)).2)).2.2.2) ≠ ((stp ((gbytes bs (0 + sk.toNat) nn).1) p ((cl.getD k (0, 0)).1) ((cl.getD k (0, 0)).2)).2.2.2)))) rfl rfl) ?_
            refine Wl_v (r_mv (v := .bool (decide (((stp ((gbytes bs (0 + sk.toNat) nn).1) p ((cl.getD k (0, 0)).1) ((cl.getD k (0, 0)).2)).2.2.2) ≠ ((stp ((gbytes bs (0 + sk.toNat) nn).1) p ((cl.getD k (0, 0)).1) ((cl.getD k (0, 0)).2)).2.2.2)))) rfl) ?_
            have q11 : ¬ (((stp ((gbytes bs (0 + sk.toNat) nn).1) p ((cl.getD k (0, 0)).1) ((cl.getD k (0, 0)).2)).2.2.2) ≠ ((stp ((gbytes bs (0 + sk.toNat) nn).1) p ((cl.getD k (0, 0)).1) ((cl.getD k (0, 0)).2)).2.2.2)) := (fun h => h rfl)
            rw [decide_eq_false q11]
            refine Wl_guard_t rfl ?_
            refine Wl_v (r_mv (v := .pointer (some ⟨B5, 0, none⟩)) rfl) ?_
            refine Wl_guard_t rfl ?_
            refine Wl_call (r_call1 rfl Try.call24 rfl) (at_spec _ hp14 (by omega) (by omega) (by omega)) ?_
            rintro v w18 ⟨rfl, hU18⟩
            have hzw18 := hU18.size
            replace hb := hb.upd0 hU18
            replace hq := hq.upd0 hU18
            replace HU := HU.trans0 hU18
            replace hO2 := hO2.upd0 hU18
            replace hO3 := hO3.upd0 hU18
            replace hO4 := hO4.upd0 hU18
            replace hp5 := hp5.upd0 hU18
            replace hO5 := hO5.upd0 hU18
            replace hB6 := hB6.upd0 hU18
            replace hO9 := hO9.upd0 hU18
            replace hO11 := hO11.upd0 hU18
            replace HL12 := HL12.trans0 hU18
            replace hp14 := hp14.upd0 hU18
            replace hO14 := hO14.upd0 hU18
            replace hp16 := hp16.upd0 hU18
            replace hO16 := hO16.upd0 hU18
            refine Wl_guard_t rfl ?_
            refine Wl_v (r_mv (v := .pointer (some ⟨pb11, 0, none⟩)) rfl) ?_
            refine Wl_guard_t rfl ?_
            refine Wl_call (r_call1 rfl Try.call24 rfl) (at_spec _ hp16 (by omega) (by omega) (by omega)) ?_
            rintro v w19 ⟨rfl, hU19⟩
            have hzw19 := hU19.size
            replace hb := hb.upd0 hU19
            replace hq := hq.upd0 hU19
            replace HU := HU.trans0 hU19
            replace hO2 := hO2.upd0 hU19
            replace hO3 := hO3.upd0 hU19
            replace hO4 := hO4.upd0 hU19
            replace hp5 := hp5.upd0 hU19
            replace hO5 := hO5.upd0 hU19
            replace hB6 := hB6.upd0 hU19
            replace hO9 := hO9.upd0 hU19
            replace hO11 := hO11.upd0 hU19
            replace HL12 := HL12.trans0 hU19
            replace hp14 := hp14.upd0 hU19
            replace hO14 := hO14.upd0 hU19
            replace hp16 := hp16.upd0 hU19
            replace hO16 := hO16.upd0 hU19
            refine Wl_guard_t rfl ?_
            refine Wl_v (r_ne rfl rfl) ?_
            refine Wl_v (r_pick_f (v := .bool (decide ((((stp ((gbytes bs (0 + sk.toNat) nn).1) p ((cl.getD k (0, 0)).1) ((cl.getD k (0, 0)).2)).2.2.1 : Nat) : Int) ≠ (((stp ((gbytes bs (0 + sk.toNat) nn).1) p ((cl.getD k (0, 0)).1) ((cl.getD k (0, 0)).2)).2.2.1 : Nat) : Int)))) rfl rfl) ?_
            refine Wl_nil ?_
            have q12 : ¬ ((((stp ((gbytes bs (0 + sk.toNat) nn).1) p ((cl.getD k (0, 0)).1) ((cl.getD k (0, 0)).2)).2.2.1 : Nat) : Int) ≠ (((stp ((gbytes bs (0 + sk.toNat) nn).1) p ((cl.getD k (0, 0)).1) ((cl.getD k (0, 0)).2)).2.2.1 : Nat) : Int)) := (fun h => h rfl)
            rw [decide_eq_false q12]
            refine W_cond_f rfl ?_
            refine W_skip ?_
            refine W_region ?_
            refine Wl_v (r_mv (v := .int .i64 ((k : Nat) : Int)) rfl) ?_
            refine Wl_v (r_add rfl rfl (wi64 (by omega) (by omega))) ?_
            refine Wl_v (r_as (v := .int .i64 (((k : Nat) : Int) + 1)) rfl) ?_
            refine Wl_nil ?_
            refine ⟨_, ?_, (k + 1), (stp ((gbytes bs (0 + sk.toNat) nn).1) p (cl.getD k (0, 0)).1 (cl.getD k (0, 0)).2).2.2.1, rfl, rfl, ⟨rfl, rfl, rfl, rfl, rfl, rfl, (by first | rfl | exact vint (by omega) | exact vint (by simp)), trivial⟩, (by omega), (by omega), hp14, hp16, HL12⟩
            omega
          · rw [decide_eq_false q8]
            refine W_cond_f rfl ?_
            refine W_exit ?_
            refine W_seq ?_
            refine W_drawt rfl (l0 := #[false, false, false, false, false, false, false, false, false, false, false, false, false, false, false, false]) (by kernel_rfl) ?_
            refine Wt_take (i := 0) (listed' := #[true, false, false, false, false, false, false, false, false, false, false, false, false, false, false, false]) (by kernel_rfl) rfl (by kernel_rfl) (by kernel_rfl) (by kernel_rfl) (by kernel_rfl) (YI_v (v := .pointer (some ⟨pb3, 0, none⟩)) rfl (fun w' hw' => r_mv (v := .pointer (some ⟨pb3, 0, none⟩)) rfl)) ?_
            refine Wt_take (i := 1) (listed' := #[true, true, false, false, false, false, false, false, false, false, false, false, false, false, false, false]) (by kernel_rfl) rfl (by kernel_rfl) (by kernel_rfl) (by kernel_rfl) (by kernel_rfl) (YI_c (v := .int .i64 (((gbytes bs (0 + sk.toNat) nn).2.1 : Nat) : Int)) rfl (fun w' => r_call1 rfl Try.call24 rfl) (fun w' hw' => at_spec w' (hp5.upd0 hw') (by omega) (by omega) (by omega))) ?_
            refine Wt_take (i := 2) (listed' := #[true, true, true, false, false, false, false, false, false, false, false, false, false, false, false, false]) (by kernel_rfl) rfl (by kernel_rfl) (by kernel_rfl) (by kernel_rfl) (by kernel_rfl) (YI_v (v := .int .i64 (((gbytes bs (0 + sk.toNat) nn).2.1 : Nat) : Int)) rfl (fun w' hw' => r_mv (v := .int .i64 (((gbytes bs (0 + sk.toNat) nn).2.1 : Nat) : Int)) rfl)) ?_
            refine Wt_take (i := 3) (listed' := #[true, true, true, true, false, false, false, false, false, false, false, false, false, false, false, false]) (by kernel_rfl) rfl (by kernel_rfl) (by kernel_rfl) (by kernel_rfl) (by kernel_rfl) (YI_v (v := .bool (decide ((((gbytes bs (0 + sk.toNat) nn).2.1 : Nat) : Int) = (((gbytes bs (0 + sk.toNat) nn).2.1 : Nat) : Int)))) rfl (fun w' hw' => r_eq rfl rfl)) ?_
            refine Wt_take (i := 4) (listed' := #[true, true, true, true, true, false, false, false, false, false, false, false, false, false, false, false]) (by kernel_rfl) rfl (by kernel_rfl) (by kernel_rfl) (by kernel_rfl) (by kernel_rfl) (YI_v (v := .bool (decide ((((gbytes bs (0 + sk.toNat) nn).2.1 : Nat) : Int) = (((gbytes bs (0 + sk.toNat) nn).2.1 : Nat) : Int)))) rfl (fun w' hw' => r_mv (v := .bool (decide ((((gbytes bs (0 + sk.toNat) nn).2.1 : Nat) : Int) = (((gbytes bs (0 + sk.toNat) nn).2.1 : Nat) : Int)))) rfl)) ?_
            have q13 : (((gbytes bs (0 + sk.toNat) nn).2.1 : Nat) : Int) = (((gbytes bs (0 + sk.toNat) nn).2.1 : Nat) : Int) := (Classical.not_not.1 q6)
            rw [decide_eq_true q13]
            refine Wt_take (i := 5) (listed' := #[true, true, true, true, true, true, false, false, false, false, false, false, false, false, false, false]) (by kernel_rfl) rfl (by kernel_rfl) (by kernel_rfl) (by kernel_rfl) (by kernel_rfl) (YI_v (v := .pointer (some ⟨pb3, 0, none⟩)) rfl (fun w' hw' => r_mv (v := .pointer (some ⟨pb3, 0, none⟩)) rfl)) ?_
            refine Wt_take (i := 7) (listed' := #[true, true, true, true, true, true, false, true, false, false, false, false, false, false, false, false]) (by kernel_rfl) rfl (by kernel_rfl) (by kernel_rfl) (by kernel_rfl) (by kernel_rfl) (YI_v (v := .slice a n c) rfl (fun w' hw' => r_mv (v := .slice a n c) rfl)) ?_
            refine Wt_take (i := 8) (listed' := #[true, true, true, true, true, true, false, true, true, false, false, false, false, false, false, false]) (by kernel_rfl) rfl (by kernel_rfl) (by kernel_rfl) (by kernel_rfl) (by kernel_rfl) (YI_v (v := .int .i64 (((gbytes bs (0 + sk.toNat) nn).2.1 : Nat) : Int)) rfl (fun w' hw' => r_mv (v := .int .i64 (((gbytes bs (0 + sk.toNat) nn).2.1 : Nat) : Int)) rfl)) ?_
            refine Wt_take (i := 9) (listed' := #[true, true, true, true, true, true, false, true, true, true, false, false, false, false, false, false]) (by kernel_rfl) rfl (by kernel_rfl) (by kernel_rfl) (by kernel_rfl) (by kernel_rfl) (YI_v (v := .slice (if c = ((gbytes bs (0 + sk.toNat) nn).2.1) then a else a.map (·.add (((gbytes bs (0 + sk.toNat) nn).2.1) * 1))) (n - ((gbytes bs (0 + sk.toNat) nn).2.1)) (c - ((gbytes bs (0 + sk.toNat) nn).2.1))) rfl (fun w' hw' => r_slicelen (l' := ((gbytes bs (0 + sk.toNat) nn).2.1)) (n' := n - ((gbytes bs (0 + sk.toNat) nn).2.1)) Try.underlying22 Try.sizeOf5 rfl rfl (by omega) (by omega) (by omega))) ?_
            have hT20 := Sl.cutl (l := ((gbytes bs (0 + sk.toNat) nn).2.1)) (n := n - ((gbytes bs (0 + sk.toNat) nn).2.1)) hb (by omega) (by omega)
            have hl_hT20 := ilen hT20
            have hc_hT20 := hT20.cap.1
            intro w21 hU21
            have hzw21 := hU21.size
            replace hb := hb.upd0 hU21
            replace hq := hq.upd0 hU21
            replace HU := HU.trans0 hU21
            replace hO2 := hO2.upd0 hU21
            replace hO3 := hO3.upd0 hU21
            replace hO4 := hO4.upd0 hU21
            replace hp5 := hp5.upd0 hU21
            replace hO5 := hO5.upd0 hU21
            replace hB6 := hB6.upd0 hU21
            replace hO9 := hO9.upd0 hU21
            replace hO11 := hO11.upd0 hU21
            replace hB5 := hB5.upd0 hU21
            replace hp11 := hp11.upd0 hU21
            replace HL12 := HL12.trans0 hU21
            replace hT20 := hT20.upd0 hU21
            refine Wa_one (i := 6) (listed' := #[true, true, true, true, true, true, true, true, true, true, false, false, false, false, false, false]) (by kernel_rfl) rfl (by kernel_rfl) ?_
            refine Ws_of_Wl ?_
            have hW : Upd No w12 w21 := hU21
            refine Wl_guard_t rfl ?_
            refine Wl_call (r_call1 rfl Try.call25 rfl) (rest_spec _ hp5 (hO3.sl.cur (by intro h1; have h3 : ((w2.heap.size ≤ pb3 ∧ pb3 ≠ pb3) ∧ pb3 < w3.heap.size) := h1; first | omega | simp at h3)) bb (by omega) (by omega)) ?_
            rintro v w22 ⟨a22, c22, rfl, hO22, hU22⟩
            have hzw22 := hU22.size
            replace hb := hb.upd0 hU22
            replace hq := hq.upd0 hU22
            replace HU := HU.trans0 hU22
            replace hO2 := hO2.upd0 hU22
            replace hO3 := hO3.upd0 hU22
            replace hO4 := hO4.upd0 hU22
            replace hp5 := hp5.upd0 hU22
            replace hO5 := hO5.upd0 hU22
            replace hB6 := hB6.upd0 hU22
            replace hO9 := hO9.upd0 hU22
            replace hO11 := hO11.upd0 hU22
            replace hB5 := hB5.upd0 hU22
            replace hp11 := hp11.upd0 hU22
            replace HL12 := HL12.trans0 hU22
            replace hT20 := hT20.upd0 hU22
            try replace hW := hW.trans0 hU22
            replace hO22 := hO22.tight
            have hl_hO22 := ilen hO22.sl
            have hc_hO22 := hO22.sl.cap.1
            refine Wl_nil ?_
            intro w23 hS23
            have hX : Upd No w12 w23 := hW.trans0 hS23.upd
            refine ⟨fun _ => ⟨hX, ?_⟩, fun h => absurd h (by rw [show barOp _ 6 = false from by kernel_rfl]; simp)⟩
            have hU23 := hS23.upd
            have hzw23 := hU23.size
            replace hb := hb.upd0 hU23
            replace hq := hq.upd0 hU23
            replace HU := HU.trans0 hU23
            replace hO2 := hO2.upd0 hU23
            replace hO3 := hO3.upd0 hU23
            replace hO4 := hO4.upd0 hU23
            replace hp5 := hp5.upd0 hU23
            replace hO5 := hO5.upd0 hU23
            replace hB6 := hB6.upd0 hU23
            replace hO9 := hO9.upd0 hU23
            replace hO11 := hO11.upd0 hU23
            replace hB5 := hB5.upd0 hU23
            replace hp11 := hp11.upd0 hU23
            replace HL12 := HL12.trans0 hU23
            replace hT20 := hT20.upd0 hU23
            replace hO22 := hO22.upd0 hU23
            try replace hW := hW.trans0 hU23
            refine Wt_base hX ?_
            refine Wt_take (i := 10) (listed' := #[true, true, true, true, true, true, true, true, true, true, true, false, false, false, false, false]) (by kernel_rfl) rfl (by kernel_rfl) (by kernel_rfl) (by kernel_rfl) (by kernel_rfl) (YI_c (v := .bool (decide ((bs.drop ((gbytes bs (0 + sk.toNat) nn).2.1)) = (bs.drop ((gbytes bs (0 + sk.toNat) nn).2.1))))) rfl (fun w' => r_call2 rfl Try.call13 rfl rfl) (fun w' hw' => same_spec w' ((hO22.upd0 hw').sl.any) ((hT20.upd0 hw').any) (byt_drop bb _) (byt_drop bb _))) ?_
            refine Wt_take (i := 11) (listed' := #[true, true, true, true, true, true, true, true, true, true, true, true, false, false, false, false]) (by kernel_rfl) rfl (by kernel_rfl) (by kernel_rfl) (by kernel_rfl) (by kernel_rfl) (YI_v rfl (fun w' hw' => r_pick_t (v := .bool (decide ((bs.drop ((gbytes bs (0 + sk.toNat) nn).2.1)) = (bs.drop ((gbytes bs (0 + sk.toNat) nn).2.1))))) rfl rfl)) ?_
            refine Wt_take (i := 12) (listed' := #[true, true, true, true, true, true, true, true, true, true, true, true, true, false, false, false]) (by kernel_rfl) rfl (by kernel_rfl) (by kernel_rfl) (by kernel_rfl) (by kernel_rfl) (YI_v (v := .bool (decide ((bs.drop ((gbytes bs (0 + sk.toNat) nn).2.1)) = (bs.drop ((gbytes bs (0 + sk.toNat) nn).2.1))))) rfl (fun w' hw' => r_mv (v := .bool (decide ((bs.drop ((gbytes bs (0 + sk.toNat) nn).2.1)) = (bs.drop ((gbytes bs (0 + sk.toNat) nn).2.1))))) rfl)) ?_
            have q14 : (bs.drop ((gbytes bs (0 + sk.toNat) nn).2.1)) = (bs.drop ((gbytes bs (0 + sk.toNat) nn).2.1)) := rfl
            rw [decide_eq_true q14]
            refine Wt_take (i := 13) (listed' := #[true, true, true, true, true, true, true, true, true, true, true, true, true, true, false, false]) (by kernel_rfl) rfl (by kernel_rfl) (by kernel_rfl) (by kernel_rfl) (by kernel_rfl) (YI_c (v := .bool true) rfl (fun w' => r_call0 rfl Try.call19 ) (fun w' hw' => known_spec w' )) ?_
            refine Wt_take (i := 14) (listed' := #[true, true, true, true, true, true, true, true, true, true, true, true, true, true, true, false]) (by kernel_rfl) rfl (by kernel_rfl) (by kernel_rfl) (by kernel_rfl) (by kernel_rfl) (YI_v rfl (fun w' hw' => r_pick_t (v := .bool true) rfl rfl)) ?_
            refine Wt_take (i := 15) (listed' := #[true, true, true, true, true, true, true, true, true, true, true, true, true, true, true, true]) (by kernel_rfl) rfl (by kernel_rfl) (by kernel_rfl) (by kernel_rfl) (by kernel_rfl) (YI_v (v := .bool true) rfl (fun w' hw' => r_as (v := .bool true) rfl)) ?_
            intro w24 hU24
            have hzw24 := hU24.size
            replace hb := hb.upd0 hU24
            replace hq := hq.upd0 hU24
            replace HU := HU.trans0 hU24
            replace hO2 := hO2.upd0 hU24
            replace hO3 := hO3.upd0 hU24
            replace hO4 := hO4.upd0 hU24
            replace hp5 := hp5.upd0 hU24
            replace hO5 := hO5.upd0 hU24
            replace hB6 := hB6.upd0 hU24
            replace hO9 := hO9.upd0 hU24
            replace hO11 := hO11.upd0 hU24
            replace hB5 := hB5.upd0 hU24
            replace hp11 := hp11.upd0 hU24
            replace HL12 := HL12.trans0 hU24
            replace hT20 := hT20.upd0 hU24
            replace hO22 := hO22.upd0 hU24
            try replace hW := hW.trans0 hU24
            refine Wa_done (by kernel_rfl) ?_
            refine W_ret ?_
            refine ret_end (v := .bool true) rfl (res1 Try.results11 rfl) ?_
            exact ⟨_, rfl, rfl, HU⟩
        · refine Wl_call (r_call2 rfl Try.call33 rfl rfl) (csub_no _ hp4 (hO3.sl.cur (by intro h1; have h3 : ((w2.heap.size ≤ pb3 ∧ pb3 ≠ pb3) ∧ pb3 < w3.heap.size) := h1; first | omega | simp at h3)) bb (by omega) (by omega) q4) ?_
          rintro v w25 ⟨rfl, hp25, hU25⟩
          have hzw25 := hU25.size
          replace hb := hb.upd1 hU25 (by intro h1; have h3 : pb3 < w.heap.size := h1; omega)
          replace hq := hq.upd1 hU25 (by intro h1; have h3 : pb3 < w.heap.size := h1; omega)
          replace HU := HU.trans1 hU25 (by show (False) ∨ w.heap.size ≤ pb3; omega)
          replace hO2 := hO2.upd1 hU25 (by intro h1; have h3 : ((w.heap.size ≤ pb3) ∧ pb3 < w2.heap.size) := h1; omega)
          replace hO3 := hO3.upd1 hU25 (by intro h1; have h3 : ((w2.heap.size ≤ pb3 ∧ pb3 ≠ pb3) ∧ pb3 < w3.heap.size) := h1; omega)
          replace hO4 := hO4.upd1 hU25 (by intro h1; have h3 : ((w3.heap.size ≤ pb3) ∧ pb3 < w4.heap.size) := h1; omega)
          have hbl_hp25 := hp25.lt
          refine Wl_v (r_mv (v := .tuple #[.pointer none, .int .i64 ((gbytes bs (0 + sk.toNat) nn).2.2)]) rfl) ?_
          refine Wl_v (r_ext (v := .pointer none) rfl rfl) ?_
          refine Wl_v (r_ext (v := .int .i64 ((gbytes bs (0 + sk.toNat) nn).2.2)) rfl rfl) ?_
          refine Wl_v (r_as (v := .pointer none) rfl) ?_
          refine Wl_v (r_as (v := .int .i64 ((gbytes bs (0 + sk.toNat) nn).2.2)) rfl) ?_
          refine Wl_nil ?_
          refine W_seq ?_
          refine W_region ?_
          refine Wl_v (r_mv (v := .slice a n c) rfl) ?_
          refine Wl_v (r_mv (v := .int .i64 sk) rfl) ?_
          refine Wl_v (r_mv (v := .int .i64 nn) rfl) ?_
          refine Wl_call (r_call3 rfl Try.call34 (v1 := .int .i64 ((0 + sk.toNat : Nat) : Int)) rfl (Eq.trans (b := .int .i64 sk) rfl (vint (by omega))) rfl) (rbytes_spec _ hb bb (by omega) (by omega)) ?_
          rintro v w26 ⟨a26, m26, c26, rfl, hB26, hm_26, hU26⟩
          have hzw26 := hU26.size
          replace hb := hb.upd0 hU26
          replace hq := hq.upd0 hU26
          replace HU := HU.trans0 hU26
          replace hO2 := hO2.upd0 hU26
          replace hO3 := hO3.upd0 hU26
          replace hO4 := hO4.upd0 hU26
          replace hp25 := hp25.upd0 hU26
          have hl_hB26 := ilen hB26
          have hc_hB26 := hB26.cap.1
          refine Wl_v (r_mv (v := .tuple #[.slice a26 m26 c26, .int .i64 (((gbytes bs (0 + sk.toNat) nn).2.1 : Nat) : Int), .int .i64 ((gbytes bs (0 + sk.toNat) nn).2.2)]) rfl) ?_
          refine Wl_v (r_ext (v := .slice a26 m26 c26) rfl rfl) ?_
          refine Wl_v (r_ext (v := .int .i64 (((gbytes bs (0 + sk.toNat) nn).2.1 : Nat) : Int)) rfl rfl) ?_
          refine Wl_v (r_ext (v := .int .i64 ((gbytes bs (0 + sk.toNat) nn).2.2)) rfl rfl) ?_
          refine Wl_v (r_as (v := .slice a26 m26 c26) rfl) ?_
          refine Wl_v (r_as (v := .int .i64 (((gbytes bs (0 + sk.toNat) nn).2.1 : Nat) : Int)) rfl) ?_
          refine Wl_v (r_as (v := .int .i64 ((gbytes bs (0 + sk.toNat) nn).2.2)) rfl) ?_
          refine Wl_nil ?_
          refine W_seq ?_
          refine W_seq ?_
          refine W_region ?_
          refine Wl_v (r_mv (v := .int .i64 ((gbytes bs (0 + sk.toNat) nn).2.2)) rfl) ?_
          refine Wl_v (r_ne rfl rfl) ?_
          refine Wl_nil ?_
          have q15 : ((gbytes bs (0 + sk.toNat) nn).2.2) ≠ 0 := q4
          rw [decide_eq_true q15]
          refine W_cond_t rfl ?_
          refine W_seq ?_
          refine W_region ?_
          refine Wl_v (r_mv (v := .int .i64 ((gbytes bs (0 + sk.toNat) nn).2.2)) rfl) ?_
          refine Wl_v (r_mv (v := .int .i64 ((gbytes bs (0 + sk.toNat) nn).2.2)) rfl) ?_
          refine Wl_v (r_eq rfl rfl) ?_
          refine Wl_v (r_mv (v := .bool (decide (((gbytes bs (0 + sk.toNat) nn).2.2) = ((gbytes bs (0 + sk.toNat) nn).2.2)))) rfl) ?_
          have q16 : ((gbytes bs (0 + sk.toNat) nn).2.2) = ((gbytes bs (0 + sk.toNat) nn).2.2) := rfl
          rw [decide_eq_true q16]
          refine Wl_guard_t rfl ?_
          refine Wl_v (r_mv (v := .pointer none) rfl) ?_
          refine Wl_guard_t rfl ?_
          refine Wl_v (r_eqpn_n Try.underlying38 rfl rfl) ?_
          refine Wl_v (r_pick_t (v := .bool true) rfl rfl) ?_
          refine Wl_v (r_mv (v := .bool true) rfl) ?_
          refine Wl_guard_t rfl ?_
          refine Wl_v (r_mv (v := .pointer (some ⟨pb3, 0, none⟩)) rfl) ?_
          refine Wl_guard_t rfl ?_
          refine Wl_call (r_call1 rfl Try.call24 rfl) (at_spec _ hp25 (by omega) (by omega) (by omega)) ?_
          rintro v w27 ⟨rfl, hU27⟩
          have hzw27 := hU27.size
          replace hb := hb.upd0 hU27
          replace hq := hq.upd0 hU27
          replace HU := HU.trans0 hU27
          replace hO2 := hO2.upd0 hU27
          replace hO3 := hO3.upd0 hU27
          replace hO4 := hO4.upd0 hU27
          replace hp25 := hp25.upd0 hU27
          replace hB26 := hB26.upd0 hU27
          refine Wl_guard_t rfl ?_
          refine Wl_v (r_mv (v := .int .i64 sk) rfl) ?_
          refine Wl_guard_t rfl ?_
          refine Wl_v (r_eq rfl rfl) ?_
          refine Wl_v (r_pick_t (v := .bool (decide ((((0 + sk.toNat) : Nat) : Int) = sk))) rfl rfl) ?_
          refine Wl_v (r_mv (v := .bool (decide ((((0 + sk.toNat) : Nat) : Int) = sk))) rfl) ?_
          have q17 : (((0 + sk.toNat) : Nat) : Int) = sk := (by omega)
          rw [decide_eq_true q17]
          refine Wl_guard_t rfl ?_
          refine Wl_call (r_call0 rfl Try.call19 ) (known_spec _ ) ?_
          rintro v w28 ⟨rfl, hU28⟩
          have hzw28 := hU28.size
          replace hb := hb.upd0 hU28
          replace hq := hq.upd0 hU28
          replace HU := HU.trans0 hU28
          replace hO2 := hO2.upd0 hU28
          replace hO3 := hO3.upd0 hU28
          replace hO4 := hO4.upd0 hU28
          replace hp25 := hp25.upd0 hU28
          replace hB26 := hB26.upd0 hU28
          refine Wl_v (r_pick_t (v := .bool true) rfl rfl) ?_
          refine Wl_v (r_as (v := .bool true) rfl) ?_
          refine Wl_nil ?_
          refine W_ret ?_
          refine ret_end (v := .bool true) rfl (res1 Try.results11 rfl) ?_
          exact ⟨_, rfl, rfl, HU⟩
      · rw [decide_eq_false q3]
        refine W_cond_f rfl ?_
        refine W_skip ?_
        refine W_seq ?_
        refine W_region ?_
        refine Wl_v (r_mv (v := .pointer (some ⟨pb3, 0, none⟩)) rfl) ?_
        refine Wl_v (r_mv (v := .int .i64 nn) rfl) ?_
        by_cases q18 : (gbytes bs (0) nn).2.2 = 0
        · refine Wl_call (r_call2 rfl Try.call33 rfl rfl) (csub_ok (p := 0) _ hp3 (hO3.sl.cur (by intro h1; have h3 : ((w2.heap.size ≤ pb3 ∧ pb3 ≠ pb3) ∧ pb3 < w3.heap.size) := h1; first | omega | simp at h3)) bb (by omega) (by omega) q18) ?_
          rintro v w29 ⟨B29, a29, m29, c29, rfl, hp29, hB29, hO29, hm_29, hBg_29, hU29⟩
          have hzw29 := hU29.size
          replace hb := hb.upd1 hU29 (by intro h1; have h3 : pb3 < w.heap.size := h1; omega)
          replace hq := hq.upd1 hU29 (by intro h1; have h3 : pb3 < w.heap.size := h1; omega)
          replace HU := HU.trans1 hU29 (by show (False) ∨ w.heap.size ≤ pb3; omega)
          replace hO2 := hO2.upd1 hU29 (by intro h1; have h3 : ((w.heap.size ≤ pb3) ∧ pb3 < w2.heap.size) := h1; omega)
          replace hO3 := hO3.upd1 hU29 (by intro h1; have h3 : ((w2.heap.size ≤ pb3 ∧ pb3 ≠ pb3) ∧ pb3 < w3.heap.size) := h1; omega)
          have hbl_hp29 := hp29.lt
          have hbl_hB29 := hB29.lt
          replace hO29 := hO29.tight
          have hl_hO29 := ilen hO29.sl
          have hc_hO29 := hO29.sl.cap.1
          have hgl := gbytes_len2 (bs := bs) (p := 0) (k := nn)
          have hgq := gbytes_props (bs := bs) (p := 0) (k := nn) (by omega)
          refine Wl_v (r_mv (v := .tuple #[.pointer (some ⟨B29, 0, none⟩), .int .i64 0]) rfl) ?_
          refine Wl_v (r_ext (v := .pointer (some ⟨B29, 0, none⟩)) rfl rfl) ?_
          refine Wl_v (r_ext (v := .int .i64 0) rfl rfl) ?_
          refine Wl_v (r_as (v := .pointer (some ⟨B29, 0, none⟩)) rfl) ?_
          refine Wl_v (r_as (v := .int .i64 0) rfl) ?_
          refine Wl_nil ?_
          refine W_seq ?_
          refine W_region ?_
          refine Wl_v (r_mv (v := .slice a n c) rfl) ?_
          refine Wl_v (r_mv (v := .int .i64 0) rfl) ?_
          refine Wl_v (r_mv (v := .int .i64 nn) rfl) ?_
          refine Wl_call (r_call3 rfl Try.call34 rfl rfl rfl) (rbytes_spec (p := 0) _ hb bb (by omega) (by omega)) ?_
          rintro v w30 ⟨a30, m30, c30, rfl, hB30, hm_30, hU30⟩
          have hzw30 := hU30.size
          replace hb := hb.upd0 hU30
          replace hq := hq.upd0 hU30
          replace HU := HU.trans0 hU30
          replace hO2 := hO2.upd0 hU30
          replace hO3 := hO3.upd0 hU30
          replace hp29 := hp29.upd0 hU30
          replace hB29 := hB29.upd0 hU30
          replace hO29 := hO29.upd0 hU30
          have hl_hB30 := ilen hB30
          have hc_hB30 := hB30.cap.1
          refine Wl_v (r_mv (v := .tuple #[.slice a30 m30 c30, .int .i64 (((gbytes bs 0 nn).2.1 : Nat) : Int), .int .i64 ((gbytes bs 0 nn).2.2)]) rfl) ?_
          refine Wl_v (r_ext (v := .slice a30 m30 c30) rfl rfl) ?_
          refine Wl_v (r_ext (v := .int .i64 (((gbytes bs 0 nn).2.1 : Nat) : Int)) rfl rfl) ?_
          refine Wl_v (r_ext (v := .int .i64 ((gbytes bs 0 nn).2.2)) rfl rfl) ?_
          refine Wl_v (r_as (v := .slice a30 m30 c30) rfl) ?_
          refine Wl_v (r_as (v := .int .i64 (((gbytes bs 0 nn).2.1 : Nat) : Int)) rfl) ?_
          refine Wl_v (r_as (v := .int .i64 ((gbytes bs 0 nn).2.2)) rfl) ?_
          refine Wl_nil ?_
          refine W_seq ?_
          refine W_seq ?_
          refine W_region ?_
          refine Wl_v (r_mv (v := .int .i64 ((gbytes bs 0 nn).2.2)) rfl) ?_
          refine Wl_v (r_ne rfl rfl) ?_
          refine Wl_nil ?_
          have q19 : ¬ (((gbytes bs 0 nn).2.2) ≠ 0) := (fun h2 => h2 q18)
          rw [decide_eq_false q19]
          refine W_cond_f rfl ?_
          refine W_skip ?_
          refine W_seq ?_
          refine W_seq ?_
          refine W_region ?_
          refine Wl_v (r_mv (v := .int .i64 0) rfl) ?_
          refine Wl_v (v := .bool false) (r_ne (a := 0) (b := 0) rfl rfl) ?_
          refine Wl_v (r_mv (v := .bool false) rfl) ?_
          refine Wl_guard_t rfl ?_
          refine Wl_v (r_mv (v := .pointer (some ⟨B29, 0, none⟩)) rfl) ?_
          refine Wl_guard_t rfl ?_
          refine Wl_v (r_eqpn_s Try.underlying38 rfl rfl) ?_
          refine Wl_v (r_pick_f (v := .bool false) rfl rfl) ?_
          refine Wl_v (r_mv (v := .bool false) rfl) ?_
          refine Wl_guard_t rfl ?_
          refine Wl_v (r_mv (v := .pointer (some ⟨pb3, 0, none⟩)) rfl) ?_
          refine Wl_guard_t rfl ?_
          refine Wl_call (r_call1 rfl Try.call24 rfl) (at_spec _ hp29 (by omega) (by omega) (by omega)) ?_
          rintro v w31 ⟨rfl, hU31⟩
          have hzw31 := hU31.size
          replace hb := hb.upd0 hU31
          replace hq := hq.upd0 hU31
          replace HU := HU.trans0 hU31
          replace hO2 := hO2.upd0 hU31
          replace hO3 := hO3.upd0 hU31
          replace hp29 := hp29.upd0 hU31
          replace hB29 := hB29.upd0 hU31
          replace hO29 := hO29.upd0 hU31
          replace hB30 := hB30.upd0 hU31
          refine Wl_guard_t rfl ?_
          refine Wl_v (r_mv (v := .int .i64 (((gbytes bs 0 nn).2.1 : Nat) : Int)) rfl) ?_
          refine Wl_guard_t rfl ?_
          refine Wl_v (r_ne rfl rfl) ?_
          refine Wl_v (r_pick_f (v := .bool (decide ((((gbytes bs 0 nn).2.1 : Nat) : Int) ≠ (((gbytes bs 0 nn).2.1 : Nat) : Int)))) rfl rfl) ?_
          refine Wl_v (r_mv (v := .bool (decide ((((gbytes bs 0 nn).2.1 : Nat) : Int) ≠ (((gbytes bs 0 nn).2.1 : Nat) : Int)))) rfl) ?_
          have q20 : ¬ ((((gbytes bs 0 nn).2.1 : Nat) : Int) ≠ (((gbytes bs 0 nn).2.1 : Nat) : Int)) := (fun h => h rfl)
          rw [decide_eq_false q20]
          refine Wl_guard_t rfl ?_
          refine Wl_v (r_mv (v := .pointer (some ⟨B29, 0, none⟩)) rfl) ?_
          refine Wl_guard_t rfl ?_
          refine Wl_call (r_call1 rfl Try.call24 rfl) (at_spec _ hB29 (by omega) (by omega) (by omega)) ?_
          rintro v w32 ⟨rfl, hU32⟩
          have hzw32 := hU32.size
          replace hb := hb.upd0 hU32
          replace hq := hq.upd0 hU32
          replace HU := HU.trans0 hU32
          replace hO2 := hO2.upd0 hU32
          replace hO3 := hO3.upd0 hU32
          replace hp29 := hp29.upd0 hU32
          replace hB29 := hB29.upd0 hU32
          replace hO29 := hO29.upd0 hU32
          replace hB30 := hB30.upd0 hU32
          refine Wl_guard_t rfl ?_
          refine Wl_v (v := .bool false) (r_ne (a := 0) (b := 0) rfl rfl) ?_
          refine Wl_v (r_pick_f (v := .bool false) rfl rfl) ?_
          refine Wl_v (r_mv (v := .bool false) rfl) ?_
          refine Wl_guard_t rfl ?_
          refine Wl_v (r_mv (v := .pointer (some ⟨B29, 0, none⟩)) rfl) ?_
          refine Wl_guard_t rfl ?_
          refine Wl_call (r_call1 rfl Try.call25 rfl) (rest_spec (p := 0) _ hB29 (hO29.sl.cur (by intro h1; have h3 : ((w3.heap.size ≤ B29 ∧ B29 ≠ B29) ∧ B29 < w29.heap.size) := h1; first | omega | simp at h3)) (gbytes_byt bb) (by omega) (by omega)) ?_
          rintro v w33 ⟨a33, c33, rfl, hO33, hU33⟩
          have hzw33 := hU33.size
          replace hb := hb.upd0 hU33
          replace hq := hq.upd0 hU33
          replace HU := HU.trans0 hU33
          replace hO2 := hO2.upd0 hU33
          replace hO3 := hO3.upd0 hU33
          replace hp29 := hp29.upd0 hU33
          replace hB29 := hB29.upd0 hU33
          replace hO29 := hO29.upd0 hU33
          replace hB30 := hB30.upd0 hU33
          replace hO33 := hO33.tight
          have hl_hO33 := ilen hO33.sl
          have hc_hO33 := hO33.sl.cap.1
          refine Wl_guard_t rfl ?_
          refine Wl_v (r_mv (v := .slice a30 m30 c30) rfl) ?_
          refine Wl_guard_t rfl ?_
          refine Wl_call (r_call2 rfl Try.call13 rfl rfl) (same_spec _ hO33.sl.any hB30.any (byt_drop (gbytes_byt bb) _) (gbytes_byt bb)) ?_
          rintro v w34 ⟨rfl, hU34⟩
          have hzw34 := hU34.size
          replace hb := hb.upd0 hU34
          replace hq := hq.upd0 hU34
          replace HU := HU.trans0 hU34
          replace hO2 := hO2.upd0 hU34
          replace hO3 := hO3.upd0 hU34
          replace hp29 := hp29.upd0 hU34
          replace hB29 := hB29.upd0 hU34
          replace hO29 := hO29.upd0 hU34
          replace hB30 := hB30.upd0 hU34
          replace hO33 := hO33.upd0 hU34
          refine Wl_guard_t rfl ?_
          refine Wl_v (r_not rfl) ?_
          refine Wl_v (r_pick_f (v := .bool (!decide ((((gbytes bs 0 nn).1).drop 0) = ((gbytes bs 0 nn).1)))) rfl rfl) ?_
          refine Wl_nil ?_
          have q21 : (((gbytes bs 0 nn).1).drop 0) = ((gbytes bs 0 nn).1) := rfl
          rw [decide_eq_true q21]
          simp only [Bool.not_true, Bool.not_false]
          refine W_cond_f rfl ?_
          refine W_skip ?_
          refine W_seq ?_
          refine W_region ?_
          refine Wl_v (r_mv (v := .slice a30 m30 c30) rfl) ?_
          refine Wl_call (r_call1 rfl Try.call21 rfl) (new_spec _ hB30.any (by omega)) ?_
          rintro v w35 ⟨pb35, a35, c35, rfl, hp35, hO35, hpg_35, hU35⟩
          have hzw35 := hU35.size
          replace hb := hb.upd0 hU35
          replace hq := hq.upd0 hU35
          replace HU := HU.trans0 hU35
          replace hO2 := hO2.upd0 hU35
          replace hO3 := hO3.upd0 hU35
          replace hp29 := hp29.upd0 hU35
          replace hB29 := hB29.upd0 hU35
          replace hO29 := hO29.upd0 hU35
          replace hB30 := hB30.upd0 hU35
          replace hO33 := hO33.upd0 hU35
          have hbl_hp35 := hp35.lt
          replace hO35 := hO35.tight
          have hl_hO35 := ilen hO35.sl
          have hc_hO35 := hO35.sl.cap.1
          refine Wl_v (r_as (v := .pointer (some ⟨pb35, 0, none⟩)) rfl) ?_
          refine Wl_nil ?_
          refine W_seq ?_
          refine W_seq ?_
          refine W_region ?_
          refine Wl_v (r_as (v := .int .i64 0) rfl) ?_
          refine Wl_nil ?_
          refine W_block ?_
          refine W_loop (fun mu ρ ds w' => ∃ (k p : Nat), m - k = mu ∧ ds = [] ∧ Liv ρ [(0, .slice a n c), (3, .slice aq m cq), (9, .pointer (some ⟨pb3, 0, none⟩)), (11, .pointer (some ⟨B29, 0, none⟩)), (14, .int .i64 (((gbytes bs 0 nn).2.1 : Nat) : Int)), (16, .pointer (some ⟨pb35, 0, none⟩)), (17, .int .i64 ((k : Nat) : Int))] ∧ k ≤ m ∧ p ≤ m29 ∧ Blk w' B29 [.slice a29 m29 c29, .int .i64 ((p : Nat) : Int)] ∧ Blk w' pb35 [.slice a35 m30 c35, .int .i64 ((p : Nat) : Int)] ∧ Upd (fun g => g = B29 ∨ g = pb35) w35 w') _ ⟨0, 0, rfl, rfl, ⟨rfl, rfl, rfl, rfl, rfl, rfl, (by first | rfl | exact vint (by omega) | exact vint (by simp)), trivial⟩, (by omega), (by omega), hB29, hp35, Upd.refl _ _⟩ ?_
          rintro m36 ρ36 ds36 w36 ⟨k, p, rfl, rfl, hl36, hkm, hpn, hB29, hp35, hU36⟩
          obtain ⟨ρ36x, rfl⟩ : ∃ ρx, ρ36 = upds ρx [(0, .slice a n c), (3, .slice aq m cq), (9, .pointer (some ⟨pb3, 0, none⟩)), (11, .pointer (some ⟨B29, 0, none⟩)), (14, .int .i64 (((gbytes bs 0 nn).2.1 : Nat) : Int)), (16, .pointer (some ⟨pb35, 0, none⟩)), (17, .int .i64 ((k : Nat) : Int))] := ⟨_, upds_self hl36⟩
          clear hl36
          have hzw36 := hU36.size
          replace hb := hb.upd hU36 (by intro x h1 h2; have h3 : x < w.heap.size := h1; have h4 : x = B29 ∨ x = pb35 := h2; omega)
          replace hq := hq.upd hU36 (by intro x h1 h2; have h3 : x < w.heap.size := h1; have h4 : x = B29 ∨ x = pb35 := h2; omega)
          replace HU := HU.trans hU36 (by intro x hx; have hx2 : x = B29 ∨ x = pb35 := hx; show (False) ∨ w.heap.size ≤ x; omega)
          replace hO2 := hO2.upd hU36 (by intro x h1 h2; have h3 : ((w.heap.size ≤ x) ∧ x < w2.heap.size) := h1; have h4 : x = B29 ∨ x = pb35 := h2; omega)
          replace hO3 := hO3.upd hU36 (by intro x h1 h2; have h3 : ((w2.heap.size ≤ x ∧ x ≠ pb3) ∧ x < w3.heap.size) := h1; have h4 : x = B29 ∨ x = pb35 := h2; omega)
          replace hp29 := hp29.upd hU36 (by intro hx; have hx2 : pb3 = B29 ∨ pb3 = pb35 := hx; omega)
          replace hO29 := hO29.upd hU36 (by intro x h1 h2; have h3 : ((w3.heap.size ≤ x ∧ x ≠ B29) ∧ x < w29.heap.size) := h1; have h4 : x = B29 ∨ x = pb35 := h2; omega)
          replace hB30 := hB30.upd hU36 (by intro x h1 h2; have h3 : x < w.heap.size := h1; have h4 : x = B29 ∨ x = pb35 := h2; omega)
          replace hO33 := hO33.upd hU36 (by intro x h1 h2; have h3 : ((w32.heap.size ≤ x) ∧ x < w33.heap.size) := h1; have h4 : x = B29 ∨ x = pb35 := h2; omega)
          replace hO35 := hO35.upd hU36 (by intro x h1 h2; have h3 : ((w34.heap.size ≤ x ∧ x ≠ pb35) ∧ x < w35.heap.size) := h1; have h4 : x = B29 ∨ x = pb35 := h2; omega)
          have HL36 := hU36
          refine W_seq ?_
          refine W_seq ?_
          refine W_region ?_
          refine Wl_v (r_mv (v := .int .i64 ((k : Nat) : Int)) rfl) ?_
          refine Wl_v (r_mv (v := .slice aq m cq) rfl) ?_
          refine Wl_v (r_len Try.underlying52 rfl) ?_
          refine Wl_v (r_lt rfl rfl) ?_
          refine Wl_nil ?_
          by_cases q22 : ((k : Nat) : Int) < ((m : Nat) : Int)
          · have hck := hcl.at k
            have hle := stp_le (gbytes_byt (k := nn) (p := 0) bb) (p := p) (by omega) (cl.getD k (0, 0)).1 (cl.getD k (0, 0)).2
            rw [decide_eq_true q22]
            refine W_cond_t rfl ?_
            refine W_skip ?_
            refine W_seq ?_
            refine W_block ?_
            refine W_seq ?_
            refine W_region ?_
            refine Wl_v (r_mv (v := .pointer (some ⟨B29, 0, none⟩)) rfl) ?_
            refine Wl_v (r_mv (v := .slice aq m cq) rfl) ?_
            refine Wl_v (r_mv (v := .int .i64 ((k : Nat) : Int)) rfl) ?_
            refine Wl_idxr (0, 0) encCall_len (by decide) Try.underlying52 Try.sizeOf56 rfl rfl hq (by omega) (by omega) ?_
            intro ib37 io37 hc37
            try rw [Int.toNat_natCast] at hc37
            refine Wl_v (r_loada (cs := [.int .i64 ((cl.getD k (0, 0)).1), .int .i64 ((cl.getD k (0, 0)).2)]) Try.isAgg56 Try.sizeOf56 rfl rfl hc37) ?_
            refine Wl_call (r_call2 rfl Try.call31 rfl rfl) (ask_spec _ hB29 (hO29.sl.cur (by intro h1; have h3 : ((w3.heap.size ≤ B29 ∧ B29 ≠ B29) ∧ B29 < w29.heap.size) := h1; first | omega | simp at h3)) (gbytes_byt bb) (by omega) (by omega) (by omega)) ?_
            rintro v w38 ⟨a38, m38, c38, rfl, hp38, hO38, hm_38, hU38⟩
            have hzw38 := hU38.size
            replace hb := hb.upd1 hU38 (by intro h1; have h3 : B29 < w.heap.size := h1; omega)
            replace hq := hq.upd1 hU38 (by intro h1; have h3 : B29 < w.heap.size := h1; omega)
            replace HU := HU.trans1 hU38 (by show (False) ∨ w.heap.size ≤ B29; omega)
            replace hO2 := hO2.upd1 hU38 (by intro h1; have h3 : ((w.heap.size ≤ B29) ∧ B29 < w2.heap.size) := h1; omega)
            replace hO3 := hO3.upd1 hU38 (by intro h1; have h3 : ((w2.heap.size ≤ B29 ∧ B29 ≠ pb3) ∧ B29 < w3.heap.size) := h1; omega)
            replace hp29 := hp29.upd1 hU38 (by omega)
            replace hO29 := hO29.upd1 hU38 (by intro h1; have h3 : ((w3.heap.size ≤ B29 ∧ B29 ≠ B29) ∧ B29 < w29.heap.size) := h1; omega)
            replace hB30 := hB30.upd1 hU38 (by intro h1; have h3 : B29 < w.heap.size := h1; omega)
            replace hO33 := hO33.upd1 hU38 (by intro h1; have h3 : ((w32.heap.size ≤ B29) ∧ B29 < w33.heap.size) := h1; omega)
            replace hO35 := hO35.upd1 hU38 (by intro h1; have h3 : ((w34.heap.size ≤ B29 ∧ B29 ≠ pb35) ∧ B29 < w35.heap.size) := h1; omega)
            replace hp35 := hp35.upd1 hU38 (by omega)
            replace HL36 := HL36.trans1 hU38 (by show (B29 = B29 ∨ B29 = pb35) ∨ w35.heap.size ≤ B29; omega)
            have hbl_hp38 := hp38.lt
            replace hO38 := hO38.tight
            have hl_hO38 := ilen hO38.sl
            have hc_hO38 := hO38.sl.cap.1
            refine Wl_v (r_mv (v := .tuple #[.int .u64 ((stp ((gbytes bs 0 nn).1) p ((cl.getD k (0, 0)).1) ((cl.getD k (0, 0)).2)).1), .slice a38 m38 c38, .int .i64 ((stp ((gbytes bs 0 nn).1) p ((cl.getD k (0, 0)).1) ((cl.getD k (0, 0)).2)).2.2.2)]) rfl) ?_
            refine Wl_v (r_ext (v := .int .u64 ((stp ((gbytes bs 0 nn).1) p ((cl.getD k (0, 0)).1) ((cl.getD k (0, 0)).2)).1)) rfl rfl) ?_
            refine Wl_v (r_ext (v := .slice a38 m38 c38) rfl rfl) ?_
            refine Wl_v (r_ext (v := .int .i64 ((stp ((gbytes bs 0 nn).1) p ((cl.getD k (0, 0)).1) ((cl.getD k (0, 0)).2)).2.2.2)) rfl rfl) ?_
            refine Wl_v (r_as (v := .int .u64 ((stp ((gbytes bs 0 nn).1) p ((cl.getD k (0, 0)).1) ((cl.getD k (0, 0)).2)).1)) rfl) ?_
            refine Wl_v (r_as (v := .slice a38 m38 c38) rfl) ?_
            refine Wl_v (r_as (v := .int .i64 ((stp ((gbytes bs 0 nn).1) p ((cl.getD k (0, 0)).1) ((cl.getD k (0, 0)).2)).2.2.2)) rfl) ?_
            refine Wl_nil ?_
            refine W_seq ?_
            refine W_region ?_
            refine Wl_v (r_mv (v := .pointer (some ⟨pb35, 0, none⟩)) rfl) ?_
            refine Wl_v (r_mv (v := .slice aq m cq) rfl) ?_
            refine Wl_v (r_mv (v := .int .i64 ((k : Nat) : Int)) rfl) ?_
            refine Wl_idxr (0, 0) encCall_len (by decide) Try.underlying52 Try.sizeOf56 rfl rfl hq (by omega) (by omega) ?_
            intro ib39 io39 hc39
            try rw [Int.toNat_natCast] at hc39
            refine Wl_v (r_loada (cs := [.int .i64 ((cl.getD k (0, 0)).1), .int .i64 ((cl.getD k (0, 0)).2)]) Try.isAgg56 Try.sizeOf56 rfl rfl hc39) ?_
            refine Wl_call (r_call2 rfl Try.call31 rfl rfl) (ask_spec _ hp35 (hO35.sl.cur (by intro h1; have h3 : ((w34.heap.size ≤ pb35 ∧ pb35 ≠ pb35) ∧ pb35 < w35.heap.size) := h1; first | omega | simp at h3)) (gbytes_byt bb) (by omega) (by omega) (by omega)) ?_
            rintro v w40 ⟨a40, m40, c40, rfl, hp40, hO40, hm_40, hU40⟩
            have hzw40 := hU40.size
            replace hb := hb.upd1 hU40 (by intro h1; have h3 : pb35 < w.heap.size := h1; omega)
            replace hq := hq.upd1 hU40 (by intro h1; have h3 : pb35 < w.heap.size := h1; omega)
            replace HU := HU.trans1 hU40 (by show (False) ∨ w.heap.size ≤ pb35; omega)
            replace hO2 := hO2.upd1 hU40 (by intro h1; have h3 : ((w.heap.size ≤ pb35) ∧ pb35 < w2.heap.size) := h1; omega)
            replace hO3 := hO3.upd1 hU40 (by intro h1; have h3 : ((w2.heap.size ≤ pb35 ∧ pb35 ≠ pb3) ∧ pb35 < w3.heap.size) := h1; omega)
            replace hp29 := hp29.upd1 hU40 (by omega)
            replace hO29 := hO29.upd1 hU40 (by intro h1; have h3 : ((w3.heap.size ≤ pb35 ∧ pb35 ≠ B29) ∧ pb35 < w29.heap.size) := h1; omega)
            replace hB30 := hB30.upd1 hU40 (by intro h1; have h3 : pb35 < w.heap.size := h1; omega)
            replace hO33 := hO33.upd1 hU40 (by intro h1; have h3 : ((w32.heap.size ≤ pb35) ∧ pb35 < w33.heap.size) := h1; omega)
            replace hO35 := hO35.upd1 hU40 (by intro h1; have h3 : ((w34.heap.size ≤ pb35 ∧ pb35 ≠ pb35) ∧ pb35 < w35.heap.size) := h1; omega)
            replace HL36 := HL36.trans1 hU40 (by show (pb35 = B29 ∨ pb35 = pb35) ∨ w35.heap.size ≤ pb35; omega)
            replace hp38 := hp38.upd1 hU40 (by omega)
            replace hO38 := hO38.upd1 hU40 (by intro h1; have h3 : ((w36.heap.size ≤ pb35) ∧ pb35 < w38.heap.size) := h1; omega)
            have hbl_hp40 := hp40.lt
            replace hO40 := hO40.tight
            have hl_hO40 := ilen hO40.sl
            have hc_hO40 := hO40.sl.cap.1
            refine Wl_v (r_mv (v := .tuple #[.int .u64 ((stp ((gbytes bs 0 nn).1) p ((cl.getD k (0, 0)).1) ((cl.getD k (0, 0)).2)).1), .slice a40 m40 c40, .int .i64 ((stp ((gbytes bs 0 nn).1) p ((cl.getD k (0, 0)).1) ((cl.getD k (0, 0)).2)).2.2.2)]) rfl) ?_
            refine Wl_v (r_ext (v := .int .u64 ((stp ((gbytes bs 0 nn).1) p ((cl.getD k (0, 0)).1) ((cl.getD k (0, 0)).2)).1)) rfl rfl) ?_
            refine Wl_v (r_ext (v := .slice a40 m40 c40) rfl rfl) ?_
            refine Wl_v (r_ext (v := .int .i64 ((stp ((gbytes bs 0 nn).1) p ((cl.getD k (0, 0)).1) ((cl.getD k (0, 0)).2)).2.2.2)) rfl rfl) ?_
            refine Wl_v (r_as (v := .int .u64 ((stp ((gbytes bs 0 nn).1) p ((cl.getD k (0, 0)).1) ((cl.getD k (0, 0)).2)).1)) rfl) ?_
            refine Wl_v (r_as (v := .slice a40 m40 c40) rfl) ?_
            refine Wl_v (r_as (v := .int .i64 ((stp ((gbytes bs 0 nn).1) p ((cl.getD k (0, 0)).1) ((cl.getD k (0, 0)).2)).2.2.2)) rfl) ?_
            refine Wl_nil ?_
            refine W_seq ?_
            refine W_region ?_
            refine Wl_v (r_mv (v := .int .u64 ((stp ((gbytes bs 0 nn).1) p ((cl.getD k (0, 0)).1) ((cl.getD k (0, 0)).2)).1)) rfl) ?_
            refine Wl_v (r_mv (v := .int .u64 ((stp ((gbytes bs 0 nn).1) p ((cl.getD k (0, 0)).1) ((cl.getD k (0, 0)).2)).1)) rfl) ?_
            refine Wl_v (r_ne rfl rfl) ?_
            refine Wl_v (r_mv (v := .bool (decide (((stp ((gbytes bs 0 nn).1) p ((cl.getD k (0, 0)).1) ((cl.getD k (0, 0)).2)).1) ≠ ((stp ((gbytes bs 0 nn).1) p ((cl.getD k (0, 0)).1) ((cl.getD k (0, 0)).2)).1)))) rfl) ?_
            have q23 : ¬ (((stp ((gbytes bs 0 nn).1) p ((cl.getD k (0, 0)).1) ((cl.getD k (0, 0)).2)).1) ≠ ((stp ((gbytes bs 0 nn).1) p ((cl.getD k (0, 0)).1) ((cl.getD k (0, 0)).2)).1)) := (fun h => h rfl)
            rw [decide_eq_false q23]
            refine Wl_guard_t rfl ?_
            refine Wl_v (r_mv (v := .slice a38 m38 c38) rfl) ?_
            refine Wl_guard_t rfl ?_
            refine Wl_v (r_mv (v := .slice a40 m40 c40) rfl) ?_
            refine Wl_guard_t rfl ?_
            refine Wl_call (r_call2 rfl Try.call13 rfl rfl) (same_spec _ hO38.sl.any hO40.sl.any (stp_byt (gbytes_byt bb)) (stp_byt (gbytes_byt bb))) ?_
            rintro v w41 ⟨rfl, hU41⟩
            have hzw41 := hU41.size
            replace hb := hb.upd0 hU41
            replace hq := hq.upd0 hU41
            replace HU := HU.trans0 hU41
            replace hO2 := hO2.upd0 hU41
            replace hO3 := hO3.upd0 hU41
            replace hp29 := hp29.upd0 hU41
            replace hO29 := hO29.upd0 hU41
            replace hB30 := hB30.upd0 hU41
            replace hO33 := hO33.upd0 hU41
            replace hO35 := hO35.upd0 hU41
            replace HL36 := HL36.trans0 hU41
            replace hp38 := hp38.upd0 hU41
            replace hO38 := hO38.upd0 hU41
            replace hp40 := hp40.upd0 hU41
            replace hO40 := hO40.upd0 hU41
            refine Wl_guard_t rfl ?_
            refine Wl_v (r_not rfl) ?_
            refine Wl_v (r_pick_f (v := .bool (!decide (((stp ((gbytes bs 0 nn).1) p ((cl.getD k (0, 0)).1) ((cl.getD k (0, 0)).2)).2.1) = ((stp ((gbytes bs 0 nn).1) p ((cl.getD k (0, 0)).1) ((cl.getD k (0, 0)).2)).2.1)))) rfl rfl) ?_
            refine Wl_v (r_mv (v := .bool (!decide (((stp ((gbytes bs 0 nn).1) p ((cl.getD k (0, 0)).1) ((cl.getD k (0, 0)).2)).2.1) = ((stp ((gbytes bs 0 nn).1) p ((cl.getD k (0, 0)).1) ((cl.getD k (0, 0)).2)).2.1)))) rfl) ?_
            have q24 : ((stp ((gbytes bs 0 nn).1) p ((cl.getD k (0, 0)).1) ((cl.getD k (0, 0)).2)).2.1) = ((stp ((gbytes bs 0 nn).1) p ((cl.getD k (0, 0)).1) ((cl.getD k (0, 0)).2)).2.1) := rfl
            rw [decide_eq_true q24]
            simp only [Bool.not_true, Bool.not_false]
            refine Wl_guard_t rfl ?_
            refine Wl_v (r_mv (v := .int .i64 ((stp ((gbytes bs 0 nn).1) p ((cl.getD k (0, 0)).1) ((cl.getD k (0, 0)).2)).2.2.2)) rfl) ?_
            refine Wl_guard_t rfl ?_
            refine Wl_v (r_mv (v := .int .i64 ((stp ((gbytes bs 0 nn).1) p ((cl.getD k (0, 0)).1) ((cl.getD k (0, 0)).2)).2.2.2)) rfl) ?_
            refine Wl_guard_t rfl ?_
            refine Wl_v (r_ne rfl rfl) ?_
            refine Wl_v (r_pick_f (v := .bool (decide (((stp ((gbytes bs 0 nn).1) p ((cl.getD k (0, 0)).1) ((cl.getD k (0, 0)).2)).2.2.2) ≠ ((stp ((gbytes bs 0 nn).1) p ((cl.getD k (0, 0)).1) ((cl.getD k (0, 0)).2)).2.2.2)))) rfl rfl) ?_
            refine Wl_v (r_mv (v := .bool (decide (((stp ((gbytes bs 0 nn).1) p ((cl.getD k (0, 0)).1) ((cl.getD k (0, 0)).2)).2.2.2) ≠ ((stp ((gbytes bs 0 nn).1) p ((cl.getD k (0, 0)).1) ((cl.getD k (0, 0)).2)).2.2.2)))) rfl) ?_
            have q25 : ¬ (((stp ((gbytes bs 0 nn).1) p ((cl.getD k (0, 0)).1) ((cl.getD k (0, 0)).2)).2.2.2) ≠ ((stp ((gbytes bs 0 nn).1) p ((cl.getD k (0, 0)).1) ((cl.getD k (0, 0)).2)).2.2.2)) := (fun h => h rfl)
            rw [decide_eq_false q25]
            refine Wl_guard_t rfl ?_
            refine Wl_v (r_mv (v := .pointer (some ⟨B29, 0, none⟩)) rfl) ?_
            refine Wl_guard_t rfl ?_
            refine Wl_call (r_call1 rfl Try.call24 rfl) (at_spec _ hp38 (by omega) (by omega) (by omega)) ?_
            rintro v w42 ⟨rfl, hU42⟩
            have hzw42 := hU42.size
            replace hb := hb.upd0 hU42
            replace hq := hq.upd0 hU42
            replace HU := HU.trans0 hU42
            replace hO2 := hO2.upd0 hU42
            replace hO3 := hO3.upd0 hU42
            replace hp29 := hp29.upd0 hU42
            replace hO29 := hO29.upd0 hU42
            replace hB30 := hB30.upd0 hU42
            replace hO33 := hO33.upd0 hU42
            replace hO35 := hO35.upd0 hU42
            replace HL36 := HL36.trans0 hU42
            replace hp38 := hp38.upd0 hU42
            replace hO38 := hO38.upd0 hU42
            replace hp40 := hp40.upd0 hU42
            replace hO40 := hO40.upd0 hU42
            refine Wl_guard_t rfl ?_
            refine Wl_v (r_mv (v := .pointer (some ⟨pb35, 0, none⟩)) rfl) ?_
            refine Wl_guard_t rfl ?_
            refine Wl_call (r_call1 rfl Try.call24 rfl) (at_spec _ hp40 (by omega) (by omega) (by omega)) ?_
            rintro v w43 ⟨rfl, hU43⟩
            have hzw43 := hU43.size
            replace hb := hb.upd0 hU43
            replace hq := hq.upd0 hU43
            replace HU := HU.trans0 hU43
            replace hO2 := hO2.upd0 hU43
            replace hO3 := hO3.upd0 hU43
            replace hp29 := hp29.upd0 hU43
            replace hO29 := hO29.upd0 hU43
            replace hB30 := hB30.upd0 hU43
            replace hO33 := hO33.upd0 hU43
            replace hO35 := hO35.upd0 hU43
            replace HL36 := HL36.trans0 hU43
            replace hp38 := hp38.upd0 hU43
            replace hO38 := hO38.upd0 hU43
            replace hp40 := hp40.upd0 hU43
            replace hO40 := hO40.upd0 hU43
            refine Wl_guard_t rfl ?_
            refine Wl_v (r_ne rfl rfl) ?_
            refine Wl_v (r_pick_f (v := .bool (decide ((((stp ((gbytes bs 0 nn).1) p ((cl.getD k (0, 0)).1) ((cl.getD k (0, 0)).2)).2.2.1 : Nat) : Int) ≠ (((stp ((gbytes bs 0 nn).1) p ((cl.getD k (0, 0)).1) ((cl.getD k (0, 0)).2)).2.2.1 : Nat) : Int)))) rfl rfl) ?_
            refine Wl_nil ?_
            have q26 : ¬ ((((stp ((gbytes bs 0 nn).1) p ((cl.getD k (0, 0)).1) ((cl.getD k (0, 0)).2)).2.2.1 : Nat) : Int) ≠ (((stp ((gbytes bs 0 nn).1) p ((cl.getD k (0, 0)).1) ((cl.getD k (0, 0)).2)).2.2.1 : Nat) : Int)) := (fun h => h rfl)
            rw [decide_eq_false q26]
            refine W_cond_f rfl ?_
            refine W_skip ?_
            refine W_region ?_
            refine Wl_v (r_mv (v := .int .i64 ((k : Nat) : Int)) rfl) ?_
            refine Wl_v (r_add rfl rfl (wi64 (by omega) (by omega))) ?_
            refine Wl_v (r_as (v := .int .i64 (((k : Nat) : Int) + 1)) rfl) ?_
            refine Wl_nil ?_
            refine ⟨_, ?_, (k + 1), (stp ((gbytes bs 0 nn).1) p (cl.getD k (0, 0)).1 (cl.getD k (0, 0)).2).2.2.1, rfl, rfl, ⟨rfl, rfl, rfl, rfl, rfl, rfl, (by first | rfl | exact vint (by omega) | exact vint (by simp)), trivial⟩, (by omega), (by omega), hp38, hp40, HL36⟩
            omega
          · rw [decide_eq_false q22]
            refine W_cond_f rfl ?_
            refine W_exit ?_
            refine W_seq ?_
            refine W_drawt rfl (l0 := #[false, false, false, false, false, false, false, false, false, false, false, false, false, false, false, false]) (by kernel_rfl) ?_
            refine Wt_take (i := 0) (listed' := #[true, false, false, false, false, false, false, false, false, false, false, false, false, false, false, false]) (by kernel_rfl) rfl (by kernel_rfl) (by kernel_rfl) (by kernel_rfl) (by kernel_rfl) (YI_v (v := .pointer (some ⟨pb3, 0, none⟩)) rfl (fun w' hw' => r_mv (v := .pointer (some ⟨pb3, 0, none⟩)) rfl)) ?_
            refine Wt_take (i := 1) (listed' := #[true, true, false, false, false, false, false, false, false, false, false, false, false, false, false, false]) (by kernel_rfl) rfl (by kernel_rfl) (by kernel_rfl) (by kernel_rfl) (by kernel_rfl) (YI_c (v := .int .i64 (((gbytes bs 0 nn).2.1 : Nat) : Int)) rfl (fun w' => r_call1 rfl Try.call24 rfl) (fun w' hw' => at_spec w' (hp29.upd0 hw') (by omega) (by omega) (by omega))) ?_
            refine Wt_take (i := 2) (listed' := #[true, true, true, false, false, false, false, false, false, false, false, false, false, false, false, false]) (by kernel_rfl) rfl (by kernel_rfl) (by kernel_rfl) (by kernel_rfl) (by kernel_rfl) (YI_v (v := .int .i64 (((gbytes bs 0 nn).2.1 : Nat) : Int)) rfl (fun w' hw' => r_mv (v := .int .i64 (((gbytes bs 0 nn).2.1 : Nat) : Int)) rfl)) ?_
            refine Wt_take (i := 3) (listed' := #[true, true, true, true, false, false, false, false, false, false, false, false, false, false, false, false]) (by kernel_rfl) rfl (by kernel_rfl) (by kernel_rfl) (by kernel_rfl) (by kernel_rfl) (YI_v (v := .bool (decide ((((gbytes bs 0 nn).2.1 : Nat) : Int) = (((gbytes bs 0 nn).2.1 : Nat) : Int)))) rfl (fun w' hw' => r_eq rfl rfl)) ?_
            refine Wt_take (i := 4) (listed' := #[true, true, true, true, true, false, false, false, false, false, false, false, false, false, false, false]) (by kernel_rfl) rfl (by kernel_rfl) (by kernel_rfl) (by kernel_rfl) (by kernel_rfl) (YI_v (v := .bool (decide ((((gbytes bs 0 nn).2.1 : Nat) : Int) = (((gbytes bs 0 nn).2.1 : Nat) : Int)))) rfl (fun w' hw' => r_mv (v := .bool (decide ((((gbytes bs 0 nn).2.1 : Nat) : Int) = (((gbytes bs 0 nn).2.1 : Nat) : Int)))) rfl)) ?_
            have q27 : (((gbytes bs 0 nn).2.1 : Nat) : Int) = (((gbytes bs 0 nn).2.1 : Nat) : Int) := (Classical.not_not.1 q20)
            rw [decide_eq_true q27]
            refine Wt_take (i := 5) (listed' := #[true, true, true, true, true, true, false, false, false, false, false, false, false, false, false, false]) (by kernel_rfl) rfl (by kernel_rfl) (by kernel_rfl) (by kernel_rfl) (by kernel_rfl) (YI_v (v := .pointer (some ⟨pb3, 0, none⟩)) rfl (fun w' hw' => r_mv (v := .pointer (some ⟨pb3, 0, none⟩)) rfl)) ?_
            refine Wt_take (i := 7) (listed' := #[true, true, true, true, true, true, false, true, false, false, false, false, false, false, false, false]) (by kernel_rfl) rfl (by kernel_rfl) (by kernel_rfl) (by kernel_rfl) (by kernel_rfl) (YI_v (v := .slice a n c) rfl (fun w' hw' => r_mv (v := .slice a n c) rfl)) ?_
            refine Wt_take (i := 8) (listed' := #[true, true, true, true, true, true, false, true, true, false, false, false, false, false, false, false]) (by kernel_rfl) rfl (by kernel_rfl) (by kernel_rfl) (by kernel_rfl) (by kernel_rfl) (YI_v (v := .int .i64 (((gbytes bs 0 nn).2.1 : Nat) : Int)) rfl (fun w' hw' => r_mv (v := .int .i64 (((gbytes bs 0 nn).2.1 : Nat) : Int)) rfl)) ?_
            refine Wt_take (i := 9) (listed' := #[true, true, true, true, true, true, false, true, true, true, false, false, false, false, false, false]) (by kernel_rfl) rfl (by kernel_rfl) (by kernel_rfl) (by kernel_rfl) (by kernel_rfl) (YI_v (v := .slice (if c = ((gbytes bs 0 nn).2.1) then a else a.map (·.add (((gbytes bs 0 nn).2.1) * 1))) (n - ((gbytes bs 0 nn).2.1)) (c - ((gbytes bs 0 nn).2.1))) rfl (fun w' hw' => r_slicelen (l' := ((gbytes bs 0 nn).2.1)) (n' := n - ((gbytes bs 0 nn).2.1)) Try.underlying22 Try.sizeOf5 rfl rfl (by omega) (by omega) (by omega))) ?_
            have hT44 := Sl.cutl (l := ((gbytes bs 0 nn).2.1)) (n := n - ((gbytes bs 0 nn).2.1)) hb (by omega) (by omega)
            have hl_hT44 := ilen hT44
            have hc_hT44 := hT44.cap.1
            intro w45 hU45
            have hzw45 := hU45.size
            replace hb := hb.upd0 hU45
            replace hq := hq.upd0 hU45
            replace HU := HU.trans0 hU45
            replace hO2 := hO2.upd0 hU45
            replace hO3 := hO3.upd0 hU45
            replace hp29 := hp29.upd0 hU45
            replace hO29 := hO29.upd0 hU45
            replace hB30 := hB30.upd0 hU45
            replace hO33 := hO33.upd0 hU45
            replace hO35 := hO35.upd0 hU45
            replace hB29 := hB29.upd0 hU45
            replace hp35 := hp35.upd0 hU45
            replace HL36 := HL36.trans0 hU45
            replace hT44 := hT44.upd0 hU45
            refine Wa_one (i := 6) (listed' := #[true, true, true, true, true, true, true, true, true, true, false, false, false, false, false, false]) (by kernel_rfl) rfl (by kernel_rfl) ?_
            refine Ws_of_Wl ?_
            have hW : Upd No w36 w45 := hU45
            refine Wl_guard_t rfl ?_
            refine Wl_call (r_call1 rfl Try.call25 rfl) (rest_spec _ hp29 (hO3.sl.cur (by intro h1; have h3 : ((w2.heap.size ≤ pb3 ∧ pb3 ≠ pb3) ∧ pb3 < w3.heap.size) := h1; first | omega | simp at h3)) bb (by omega) (by omega)) ?_
            rintro v w46 ⟨a46, c46, rfl, hO46, hU46⟩
            have hzw46 := hU46.size
            replace hb := hb.upd0 hU46
            replace hq := hq.upd0 hU46
            replace HU := HU.trans0 hU46
            replace hO2 := hO2.upd0 hU46
            replace hO3 := hO3.upd0 hU46
            replace hp29 := hp29.upd0 hU46
            replace hO29 := hO29.upd0 hU46
            replace hB30 := hB30.upd0 hU46
            replace hO33 := hO33.upd0 hU46
            replace hO35 := hO35.upd0 hU46
            replace hB29 := hB29.upd0 hU46
            replace hp35 := hp35.upd0 hU46
            replace HL36 := HL36.trans0 hU46
            replace hT44 := hT44.upd0 hU46
            try replace hW := hW.trans0 hU46
            replace hO46 := hO46.tight
            have hl_hO46 := ilen hO46.sl
            have hc_hO46 := hO46.sl.cap.1
            refine Wl_nil ?_
            intro w47 hS47
            have hX : Upd No w36 w47 := hW.trans0 hS47.upd
            refine ⟨fun _ => ⟨hX, ?_⟩, fun h => absurd h (by rw [show barOp _ 6 = false from by kernel_rfl]; simp)⟩
            have hU47 := hS47.upd
            have hzw47 := hU47.size
            replace hb := hb.upd0 hU47
            replace hq := hq.upd0 hU47
            replace HU := HU.trans0 hU47
            replace hO2 := hO2.upd0 hU47
            replace hO3 := hO3.upd0 hU47
            replace hp29 := hp29.upd0 hU47
            replace hO29 := hO29.upd0 hU47
            replace hB30 := hB30.upd0 hU47
            replace hO33 := hO33.upd0 hU47
            replace hO35 := hO35.upd0 hU47
            replace hB29 := hB29.upd0 hU47
            replace hp35 := hp35.upd0 hU47
            replace HL36 := HL36.trans0 hU47
            replace hT44 := hT44.upd0 hU47
            replace hO46 := hO46.upd0 hU47
            try replace hW := hW.trans0 hU47
            refine Wt_base hX ?_
            refine Wt_take (i := 10) (listed' := #[true, true, true, true, true, true, true, true, true, true, true, false, false, false, false, false]) (by kernel_rfl) rfl (by kernel_rfl) (by kernel_rfl) (by kernel_rfl) (by kernel_rfl) (YI_c (v := .bool (decide ((bs.drop ((gbytes bs 0 nn).2.1)) = (bs.drop ((gbytes bs 0 nn).2.1))))) rfl (fun w' => r_call2 rfl Try.call13 rfl rfl) (fun w' hw' => same_spec w' ((hO46.upd0 hw').sl.any) ((hT44.upd0 hw').any) (byt_drop bb _) (byt_drop bb _))) ?_
            refine Wt_take (i := 11) (listed' := #[true, true, true, true, true, true, true, true, true, true, true, true, false, false, false, false]) (by kernel_rfl) rfl (by kernel_rfl) (by kernel_rfl) (by kernel_rfl) (by kernel_rfl) (YI_v rfl (fun w' hw' => r_pick_t (v := .bool (decide ((bs.drop ((gbytes bs 0 nn).2.1)) = (bs.drop ((gbytes bs 0 nn).2.1))))) rfl rfl)) ?_
            refine Wt_take (i := 12) (listed' := #[true, true, true, true, true, true, true, true, true, true, true, true, true, false, false, false]) (by kernel_rfl) rfl (by kernel_rfl) (by kernel_rfl) (by kernel_rfl) (by kernel_rfl) (YI_v (v := .bool (decide ((bs.drop ((gbytes bs 0 nn).2.1)) = (bs.drop ((gbytes bs 0 nn).2.1))))) rfl (fun w' hw' => r_mv (v := .bool (decide ((bs.drop ((gbytes bs 0 nn).2.1)) = (bs.drop ((gbytes bs 0 nn).2.1))))) rfl)) ?_
            have q28 : (bs.drop ((gbytes bs 0 nn).2.1)) = (bs.drop ((gbytes bs 0 nn).2.1)) := rfl
            rw [decide_eq_true q28]
            refine Wt_take (i := 13) (listed' := #[true, true, true, true, true, true, true, true, true, true, true, true, true, true, false, false]) (by kernel_rfl) rfl (by kernel_rfl) (by kernel_rfl) (by kernel_rfl) (by kernel_rfl) (YI_c (v := .bool true) rfl (fun w' => r_call0 rfl Try.call19 ) (fun w' hw' => known_spec w' )) ?_
            refine Wt_take (i := 14) (listed' := #[true, true, true, true, true, true, true, true, true, true, true, true, true, true, true, false]) (by kernel_rfl) rfl (by kernel_rfl) (by kernel_rfl) (by kernel_rfl) (by kernel_rfl) (YI_v rfl (fun w' hw' => r_pick_t (v := .bool true) rfl rfl)) ?_
            refine Wt_take (i := 15) (listed' := #[true, true, true, true, true, true, true, true, true, true, true, true, true, true, true, true]) (by kernel_rfl) rfl (by kernel_rfl) (by kernel_rfl) (by kernel_rfl) (by kernel_rfl) (YI_v (v := .bool true) rfl (fun w' hw' => r_as (v := .bool true) rfl)) ?_
            intro w48 hU48
            have hzw48 := hU48.size
            replace hb := hb.upd0 hU48
            replace hq := hq.upd0 hU48
            replace HU := HU.trans0 hU48
            replace hO2 := hO2.upd0 hU48
            replace hO3 := hO3.upd0 hU48
            replace hp29 := hp29.upd0 hU48
            replace hO29 := hO29.upd0 hU48
            replace hB30 := hB30.upd0 hU48
            replace hO33 := hO33.upd0 hU48
            replace hO35 := hO35.upd0 hU48
            replace hB29 := hB29.upd0 hU48
            replace hp35 := hp35.upd0 hU48
            replace HL36 := HL36.trans0 hU48
            replace hT44 := hT44.upd0 hU48
            replace hO46 := hO46.upd0 hU48
            try replace hW := hW.trans0 hU48
            refine Wa_done (by kernel_rfl) ?_
            refine W_ret ?_
            refine ret_end (v := .bool true) rfl (res1 Try.results11 rfl) ?_
            exact ⟨_, rfl, rfl, HU⟩
        · refine Wl_call (r_call2 rfl Try.call33 rfl rfl) (csub_no (p := 0) _ hp3 (hO3.sl.cur (by intro h1; have h3 : ((w2.heap.size ≤ pb3 ∧ pb3 ≠ pb3) ∧ pb3 < w3.heap.size) := h1; first | omega | simp at h3)) bb (by omega) (by omega) q18) ?_
          rintro v w49 ⟨rfl, hp49, hU49⟩
          have hzw49 := hU49.size
          replace hb := hb.upd1 hU49 (by intro h1; have h3 : pb3 < w.heap.size := h1; omega)
          replace hq := hq.upd1 hU49 (by intro h1; have h3 : pb3 < w.heap.size := h1; omega)
          replace HU := HU.trans1 hU49 (by show (False) ∨ w.heap.size ≤ pb3; omega)
          replace hO2 := hO2.upd1 hU49 (by intro h1; have h3 : ((w.heap.size ≤ pb3) ∧ pb3 < w2.heap.size) := h1; omega)
          replace hO3 := hO3.upd1 hU49 (by intro h1; have h3 : ((w2.heap.size ≤ pb3 ∧ pb3 ≠ pb3) ∧ pb3 < w3.heap.size) := h1; omega)
          have hbl_hp49 := hp49.lt
          refine Wl_v (r_mv (v := .tuple #[.pointer none, .int .i64 ((gbytes bs 0 nn).2.2)]) rfl) ?_
          refine Wl_v (r_ext (v := .pointer none) rfl rfl) ?_
          refine Wl_v (r_ext (v := .int .i64 ((gbytes bs 0 nn).2.2)) rfl rfl) ?_
          refine Wl_v (r_as (v := .pointer none) rfl) ?_
          refine Wl_v (r_as (v := .int .i64 ((gbytes bs 0 nn).2.2)) rfl) ?_
          refine Wl_nil ?_
          refine W_seq ?_
          refine W_region ?_
          refine Wl_v (r_mv (v := .slice a n c) rfl) ?_
          refine Wl_v (r_mv (v := .int .i64 0) rfl) ?_
          refine Wl_v (r_mv (v := .int .i64 nn) rfl) ?_
          refine Wl_call (r_call3 rfl Try.call34 rfl rfl rfl) (rbytes_spec (p := 0) _ hb bb (by omega) (by omega)) ?_
          rintro v w50 ⟨a50, m50, c50, rfl, hB50, hm_50, hU50⟩
          have hzw50 := hU50.size
          replace hb := hb.upd0 hU50
          replace hq := hq.upd0 hU50
          replace HU := HU.trans0 hU50
          replace hO2 := hO2.upd0 hU50
          replace hO3 := hO3.upd0 hU50
          replace hp49 := hp49.upd0 hU50
          have hl_hB50 := ilen hB50
          have hc_hB50 := hB50.cap.1
          refine Wl_v (r_mv (v := .tuple #[.slice a50 m50 c50, .int .i64 (((gbytes bs 0 nn).2.1 : Nat) : Int), .int .i64 ((gbytes bs 0 nn).2.2)]) rfl) ?_
          refine Wl_v (r_ext (v := .slice a50 m50 c50) rfl rfl) ?_
          refine Wl_v (r_ext (v := .int .i64 (((gbytes bs 0 nn).2.1 : Nat) : Int)) rfl rfl) ?_
          refine Wl_v (r_ext (v := .int .i64 ((gbytes bs 0 nn).2.2)) rfl rfl) ?_
          refine Wl_v (r_as (v := .slice a50 m50 c50) rfl) ?_
          refine Wl_v (r_as (v := .int .i64 (((gbytes bs 0 nn).2.1 : Nat) : Int)) rfl) ?_
          refine Wl_v (r_as (v := .int .i64 ((gbytes bs 0 nn).2.2)) rfl) ?_
          refine Wl_nil ?_
          refine W_seq ?_
          refine W_seq ?_
          refine W_region ?_
          refine Wl_v (r_mv (v := .int .i64 ((gbytes bs 0 nn).2.2)) rfl) ?_
          refine Wl_v (r_ne rfl rfl) ?_
          refine Wl_nil ?_
          have q29 : ((gbytes bs 0 nn).2.2) ≠ 0 := q18
          rw [decide_eq_true q29]
          refine W_cond_t rfl ?_
          refine W_seq ?_
          refine W_region ?_
          refine Wl_v (r_mv (v := .int .i64 ((gbytes bs 0 nn).2.2)) rfl) ?_
          refine Wl_v (r_mv (v := .int .i64 ((gbytes bs 0 nn).2.2)) rfl) ?_
          refine Wl_v (r_eq rfl rfl) ?_
          refine Wl_v (r_mv (v := .bool (decide (((gbytes bs 0 nn).2.2) = ((gbytes bs 0 nn).2.2)))) rfl) ?_
          have q30 : ((gbytes bs 0 nn).2.2) = ((gbytes bs 0 nn).2.2) := rfl
          rw [decide_eq_true q30]
          refine Wl_guard_t rfl ?_
          refine Wl_v (r_mv (v := .pointer none) rfl) ?_
          refine Wl_guard_t rfl ?_
          refine Wl_v (r_eqpn_n Try.underlying38 rfl rfl) ?_
          refine Wl_v (r_pick_t (v := .bool true) rfl rfl) ?_
          refine Wl_v (r_mv (v := .bool true) rfl) ?_
          refine Wl_guard_t rfl ?_
          refine Wl_v (r_mv (v := .pointer (some ⟨pb3, 0, none⟩)) rfl) ?_
          refine Wl_guard_t rfl ?_
          refine Wl_call (r_call1 rfl Try.call24 rfl) (at_spec _ hp49 (by omega) (by omega) (by omega)) ?_
          rintro v w51 ⟨rfl, hU51⟩
          have hzw51 := hU51.size
          replace hb := hb.upd0 hU51
          replace hq := hq.upd0 hU51
          replace HU := HU.trans0 hU51
          replace hO2 := hO2.upd0 hU51
          replace hO3 := hO3.upd0 hU51
          replace hp49 := hp49.upd0 hU51
          replace hB50 := hB50.upd0 hU51
          refine Wl_guard_t rfl ?_
          refine Wl_v (r_mv (v := .int .i64 0) rfl) ?_
          refine Wl_guard_t rfl ?_
          refine Wl_v (r_eq rfl rfl) ?_
          refine Wl_v (r_pick_t (v := .bool (decide (((0 : Nat) : Int) = 0))) rfl rfl) ?_
          refine Wl_v (r_mv (v := .bool (decide (((0 : Nat) : Int) = 0))) rfl) ?_
          have q31 : ((0 : Nat) : Int) = 0 := (by decide)
          rw [decide_eq_true q31]
          refine Wl_guard_t rfl ?_
          refine Wl_call (r_call0 rfl Try.call19 ) (known_spec _ ) ?_
          rintro v w52 ⟨rfl, hU52⟩
          have hzw52 := hU52.size
          replace hb := hb.upd0 hU52
          replace hq := hq.upd0 hU52
          replace HU := HU.trans0 hU52
          replace hO2 := hO2.upd0 hU52
          replace hO3 := hO3.upd0 hU52
          replace hp49 := hp49.upd0 hU52
          replace hB50 := hB50.upd0 hU52
          refine Wl_v (r_pick_t (v := .bool true) rfl rfl) ?_
          refine Wl_v (r_as (v := .bool true) rfl) ?_
          refine Wl_nil ?_
          refine W_ret ?_
          refine ret_end (v := .bool true) rfl (res1 Try.results11 rfl) ?_
          exact ⟨_, rfl, rfl, HU⟩
    · rw [decide_eq_false q2]
      refine Wl_guard_f rfl ?_
      refine Wl_guard_f rfl ?_
      refine Wl_guard_f rfl ?_
      refine Wl_guard_f rfl ?_
      refine Wl_v (r_pick_f (v := .bool false) rfl rfl) ?_
      refine Wl_nil ?_
      refine W_cond_f rfl ?_
      refine W_skip ?_
      refine W_seq ?_
      refine W_region ?_
      refine Wl_v (r_mv (v := .pointer (some ⟨pb3, 0, none⟩)) rfl) ?_
      refine Wl_v (r_mv (v := .int .i64 nn) rfl) ?_
      by_cases q32 : (gbytes bs (0) nn).2.2 = 0
      · refine Wl_call (r_call2 rfl Try.call33 rfl rfl) (csub_ok (p := 0) _ hp3 (hO3.sl.cur (by intro h1; have h3 : ((w2.heap.size ≤ pb3 ∧ pb3 ≠ pb3) ∧ pb3 < w3.heap.size) := h1; first | omega | simp at h3)) bb (by omega) (by omega) q32) ?_
        rintro v w53 ⟨B53, a53, m53, c53, rfl, hp53, hB53, hO53, hm_53, hBg_53, hU53⟩
        have hzw53 := hU53.size
        replace hb := hb.upd1 hU53 (by intro h1; have h3 : pb3 < w.heap.size := h1; omega)
        replace hq := hq.upd1 hU53 (by intro h1; have h3 : pb3 < w.heap.size := h1; omega)
        replace HU := HU.trans1 hU53 (by show (False) ∨ w.heap.size ≤ pb3; omega)
        replace hO2 := hO2.upd1 hU53 (by intro h1; have h3 : ((w.heap.size ≤ pb3) ∧ pb3 < w2.heap.size) := h1; omega)
        replace hO3 := hO3.upd1 hU53 (by intro h1; have h3 : ((w2.heap.size ≤ pb3 ∧ pb3 ≠ pb3) ∧ pb3 < w3.heap.size) := h1; omega)
        have hbl_hp53 := hp53.lt
        have hbl_hB53 := hB53.lt
        replace hO53 := hO53.tight
        have hl_hO53 := ilen hO53.sl
        have hc_hO53 := hO53.sl.cap.1
        have hgl := gbytes_len2 (bs := bs) (p := 0) (k := nn)
        have hgq := gbytes_props (bs := bs) (p := 0) (k := nn) (by omega)
        refine Wl_v (r_mv (v := .tuple #[.pointer (some ⟨B53, 0, none⟩), .int .i64 0]) rfl) ?_
        refine Wl_v (r_ext (v := .pointer (some ⟨B53, 0, none⟩)) rfl rfl) ?_
        refine Wl_v (r_ext (v := .int .i64 0) rfl rfl) ?_
        refine Wl_v (r_as (v := .pointer (some ⟨B53, 0, none⟩)) rfl) ?_
        refine Wl_v (r_as (v := .int .i64 0) rfl) ?_
        refine Wl_nil ?_
        refine W_seq ?_
        refine W_region ?_
        refine Wl_v (r_mv (v := .slice a n c) rfl) ?_
        refine Wl_v (r_mv (v := .int .i64 0) rfl) ?_
        refine Wl_v (r_mv (v := .int .i64 nn) rfl) ?_
        refine Wl_call (r_call3 rfl Try.call34 rfl rfl rfl) (rbytes_spec (p := 0) _ hb bb (by omega) (by omega)) ?_
        rintro v w54 ⟨a54, m54, c54, rfl, hB54, hm_54, hU54⟩
        have hzw54 := hU54.size
        replace hb := hb.upd0 hU54
        replace hq := hq.upd0 hU54
        replace HU := HU.trans0 hU54
        replace hO2 := hO2.upd0 hU54
        replace hO3 := hO3.upd0 hU54
        replace hp53 := hp53.upd0 hU54
        replace hB53 := hB53.upd0 hU54
        replace hO53 := hO53.upd0 hU54
        have hl_hB54 := ilen hB54
        have hc_hB54 := hB54.cap.1
        refine Wl_v (r_mv (v := .tuple #[.slice a54 m54 c54, .int .i64 (((gbytes bs 0 nn).2.1 : Nat) : Int), .int .i64 ((gbytes bs 0 nn).2.2)]) rfl) ?_
        refine Wl_v (r_ext (v := .slice a54 m54 c54) rfl rfl) ?_
        refine Wl_v (r_ext (v := .int .i64 (((gbytes bs 0 nn).2.1 : Nat) : Int)) rfl rfl) ?_
        refine Wl_v (r_ext (v := .int .i64 ((gbytes bs 0 nn).2.2)) rfl rfl) ?_
        refine Wl_v (r_as (v := .slice a54 m54 c54) rfl) ?_
        refine Wl_v (r_as (v := .int .i64 (((gbytes bs 0 nn).2.1 : Nat) : Int)) rfl) ?_
        refine Wl_v (r_as (v := .int .i64 ((gbytes bs 0 nn).2.2)) rfl) ?_
        refine Wl_nil ?_
        refine W_seq ?_
        refine W_seq ?_
        refine W_region ?_
        refine Wl_v (r_mv (v := .int .i64 ((gbytes bs 0 nn).2.2)) rfl) ?_
        refine Wl_v (r_ne rfl rfl) ?_
        refine Wl_nil ?_
        have q33 : ¬ (((gbytes bs 0 nn).2.2) ≠ 0) := (fun h2 => h2 q32)
        rw [decide_eq_false q33]
        refine W_cond_f rfl ?_
        refine W_skip ?_
        refine W_seq ?_
        refine W_seq ?_
        refine W_region ?_
        refine Wl_v (r_mv (v := .int .i64 0) rfl) ?_
        refine Wl_v (v := .bool false) (r_ne (a := 0) (b := 0) rfl rfl) ?_
        refine Wl_v (r_mv (v := .bool false) rfl) ?_
        refine Wl_guard_t rfl ?_
        refine Wl_v (r_mv (v := .pointer (some ⟨B53, 0, none⟩)) rfl) ?_
        refine Wl_guard_t rfl ?_
        refine Wl_v (r_eqpn_s Try.underlying38 rfl rfl) ?_
        refine Wl_v (r_pick_f (v := .bool false) rfl rfl) ?_
        refine Wl_v (r_mv (v := .bool false) rfl) ?_
        refine Wl_guard_t rfl ?_
        refine Wl_v (r_mv (v := .pointer (some ⟨pb3, 0, none⟩)) rfl) ?_
        refine Wl_guard_t rfl ?_
        refine Wl_call (r_call1 rfl Try.call24 rfl) (at_spec _ hp53 (by omega) (by omega) (by omega)) ?_
        rintro v w55 ⟨rfl, hU55⟩
        have hzw55 := hU55.size
        replace hb := hb.upd0 hU55
        replace hq := hq.upd0 hU55
        replace HU := HU.trans0 hU55
        replace hO2 := hO2.upd0 hU55
        replace hO3 := hO3.upd0 hU55
        replace hp53 := hp53.upd0 hU55
        replace hB53 := hB53.upd0 hU55
        replace hO53 := hO53.upd0 hU55
        replace hB54 := hB54.upd0 hU55
        refine Wl_guard_t rfl ?_
        refine Wl_v (r_mv (v := .int .i64 (((gbytes bs 0 nn).2.1 : Nat) : Int)) rfl) ?_
        refine Wl_guard_t rfl ?_
        refine Wl_v (r_ne rfl rfl) ?_
        refine Wl_v (r_pick_f (v := .bool (decide ((((gbytes bs 0 nn).2.1 : Nat) : Int) ≠ (((gbytes bs 0 nn).2.1 : Nat) : Int)))) rfl rfl) ?_
        refine Wl_v (r_mv (v := .bool (decide ((((gbytes bs 0 nn).2.1 : Nat) : Int) ≠ (((gbytes bs 0 nn).2.1 : Nat) : Int)))) rfl) ?_
        have q34 : ¬ ((((gbytes bs 0 nn).2.1 : Nat) : Int) ≠ (((gbytes bs 0 nn).2.1 : Nat) : Int)) := (fun h => h rfl)
        rw [decide_eq_false q34]
        refine Wl_guard_t rfl ?_
        refine Wl_v (r_mv (v := .pointer (some ⟨B53, 0, none⟩)) rfl) ?_
        refine Wl_guard_t rfl ?_
        refine Wl_call (r_call1 rfl Try.call24 rfl) (at_spec _ hB53 (by omega) (by omega) (by omega)) ?_
        rintro v w56 ⟨rfl, hU56⟩
        have hzw56 := hU56.size
        replace hb := hb.upd0 hU56
        replace hq := hq.upd0 hU56
        replace HU := HU.trans0 hU56
        replace hO2 := hO2.upd0 hU56
        replace hO3 := hO3.upd0 hU56
        replace hp53 := hp53.upd0 hU56
        replace hB53 := hB53.upd0 hU56
        replace hO53 := hO53.upd0 hU56
        replace hB54 := hB54.upd0 hU56
        refine Wl_guard_t rfl ?_
        refine Wl_v (v := .bool false) (r_ne (a := 0) (b := 0) rfl rfl) ?_
        refine Wl_v (r_pick_f (v := .bool false) rfl rfl) ?_
        refine Wl_v (r_mv (v := .bool false) rfl) ?_
        refine Wl_guard_t rfl ?_
        refine Wl_v (r_mv (v := .pointer (some ⟨B53, 0, none⟩)) rfl) ?_
        refine Wl_guard_t rfl ?_
        refine Wl_call (r_call1 rfl Try.call25 rfl) (rest_spec (p := 0) _ hB53 (hO53.sl.cur (by intro h1; have h3 : ((w3.heap.size ≤ B53 ∧ B53 ≠ B53) ∧ B53 < w53.heap.size) := h1; first | omega | simp at h3)) (gbytes_byt bb) (by omega) (by omega)) ?_
        rintro v w57 ⟨a57, c57, rfl, hO57, hU57⟩
        have hzw57 := hU57.size
        replace hb := hb.upd0 hU57
        replace hq := hq.upd0 hU57
        replace HU := HU.trans0 hU57
        replace hO2 := hO2.upd0 hU57
        replace hO3 := hO3.upd0 hU57
        replace hp53 := hp53.upd0 hU57
        replace hB53 := hB53.upd0 hU57
        replace hO53 := hO53.upd0 hU57
        replace hB54 := hB54.upd0 hU57
        replace hO57 := hO57.tight
        have hl_hO57 := ilen hO57.sl
        have hc_hO57 := hO57.sl.cap.1
        refine Wl_guard_t rfl ?_
        refine Wl_v (r_mv (v := .slice a54 m54 c54) rfl) ?_
        refine Wl_guard_t rfl ?_
        refine Wl_call (r_call2 rfl Try.call13 rfl rfl) (same_spec _ hO57.sl.any hB54.any (byt_drop (gbytes_byt bb) _) (gbytes_byt bb)) ?_
        rintro v w58 ⟨rfl, hU58⟩
        have hzw58 := hU58.size
        replace hb := hb.upd0 hU58
        replace hq := hq.upd0 hU58
        replace HU := HU.trans0 hU58
        replace hO2 := hO2.upd0 hU58
        replace hO3 := hO3.upd0 hU58
        replace hp53 := hp53.upd0 hU58
        replace hB53 := hB53.upd0 hU58
        replace hO53 := hO53.upd0 hU58
        replace hB54 := hB54.upd0 hU58
        replace hO57 := hO57.upd0 hU58
        refine Wl_guard_t rfl ?_
        refine Wl_v (r_not rfl) ?_
        refine Wl_v (r_pick_f (v := .bool (!decide ((((gbytes bs 0 nn).1).drop 0) = ((gbytes bs 0 nn).1)))) rfl rfl) ?_
        refine Wl_nil ?_
        have q35 : (((gbytes bs 0 nn).1).drop 0) = ((gbytes bs 0 nn).1) := rfl
        rw [decide_eq_true q35]
        simp only [Bool.not_true, Bool.not_false]
        refine W_cond_f rfl ?_
        refine W_skip ?_
        refine W_seq ?_
        refine W_region ?_
        refine Wl_v (r_mv (v := .slice a54 m54 c54) rfl) ?_
        refine Wl_call (r_call1 rfl Try.call21 rfl) (new_spec _ hB54.any (by omega)) ?_
        rintro v w59 ⟨pb59, a59, c59, rfl, hp59, hO59, hpg_59, hU59⟩
        have hzw59 := hU59.size
        replace hb := hb.upd0 hU59
        replace hq := hq.upd0 hU59
        replace HU := HU.trans0 hU59
        replace hO2 := hO2.upd0 hU59
        replace hO3 := hO3.upd0 hU59
        replace hp53 := hp53.upd0 hU59
        replace hB53 := hB53.upd0 hU59
        replace hO53 := hO53.upd0 hU59
        replace hB54 := hB54.upd0 hU59
        replace hO57 := hO57.upd0 hU59
        have hbl_hp59 := hp59.lt
        replace hO59 := hO59.tight
        have hl_hO59 := ilen hO59.sl
        have hc_hO59 := hO59.sl.cap.1
        refine Wl_v (r_as (v := .pointer (some ⟨pb59, 0, none⟩)) rfl) ?_
        refine Wl_nil ?_
        refine W_seq ?_
        refine W_seq ?_
        refine W_region ?_
        refine Wl_v (r_as (v := .int .i64 0) rfl) ?_
        refine Wl_nil ?_
        refine W_block ?_
        refine W_loop (fun mu ρ ds w' => ∃ (k p : Nat), m - k = mu ∧ ds = [] ∧ Liv ρ [(0, .slice a n c), (3, .slice aq m cq), (9, .pointer (some ⟨pb3, 0, none⟩)), (11, .pointer (some ⟨B53, 0, none⟩)), (14, .int .i64 (((gbytes bs 0 nn).2.1 : Nat) : Int)), (16, .pointer (some ⟨pb59, 0, none⟩)), (17, .int .i64 ((k : Nat) : Int))] ∧ k ≤ m ∧ p ≤ m53 ∧ Blk w' B53 [.slice a53 m53 c53, .int .i64 ((p : Nat) : Int)] ∧ Blk w' pb59 [.slice a59 m54 c59, .int .i64 ((p : Nat) : Int)] ∧ Upd (fun g => g = B53 ∨ g = pb59) w59 w') _ ⟨0, 0, rfl, rfl, ⟨rfl, rfl, rfl, rfl, rfl, rfl, (by first | rfl | exact vint (by omega) | exact vint (by simp)), trivial⟩, (by omega), (by omega), hB53, hp59, Upd.refl _ _⟩ ?_
        rintro m60 ρ60 ds60 w60 ⟨k, p, rfl, rfl, hl60, hkm, hpn, hB53, hp59, hU60⟩
        obtain ⟨ρ60x, rfl⟩ : ∃ ρx, ρ60 = upds ρx [(0, .slice a n c), (3, .slice aq m cq), (9, .pointer (some ⟨pb3, 0, none⟩)), (11, .pointer (some ⟨B53, 0, none⟩)), (14, .int .i64 (((gbytes bs 0 nn).2.1 : Nat) : Int)), (16, .pointer (some ⟨pb59, 0, none⟩)), (17, .int .i64 ((k : Nat) : Int))] := ⟨_, upds_self hl60⟩
        clear hl60
        have hzw60 := hU60.size
        replace hb := hb.upd hU60 (by intro x h1 h2; have h3 : x < w.heap.size := h1; have h4 : x = B53 ∨ x = pb59 := h2; omega)
        replace hq := hq.upd hU60 (by intro x h1 h2; have h3 : x < w.heap.size := h1; have h4 : x = B53 ∨ x = pb59 := h2; omega)
        replace HU := HU.trans hU60 (by intro x hx; have hx2 : x = B53 ∨ x = pb59 := hx; show (False) ∨ w.heap.size ≤ x; omega)
        replace hO2 := hO2.upd hU60 (by intro x h1 h2; have h3 : ((w.heap.size ≤ x) ∧ x < w2.heap.size) := h1; have h4 : x = B53 ∨ x = pb59 := h2; omega)
        replace hO3 := hO3.upd hU60 (by intro x h1 h2; have h3 : ((w2.heap.size ≤ x ∧ x ≠ pb3) ∧ x < w3.heap.size) := h1; have h4 : x = B53 ∨ x = pb59 := h2; omega)
        replace hp53 := hp53.upd hU60 (by intro hx; have hx2 : pb3 = B53 ∨ pb3 = pb59 := hx; omega)
        replace hO53 := hO53.upd hU60 (by intro x h1 h2; have h3 : ((w3.heap.size ≤ x ∧ x ≠ B53) ∧ x < w53.heap.size) := h1; have h4 : x = B53 ∨ x = pb59 := h2; omega)
        replace hB54 := hB54.upd hU60 (by intro x h1 h2; have h3 : x < w.heap.size := h1; have h4 : x = B53 ∨ x = pb59 := h2; omega)
        replace hO57 := hO57.upd hU60 (by intro x h1 h2; have h3 : ((w56.heap.size ≤ x) ∧ x < w57.heap.size) := h1; have h4 : x = B53 ∨ x = pb59 := h2; omega)
        replace hO59 := hO59.upd hU60 (by intro x h1 h2; have h3 : ((w58.heap.size ≤ x ∧ x ≠ pb59) ∧ x < w59.heap.size) := h1; have h4 : x = B53 ∨ x = pb59 := h2; omega)
        have HL60 := hU60
        refine W_seq ?_
        refine W_seq ?_
        refine W_region ?_
        refine Wl_v (r_mv (v := .int .i64 ((k : Nat) : Int)) rfl) ?_
        refine Wl_v (r_mv (v := .slice aq m cq) rfl) ?_
        refine Wl_v (r_len Try.underlying52 rfl) ?_
        refine Wl_v (r_lt rfl rfl) ?_
        refine Wl_nil ?_
        by_cases q36 : ((k : Nat) : Int) < ((m : Nat) : Int)
        · have hck := hcl.at k
          have hle := stp_le (gbytes_byt (k := nn) (p := 0) bb) (p := p) (by omega) (cl.getD k (0, 0)).1 (cl.getD k (0, 0)).2
          rw [decide_eq_true q36]
          refine W_cond_t rfl ?_
          refine W_skip ?_
          refine W_seq ?_
          refine W_block ?_
          refine W_seq ?_
          refine W_region ?_
          refine Wl_v (r_mv (v := .pointer (some ⟨B53, 0, none⟩)) rfl) ?_
          refine Wl_v (r_mv (v := .slice aq m cq) rfl) ?_
          refine Wl_v (r_mv (v := .int .i64 ((k : Nat) : Int)) rfl) ?_
          refine Wl_idxr (0, 0) encCall_len (by decide) Try.underlying52 Try.sizeOf56 rfl rfl hq (by omega) (by omega) ?_
          intro ib61 io61 hc61
          try rw [Int.toNat_natCast] at hc61
          refine Wl_v (r_loada (cs := [.int .i64 ((cl.getD k (0, 0)).1), .int .i64 ((cl.getD k (0, 0)).2)]) Try.isAgg56 Try.sizeOf56 rfl rfl hc61) ?_
          refine Wl_call (r_call2 rfl Try.call31 rfl rfl) (ask_spec _ hB53 (hO53.sl.cur (by intro h1; have h3 : ((w3.heap.size ≤ B53 ∧ B53 ≠ B53) ∧ B53 < w53.heap.size) := h1; first | omega | simp at h3)) (gbytes_byt bb) (by omega) (by omega) (by omega)) ?_
          rintro v w62 ⟨a62, m62, c62, rfl, hp62, hO62, hm_62, hU62⟩
          have hzw62 := hU62.size
          replace hb := hb.upd1 hU62 (by intro h1; have h3 : B53 < w.heap.size := h1; omega)
          replace hq := hq.upd1 hU62 (by intro h1; have h3 : B53 < w.heap.size := h1; omega)
          replace HU := HU.trans1 hU62 (by show (False) ∨ w.heap.size ≤ B53; omega)
          replace hO2 := hO2.upd1 hU62 (by intro h1; have h3 : ((w.heap.size ≤ B53) ∧ B53 < w2.heap.size) := h1; omega)
          replace hO3 := hO3.upd1 hU62 (by intro h1; have h3 : ((w2.heap.size ≤ B53 ∧ B53 ≠ pb3) ∧ B53 < w3.heap.size) := h1; omega)
          replace hp53 := hp53.upd1 hU62 (by omega)
          replace hO53 := hO53.upd1 hU62 (by intro h1; have h3 : ((w3.heap.size ≤ B53 ∧ B53 ≠ B53) ∧ B53 < w53.heap.size) := h1; omega)
          replace hB54 := hB54.upd1 hU62 (by intro h1; have h3 : B53 < w.heap.size := h1; omega)
          replace hO57 := hO57.upd1 hU62 (by intro h1; have h3 : ((w56.heap.size ≤ B53) ∧ B53 < w57.heap.size) := h1; omega)
          replace hO59 := hO59.upd1 hU62 (by intro h1; have h3 : ((w58.heap.size ≤ B53 ∧ B53 ≠ pb59) ∧ B53 < w59.heap.size) := h1; omega)
          replace hp59 := hp59.upd1 hU62 (by omega)
          replace HL60 := HL60.trans1 hU62 (by show (B53 = B53 ∨ B53 = pb59) ∨ w59.heap.size ≤ B53; omega)
          have hbl_hp62 := hp62.lt
          replace hO62 := hO62.tight
          have hl_hO62 := ilen hO62.sl
          have hc_hO62 := hO62.sl.cap.1
          refine Wl_v (r_mv (v := .tuple #[.int .u64 ((stp ((gbytes bs 0 nn).1) p ((cl.getD k (0, 0)).1) ((cl.getD k (0, 0)).2)).1), .slice a62 m62 c62, .int .i64 ((stp ((gbytes bs 0 nn).1) p ((cl.getD k (0, 0)).1) ((cl.getD k (0, 0)).2)).2.2.2)]) rfl) ?_
          refine Wl_v (r_ext (v := .int .u64 ((stp ((gbytes bs 0 nn).1) p ((cl.getD k (0, 0)).1) ((cl.getD k (0, 0)).2)).1)) rfl rfl) ?_
          refine Wl_v (r_ext (v := .slice a62 m62 c62) rfl rfl) ?_
          refine Wl_v (r_ext (v := .int .i64 ((stp ((gbytes bs 0 nn).1) p ((cl.getD k (0, 0)).1) ((cl.getD k (0, 0)).2)).2.2.2)) rfl rfl) ?_
          refine Wl_v (r_as (v := .int .u64 ((stp ((gbytes bs 0 nn).1) p ((cl.getD k (0, 0)).1) ((cl.getD k (0, 0)).2)).1)) rfl) ?_
          refine Wl_v (r_as (v := .slice a62 m62 c62) rfl) ?_
          refine Wl_v (r_as (v := .int .i64 ((stp ((gbytes bs 0 nn).1) p ((cl.getD k (0, 0)).1) ((cl.getD k (0, 0)).2)).2.2.2)) rfl) ?_
          refine Wl_nil ?_
          refine W_seq ?_
          refine W_region ?_
          refine Wl_v (r_mv (v := .pointer (some ⟨pb59, 0, none⟩)) rfl) ?_
          refine Wl_v (r_mv (v := .slice aq m cq) rfl) ?_
          refine Wl_v (r_mv (v := .int .i64 ((k : Nat) : Int)) rfl) ?_
          refine Wl_idxr (0, 0) encCall_len (by decide) Try.underlying52 Try.sizeOf56 rfl rfl hq (by omega) (by omega) ?_
          intro ib63 io63 hc63
          try rw [Int.toNat_natCast] at hc63
          refine Wl_v (r_loada (cs := [.int .i64 ((cl.getD k (0, 0)).1), .int .i64 ((cl.getD k (0, 0)).2)]) Try.isAgg56 Try.sizeOf56 rfl rfl hc63) ?_
          refine Wl_call (r_call2 rfl Try.call31 rfl rfl) (ask_spec _ hp59 (hO59.sl.cur (by intro h1; have h3 : ((w58.heap.size ≤ pb59 ∧ pb59 ≠ pb59) ∧ pb59 < w59.heap.size) := h1; first | omega | simp at h3)) (gbytes_byt bb) (by omega) (by omega) (by omega)) ?_
          rintro v w64 ⟨a64, m64, c64, rfl, hp64, hO64, hm_64, hU64⟩
          have hzw64 := hU64.size
          replace hb := hb.upd1 hU64 (by intro h1; have h3 : pb59 < w.heap.size := h1; omega)
          replace hq := hq.upd1 hU64 (by intro h1; have h3 : pb59 < w.heap.size := h1; omega)
          replace HU := HU.trans1 hU64 (by show (False) ∨ w.heap.size ≤ pb59; omega)
          replace hO2 := hO2.upd1 hU64 (by intro h1; have h3 : ((w.heap.size ≤ pb59) ∧ pb59 < w2.heap.size) := h1; omega)
          replace hO3 := hO3.upd1 hU64 (by intro h1; have h3 : ((w2.heap.size ≤ pb59 ∧ pb59 ≠ pb3) ∧ pb59 < w3.heap.size) := h1; omega)
          replace hp53 := hp53.upd1 hU64 (by omega)
          replace hO53 := hO53.upd1 hU64 (by intro h1; have h3 : ((w3.heap.size ≤ pb59 ∧ pb59 ≠ B53) ∧ pb59 < w53.heap.size) := h1; omega)
          replace hB54 := hB54.upd1 hU64 (by intro h1; have h3 : pb59 < w.heap.size := h1; omega)
          replace hO57 := hO57.upd1 hU64 (by intro h1; have h3 : ((w56.heap.size ≤ pb59) ∧ pb59 < w57.heap.size) := h1; omega)
          replace hO59 := hO59.upd1 hU64 (by intro h1; have h3 : ((w58.heap.size ≤ pb59 ∧ pb59 ≠ pb59) ∧ pb59 < w59.heap.size) := h1; omega)
          replace HL60 := HL60.trans1 hU64 (by show (pb59 = B53 ∨ pb59 = pb59) ∨ w59.heap.size ≤ pb59; omega)
          replace hp62 := hp62.upd1 hU64 (by omega)
          replace hO62 := hO62.upd1 hU64 (by intro h1; have h3 : ((w60.heap.size ≤ pb59) ∧ pb59 < w62.heap.size) := h1; omega)
          have hbl_hp64 := hp64.lt
          replace hO64 := hO64.tight
          have hl_hO64 := ilen hO64.sl
          have hc_hO64 := hO64.sl.cap.1
          refine Wl_v (r_mv (v := .tuple #[.int .u64 ((stp ((gbytes bs 0 nn).1) p ((cl.getD k (0, 0)).1) ((cl.getD k (0, 0)).2)).1), .slice a64 m64 c64, .int .i64 ((stp ((gbytes bs 0 nn).1) p ((cl.getD k (0, 0)).1) ((cl.getD k (0, 0)).2)).2.2.2)]) rfl) ?_
          refine Wl_v (r_ext (v := .int .u64 ((stp ((gbytes bs 0 nn).1) p ((cl.getD k (0, 0)).1) ((cl.getD k (0, 0)).2)).1)) rfl rfl) ?_
          refine Wl_v (r_ext (v := .slice a64 m64 c64) rfl rfl) ?_
          refine Wl_v (r_ext (v := .int .i64 ((stp ((gbytes bs 0 nn).1) p ((cl.getD k (0, 0)).1) ((cl.getD k (0, 0)).2)).2.2.2)) rfl rfl) ?_
          refine Wl_v (r_as (v := .int .u64 ((stp ((gbytes bs 0 nn).1) p ((cl.getD k (0, 0)).1) ((cl.getD k (0, 0)).2)).1)) rfl) ?_
          refine Wl_v (r_as (v := .slice a64 m64 c64) rfl) ?_
          refine Wl_v (r_as (v := .int .i64 ((stp ((gbytes bs 0 nn).1) p ((cl.getD k (0, 0)).1) ((cl.getD k (0, 0)).2)).2.2.2)) rfl) ?_
          refine Wl_nil ?_
          refine W_seq ?_
          refine W_region ?_
          refine Wl_v (r_mv (v := .int .u64 ((stp ((gbytes bs 0 nn).1) p ((cl.getD k (0, 0)).1) ((cl.getD k (0, 0)).2)).1)) rfl) ?_
          refine Wl_v (r_mv (v := .int .u64 ((stp ((gbytes bs 0 nn).1) p ((cl.getD k (0, 0)).1) ((cl.getD k (0, 0)).2)).1)) rfl) ?_
          refine Wl_v (r_ne rfl rfl) ?_
          refine Wl_v (r_mv (v := .bool (decide (((stp ((gbytes bs 0 nn).1) p ((cl.getD k (0, 0)).1) ((cl.getD k (0, 0)).2)).1) ≠ ((stp ((gbytes bs 0 nn).1) p ((cl.getD k (0, 0)).1) ((cl.getD k (0, 0)).2)).1)))) rfl) ?_
          have q37 : ¬ (((stp ((gbytes bs 0 nn).1) p ((cl.getD k (0, 0)).1) ((cl.getD k (0, 0)).2)).1) ≠ ((stp ((gbytes bs 0 nn).1) p ((cl.getD k (0, 0)).1) ((cl.getD k (0, 0)).2)).1)) := (fun h => h rfl)
          rw [decide_eq_false q37]
          refine Wl_guard_t rfl ?_
          refine Wl_v (r_mv (v := .slice a62 m62 c62) rfl) ?_
          refine Wl_guard_t rfl ?_
          refine Wl_v (r_mv (v := .slice a64 m64 c64) rfl) ?_
          refine Wl_guard_t rfl ?_
          refine Wl_call (r_call2 rfl Try.call13 rfl rfl) (same_spec _ hO62.sl.any hO64.sl.any (stp_byt (gbytes_byt bb)) (stp_byt (gbytes_byt bb))) ?_
          rintro v w65 ⟨rfl, hU65⟩
          have hzw65 := hU65.size
          replace hb := hb.upd0 hU65
          replace hq := hq.upd0 hU65
          replace HU := HU.trans0 hU65
          replace hO2 := hO2.upd0 hU65
          replace hO3 := hO3.upd0 hU65
          replace hp53 := hp53.upd0 hU65
          replace hO53 := hO53.upd0 hU65
          replace hB54 := hB54.upd0 hU65
          replace hO57 := hO57.upd0 hU65
          replace hO59 := hO59.upd0 hU65
          replace HL60 := HL60.trans0 hU65
          replace hp62 := hp62.upd0 hU65
          replace hO62 := hO62.upd0 hU65
          replace hp64 := hp64.upd0 hU65
          replace hO64 := hO64.upd0 hU65
          refine Wl_guard_t rfl ?_
          refine Wl_v (r_not rfl) ?_
          refine Wl_v (r_pick_f (v := .bool (!decide (((stp ((gbytes bs 0 nn).1) p ((cl.getD k (0, 0)).1) ((cl.getD k (0, 0)).2)).2.1) = ((stp ((gbytes bs 0 nn).1) p ((cl.getD k (0, 0)).1) ((cl.getD k (0, 0)).2)).2.1)))) rfl rfl) ?_
          refine Wl_v (r_mv (v := .bool (!decide (((stp ((gbytes bs 0 nn).1) p ((cl.getD k (0, 0)).1) ((cl.getD k (0, 0)).2)).2.1) = ((stp ((gbytes bs 0 nn).1) p ((cl.getD k (0, 0)).1) ((cl.getD k (0, 0)).2)).2.1)))) rfl) ?_
          have q38 : ((stp ((gbytes bs 0 nn).1) p ((cl.getD k (0, 0)).1) ((cl.getD k (0, 0)).2)).2.1) = ((stp ((gbytes bs 0 nn).1) p ((cl.getD k (0, 0)).1) ((cl.getD k (0, 0)).2)).2.1) := rfl
          rw [decide_eq_true q38]
          simp only [Bool.not_true, Bool.not_false]
          refine Wl_guard_t rfl ?_
          refine Wl_v (r_mv (v := .int .i64 ((stp ((gbytes bs 0 nn).1) p ((cl.getD k (0, 0)).1) ((cl.getD k (0, 0)).2)).2.2.2)) rfl) ?_
          refine Wl_guard_t rfl ?_
          refine Wl_v (r_mv (v := .int .i64 ((stp ((gbytes bs 0 nn).1) p ((cl.getD k (0, 0)).1) ((cl.getD k (0, 0)).2)).2.2.2)) rfl) ?_
          refine Wl_guard_t rfl ?_
          refine Wl_v (r_ne rfl rfl) ?_
          refine Wl_v (r_pick_f (v := .bool (decide (((stp ((gbytes bs 0 nn).1) p ((cl.getD k (0, 0)).1) ((cl.getD k (0, 0)).2)).2.2.2) ≠ ((stp ((gbytes bs 0 nn).1) p ((cl.getD k (0, 0)).1) ((cl.getD k (0, 0)).2)).2.2.2)))) rfl rfl) ?_
          refine Wl_v (r_mv (v := .bool (decide (((stp ((gbytes bs 0 nn).1) p ((cl.getD k (0, 0)).1) ((cl.getD k (0, 0)).2)).2.2.2) ≠ ((stp ((gbytes bs 0 nn).1) p ((cl.getD k (0, 0)).1) ((cl.getD k (0, 0)).2)).2.2.2)))) rfl) ?_
          have q39 : ¬ (((stp ((gbytes bs 0 nn).1) p ((cl.getD k (0, 0)).1) ((cl.getD k (0, 0)).2)).2.2.2) ≠ ((stp ((gbytes bs 0 nn).1) p ((cl.getD k (0, 0)).1) ((cl.getD k (0, 0)).2)).2.2.2)) := (fun h => h rfl)
          rw [decide_eq_false q39]
          refine Wl_guard_t rfl ?_
          refine Wl_v (r_mv (v := .pointer (some ⟨B53, 0, none⟩)) rfl) ?_
          refine Wl_guard_t rfl ?_
          refine Wl_call (r_call1 rfl Try.call24 rfl) (at_spec _ hp62 (by omega) (by omega) (by omega)) ?_
          rintro v w66 ⟨rfl, hU66⟩
          have hzw66 := hU66.size
          replace hb := hb.upd0 hU66
          replace hq := hq.upd0 hU66
          replace HU := HU.trans0 hU66
          replace hO2 := hO2.upd0 hU66
          replace hO3 := hO3.upd0 hU66
          replace hp53 := hp53.upd0 hU66
          replace hO53 := hO53.upd0 hU66
          replace hB54 := hB54.upd0 hU66
          replace hO57 := hO57.upd0 hU66
          replace hO59 := hO59.upd0 hU66
          replace HL60 := HL60.trans0 hU66
          replace hp62 := hp62.upd0 hU66
          replace hO62 := hO62.upd0 hU66
          replace hp64 := hp64.upd0 hU66
          replace hO64 := hO64.upd0 hU66
          refine Wl_guard_t rfl ?_
          refine Wl_v (r_mv (v := .pointer (some ⟨pb59, 0, none⟩)) rfl) ?_
          refine Wl_guard_t rfl ?_
          refine Wl_call (r_call1 rfl Try.call24 rfl) (at_spec _ hp64 (by omega) (by omega) (by omega)) ?_
          rintro v w67 ⟨rfl, hU67⟩
          have hzw67 := hU67.size
          replace hb := hb.upd0 hU67
          replace hq := hq.upd0 hU67
          replace HU := HU.trans0 hU67
          replace hO2 := hO2.upd0 hU67
          replace hO3 := hO3.upd0 hU67
          replace hp53 := hp53.upd0 hU67
          replace hO53 := hO53.upd0 hU67
          replace hB54 := hB54.upd0 hU67
          replace hO57 := hO57.upd0 hU67
          replace hO59 := hO59.upd0 hU67
          replace HL60 := HL60.trans0 hU67
          replace hp62 := hp62.upd0 hU67
          replace hO62 := hO62.upd0 hU67
          replace hp64 := hp64.upd0 hU67
          replace hO64 := hO64.upd0 hU67
          refine Wl_guard_t rfl ?_
          refine Wl_v (r_ne rfl rfl) ?_
          refine Wl_v (r_pick_f (v := .bool (decide ((((stp ((gbytes bs 0 nn).1) p ((cl.getD k (0, 0)).1) ((cl.getD k (0, 0)).2)).2.2.1 : Nat) : Int) ≠ (((stp ((gbytes bs 0 nn).1) p ((cl.getD k (0, 0)).1) ((cl.getD k (0, 0)).2)).2.2.1 : Nat) : Int)))) rfl rfl) ?_
          refine Wl_nil ?_
          have q40 : ¬ ((((stp ((gbytes bs 0 nn).1) p ((cl.getD k (0, 0)).1) ((cl.getD k (0, 0)).2)).2.2.1 : Nat) : Int) ≠ (((stp ((gbytes bs 0 nn).1) p ((cl.getD k (0, 0)).1) ((cl.getD k (0, 0)).2)).2.2.1 : Nat) : Int)) := (fun h => h rfl)
          rw [decide_eq_false q40]
          refine W_cond_f rfl ?_
          refine W_skip ?_
          refine W_region ?_
          refine Wl_v (r_mv (v := .int .i64 ((k : Nat) : Int)) rfl) ?_
          refine Wl_v (r_add rfl rfl (wi64 (by omega) (by omega))) ?_
          refine Wl_v (r_as (v := .int .i64 (((k : Nat) : Int) + 1)) rfl) ?_
          refine Wl_nil ?_
          refine ⟨_, ?_, (k + 1), (stp ((gbytes bs 0 nn).1) p (cl.getD k (0, 0)).1 (cl.getD k (0, 0)).2).2.2.1, rfl, rfl, ⟨rfl, rfl, rfl, rfl, rfl, rfl, (by first | rfl | exact vint (by omega) | exact vint (by simp)), trivial⟩, (by omega), (by omega), hp62, hp64, HL60⟩
          omega
        · rw [decide_eq_false q36]
          refine W_cond_f rfl ?_
          refine W_exit ?_
          refine W_seq ?_
          refine W_drawt rfl (l0 := #[false, false, false, false, false, false, false, false, false, false, false, false, false, false, false, false]) (by kernel_rfl) ?_
          refine Wt_take (i := 0) (listed' := #[true, false, false, false, false, false, false, false, false, false, false, false, false, false, false, false]) (by kernel_rfl) rfl (by kernel_rfl) (by kernel_rfl) (by kernel_rfl) (by kernel_rfl) (YI_v (v := .pointer (some ⟨pb3, 0, none⟩)) rfl (fun w' hw' => r_mv (v := .pointer (some ⟨pb3, 0, none⟩)) rfl)) ?_
          refine Wt_take (i := 1) (listed' := #[true, true, false, false, false, false, false, false, false, false, false, false, false, false, false, false]) (by kernel_rfl) rfl (by kernel_rfl) (by kernel_rfl) (by kernel_rfl) (by kernel_rfl) (YI_c (v := .int .i64 (((gbytes bs 0 nn).2.1 : Nat) : Int)) rfl (fun w' => r_call1 rfl Try.call24 rfl) (fun w' hw' => at_spec w' (hp53.upd0 hw') (by omega) (by omega) (by omega))) ?_
          refine Wt_take (i := 2) (listed' := #[true, true, true, false, false, false, false, false, false, false, false, false, false, false, false, false]) (by kernel_rfl) rfl (by kernel_rfl) (by kernel_rfl) (by kernel_rfl) (by kernel_rfl) (YI_v (v := .int .i64 (((gbytes bs 0 nn).2.1 : Nat) : Int)) rfl (fun w' hw' => r_mv (v := .int .i64 (((gbytes bs 0 nn).2.1 : Nat) : Int)) rfl)) ?_
          refine Wt_take (i := 3) (listed' := #[true, true, true, true, false, false, false, false, false, false, false, false, false, false, false, false]) (by kernel_rfl) rfl (by kernel_rfl) (by kernel_rfl) (by kernel_rfl) (by kernel_rfl) (YI_v (v := .bool (decide ((((gbytes bs 0 nn).2.1 : Nat) : Int) = (((gbytes bs 0 nn).2.1 : Nat) : Int)))) rfl (fun w' hw' => r_eq rfl rfl)) ?_
          refine Wt_take (i := 4) (listed' := #[true, true, true, true, true, false, false, false, false, false, false, false, false, false, false, false]) (by kernel_rfl) rfl (by kernel_rfl) (by kernel_rfl) (by kernel_rfl) (by kernel_rfl) (YI_v (v := .bool (decide ((((gbytes bs 0 nn).2.1 : Nat) : Int) = (((gbytes bs 0 nn).2.1 : Nat) : Int)))) rfl (fun w' hw' => r_mv (v := .bool (decide ((((gbytes bs 0 nn).2.1 : Nat) : Int) = (((gbytes bs 0 nn).2.1 : Nat) : Int)))) rfl)) ?_
          have q41 : (((gbytes bs 0 nn).2.1 : Nat) : Int) = (((gbytes bs 0 nn).2.1 : Nat) : Int) := (Classical.not_not.1 q34)
          rw [decide_eq_true q41]
          refine Wt_take (i := 5) (listed' := #[true, true, true, true, true, true, false, false, false, false, false, false, false, false, false, false]) (by kernel_rfl) rfl (by kernel_rfl) (by kernel_rfl) (by kernel_rfl) (by kernel_rfl) (YI_v (v := .pointer (some ⟨pb3, 0, none⟩)) rfl (fun w' hw' => r_mv (v := .pointer (some ⟨pb3, 0, none⟩)) rfl)) ?_
          refine Wt_take (i := 7) (listed' := #[true, true, true, true, true, true, false, true, false, false, false, false, false, false, false, false]) (by kernel_rfl) rfl (by kernel_rfl) (by kernel_rfl) (by kernel_rfl) (by kernel_rfl) (YI_v (v := .slice a n c) rfl (fun w' hw' => r_mv (v := .slice a n c) rfl)) ?_
          refine Wt_take (i := 8) (listed' := #[true, true, true, true, true, true, false, true, true, false, false, false, false, false, false, false]) (by kernel_rfl) rfl (by kernel_rfl) (by kernel_rfl) (by kernel_rfl) (by kernel_rfl) (YI_v (v := .int .i64 (((gbytes bs 0 nn).2.1 : Nat) : Int)) rfl (fun w' hw' => r_mv (v := .int .i64 (((gbytes bs 0 nn).2.1 : Nat) : Int)) rfl)) ?_
          refine Wt_take (i := 9) (listed' := #[true, true, true, true, true, true, false, true, true, true, false, false, false, false, false, false]) (by kernel_rfl) rfl (by kernel_rfl) (by kernel_rfl) (by kernel_rfl) (by kernel_rfl) (YI_v (v := .slice (if c = ((gbytes bs 0 nn).2.1) then a else a.map (·.add (((gbytes bs 0 nn).2.1) * 1))) (n - ((gbytes bs 0 nn).2.1)) (c - ((gbytes bs 0 nn).2.1))) rfl (fun w' hw' => r_slicelen (l' := ((gbytes bs 0 nn).2.1)) (n' := n - ((gbytes bs 0 nn).2.1)) Try.underlying22 Try.sizeOf5 rfl rfl (by omega) (by omega) (by omega))) ?_
          have hT68 := Sl.cutl (l := ((gbytes bs 0 nn).2.1)) (n := n - ((gbytes bs 0 nn).2.1)) hb (by omega) (by omega)
          have hl_hT68 := ilen hT68
          have hc_hT68 := hT68.cap.1
          intro w69 hU69
          have hzw69 := hU69.size
          replace hb := hb.upd0 hU69
          replace hq := hq.upd0 hU69
          replace HU := HU.trans0 hU69
          replace hO2 := hO2.upd0 hU69
          replace hO3 := hO3.upd0 hU69
          replace hp53 := hp53.upd0 hU69
          replace hO53 := hO53.upd0 hU69
          replace hB54 := hB54.upd0 hU69
          replace hO57 := hO57.upd0 hU69
          replace hO59 := hO59.upd0 hU69
          replace hB53 := hB53.upd0 hU69
          replace hp59 := hp59.upd0 hU69
          replace HL60 := HL60.trans0 hU69
          replace hT68 := hT68.upd0 hU69
          refine Wa_one (i := 6) (listed' := #[true, true, true, true, true, true, true, true, true, true, false, false, false, false, false, false]) (by kernel_rfl) rfl (by kernel_rfl) ?_
          refine Ws_of_Wl ?_
          have hW : Upd No w60 w69 := hU69
          refine Wl_guard_t rfl ?_
          refine Wl_call (r_call1 rfl Try.call25 rfl) (rest_spec _ hp53 (hO3.sl.cur (by intro h1; have h3 : ((w2.heap.size ≤ pb3 ∧ pb3 ≠ pb3) ∧ pb3 < w3.heap.size) := h1; first | omega | simp at h3)) bb (by omega) (by omega)) ?_
          rintro v w70 ⟨a70, c70, rfl, hO70, hU70⟩
          have hzw70 := hU70.size
          replace hb := hb.upd0 hU70
          replace hq := hq.upd0 hU70
          replace HU := HU.trans0 hU70
          replace hO2 := hO2.upd0 hU70
          replace hO3 := hO3.upd0 hU70
          replace hp53 := hp53.upd0 hU70
          replace hO53 := hO53.upd0 hU70
          replace hB54 := hB54.upd0 hU70
          replace hO57 := hO57.upd0 hU70
          replace hO59 := hO59.upd0 hU70
          replace hB53 := hB53.upd0 hU70
          replace hp59 := hp59.upd0 hU70
          replace HL60 := HL60.trans0 hU70
          replace hT68 := hT68.upd0 hU70
          try replace hW := hW.trans0 hU70
          replace hO70 := hO70.tight
          have hl_hO70 := ilen hO70.sl
          have hc_hO70 := hO70.sl.cap.1
          refine Wl_nil ?_
          intro w71 hS71
          have hX : Upd No w60 w71 := hW.trans0 hS71.upd
          refine ⟨fun _ => ⟨hX, ?_⟩, fun h => absurd h (by rw [show barOp _ 6 = false from by kernel_rfl]; simp)⟩
          have hU71 := hS71.upd
          have hzw71 := hU71.size
          replace hb := hb.upd0 hU71
          replace hq := hq.upd0 hU71
          replace HU := HU.trans0 hU71
          replace hO2 := hO2.upd0 hU71
          replace hO3 := hO3.upd0 hU71
          replace hp53 := hp53.upd0 hU71
          replace hO53 := hO53.upd0 hU71
          replace hB54 := hB54.upd0 hU71
          replace hO57 := hO57.upd0 hU71
          replace hO59 := hO59.upd0 hU71
          replace hB53 := hB53.upd0 hU71
          replace hp59 := hp59.upd0 hU71
          replace HL60 := HL60.trans0 hU71
          replace hT68 := hT68.upd0 hU71
          replace hO70 := hO70.upd0 hU71
          try replace hW := hW.trans0 hU71
          refine Wt_base hX ?_
          refine Wt_take (i := 10) (listed' := #[true, true, true, true, true, true, true, true, true, true, true, false, false, false, false, false]) (by kernel_rfl) rfl (by kernel_rfl) (by kernel_rfl) (by kernel_rfl) (by kernel_rfl) (YI_c (v := .bool (decide ((bs.drop ((gbytes bs 0 nn).2.1)) = (bs.drop ((gbytes bs 0 nn).2.1))))) rfl (fun w' => r_call2 rfl Try.call13 rfl rfl) (fun w' hw' => same_spec w' ((hO70.upd0 hw').sl.any) ((hT68.upd0 hw').any) (byt_drop bb _) (byt_drop bb _))) ?_
          refine Wt_take (i := 11) (listed' := #[true, true, true, true, true, true, true, true, true, true, true, true, false, false, false, false]) (by kernel_rfl) rfl (by kernel_rfl) (by kernel_rfl) (by kernel_rfl) (by kernel_rfl) (YI_v rfl (fun w' hw' => r_pick_t (v := .bool (decide ((bs.drop ((gbytes bs 0 nn).2.1)) = (bs.drop ((gbytes bs 0 nn).2.1))))) rfl rfl)) ?_
          refine Wt_take (i := 12) (listed' := #[true, true, true, true, true, true, true, true, true, true, true, true, true, false, false, false]) (by kernel_rfl) rfl (by kernel_rfl) (by kernel_rfl) (by kernel_rfl) (by kernel_rfl) (YI_v (v := .bool (decide ((bs.drop ((gbytes bs 0 nn).2.1)) = (bs.drop ((gbytes bs 0 nn).2.1))))) rfl (fun w' hw' => r_mv (v := .bool (decide ((bs.drop ((gbytes bs 0 nn).2.1)) = (bs.drop ((gbytes bs 0 nn).2.1))))) rfl)) ?_
          have q42 : (bs.drop ((gbytes bs 0 nn).2.1)) = (bs.drop ((gbytes bs 0 nn).2.1)) := rfl
          rw [decide_eq_true q42]
          refine Wt_take (i := 13) (listed' := #[true, true, true, true, true, true, true, true, true, true, true, true, true, true, false, false]) (by kernel_rfl) rfl (by kernel_rfl) (by kernel_rfl) (by kernel_rfl) (by kernel_rfl) (YI_c (v := .bool true) rfl (fun w' => r_call0 rfl Try.call19 ) (fun w' hw' => known_spec w' )) ?_
          refine Wt_take (i := 14) (listed' := #[true, true, true, true, true, true, true, true, true, true, true, true, true, true, true, false]) (by kernel_rfl) rfl (by kernel_rfl) (by kernel_rfl) (by kernel_rfl) (by kernel_rfl) (YI_v rfl (fun w' hw' => r_pick_t (v := .bool true) rfl rfl)) ?_
          refine Wt_take (i := 15) (listed' := #[true, true, true, true, true, true, true, true, true, true, true, true, true, true, true, true]) (by kernel_rfl) rfl (by kernel_rfl) (by kernel_rfl) (by kernel_rfl) (by kernel_rfl) (YI_v (v := .bool true) rfl (fun w' hw' => r_as (v := .bool true) rfl)) ?_
          intro w72 hU72
          have hzw72 := hU72.size
          replace hb := hb.upd0 hU72
          replace hq := hq.upd0 hU72
          replace HU := HU.trans0 hU72
          replace hO2 := hO2.upd0 hU72
          replace hO3 := hO3.upd0 hU72
          replace hp53 := hp53.upd0 hU72
          replace hO53 := hO53.upd0 hU72
          replace hB54 := hB54.upd0 hU72
          replace hO57 := hO57.upd0 hU72
          replace hO59 := hO59.upd0 hU72
          replace hB53 := hB53.upd0 hU72
          replace hp59 := hp59.upd0 hU72
          replace HL60 := HL60.trans0 hU72
          replace hT68 := hT68.upd0 hU72
          replace hO70 := hO70.upd0 hU72
          try replace hW := hW.trans0 hU72
          refine Wa_done (by kernel_rfl) ?_
          refine W_ret ?_
          refine ret_end (v := .bool true) rfl (res1 Try.results11 rfl) ?_
          exact ⟨_, rfl, rfl, HU⟩
      · refine Wl_call (r_call2 rfl Try.call33 rfl rfl) (csub_no (p := 0) _ hp3 (hO3.sl.cur (by intro h1; have h3 : ((w2.heap.size ≤ pb3 ∧ pb3 ≠ pb3) ∧ pb3 < w3.heap.size) := h1; first | omega | simp at h3)) bb (by omega) (by omega) q32) ?_
        rintro v w73 ⟨rfl, hp73, hU73⟩
        have hzw73 := hU73.size
        replace hb := hb.upd1 hU73 (by intro h1; have h3 : pb3 < w.heap.size := h1; omega)
        replace hq := hq.upd1 hU73 (by intro h1; have h3 : pb3 < w.heap.size := h1; omega)
        replace HU := HU.trans1 hU73 (by show (False) ∨ w.heap.size ≤ pb3; omega)
        replace hO2 := hO2.upd1 hU73 (by intro h1; have h3 : ((w.heap.size ≤ pb3) ∧ pb3 < w2.heap.size) := h1; omega)
        replace hO3 := hO3.upd1 hU73 (by intro h1; have h3 : ((w2.heap.size ≤ pb3 ∧ pb3 ≠ pb3) ∧ pb3 < w3.heap.size) := h1; omega)
        have hbl_hp73 := hp73.lt
        refine Wl_v (r_mv (v := .tuple #[.pointer none, .int .i64 ((gbytes bs 0 nn).2.2)]) rfl) ?_
        refine Wl_v (r_ext (v := .pointer none) rfl rfl) ?_
        refine Wl_v (r_ext (v := .int .i64 ((gbytes bs 0 nn).2.2)) rfl rfl) ?_
        refine Wl_v (r_as (v := .pointer none) rfl) ?_
        refine Wl_v (r_as (v := .int .i64 ((gbytes bs 0 nn).2.2)) rfl) ?_
        refine Wl_nil ?_
        refine W_seq ?_
        refine W_region ?_
        refine Wl_v (r_mv (v := .slice a n c) rfl) ?_
        refine Wl_v (r_mv (v := .int .i64 0) rfl) ?_
        refine Wl_v (r_mv (v := .int .i64 nn) rfl) ?_
        refine Wl_call (r_call3 rfl Try.call34 rfl rfl rfl) (rbytes_spec (p := 0) _ hb bb (by omega) (by omega)) ?_
        rintro v w74 ⟨a74, m74, c74, rfl, hB74, hm_74, hU74⟩
        have hzw74 := hU74.size
        replace hb := hb.upd0 hU74
        replace hq := hq.upd0 hU74
        replace HU := HU.trans0 hU74
        replace hO2 := hO2.upd0 hU74
        replace hO3 := hO3.upd0 hU74
        replace hp73 := hp73.upd0 hU74
        have hl_hB74 := ilen hB74
        have hc_hB74 := hB74.cap.1
        refine Wl_v (r_mv (v := .tuple #[.slice a74 m74 c74, .int .i64 (((gbytes bs 0 nn).2.1 : Nat) : Int), .int .i64 ((gbytes bs 0 nn).2.2)]) rfl) ?_
        refine Wl_v (r_ext (v := .slice a74 m74 c74) rfl rfl) ?_
        refine Wl_v (r_ext (v := .int .i64 (((gbytes bs 0 nn).2.1 : Nat) : Int)) rfl rfl) ?_
        refine Wl_v (r_ext (v := .int .i64 ((gbytes bs 0 nn).2.2)) rfl rfl) ?_
        refine Wl_v (r_as (v := .slice a74 m74 c74) rfl) ?_
        refine Wl_v (r_as (v := .int .i64 (((gbytes bs 0 nn).2.1 : Nat) : Int)) rfl) ?_
        refine Wl_v (r_as (v := .int .i64 ((gbytes bs 0 nn).2.2)) rfl) ?_
        refine Wl_nil ?_
        refine W_seq ?_
        refine W_seq ?_
        refine W_region ?_
        refine Wl_v (r_mv (v := .int .i64 ((gbytes bs 0 nn).2.2)) rfl) ?_
        refine Wl_v (r_ne rfl rfl) ?_
        refine Wl_nil ?_
        have q43 : ((gbytes bs 0 nn).2.2) ≠ 0 := q32
        rw [decide_eq_true q43]
        refine W_cond_t rfl ?_
        refine W_seq ?_
        refine W_region ?_
        refine Wl_v (r_mv (v := .int .i64 ((gbytes bs 0 nn).2.2)) rfl) ?_
        refine Wl_v (r_mv (v := .int .i64 ((gbytes bs 0 nn).2.2)) rfl) ?_
        refine Wl_v (r_eq rfl rfl) ?_
        refine Wl_v (r_mv (v := .bool (decide (((gbytes bs 0 nn).2.2) = ((gbytes bs 0 nn).2.2)))) rfl) ?_
        have q44 : ((gbytes bs 0 nn).2.2) = ((gbytes bs 0 nn).2.2) := rfl
        rw [decide_eq_true q44]
        refine Wl_guard_t rfl ?_
        refine Wl_v (r_mv (v := .pointer none) rfl) ?_
        refine Wl_guard_t rfl ?_
        refine Wl_v (r_eqpn_n Try.underlying38 rfl rfl) ?_
        refine Wl_v (r_pick_t (v := .bool true) rfl rfl) ?_
        refine Wl_v (r_mv (v := .bool true) rfl) ?_
        refine Wl_guard_t rfl ?_
        refine Wl_v (r_mv (v := .pointer (some ⟨pb3, 0, none⟩)) rfl) ?_
        refine Wl_guard_t rfl ?_
        refine Wl_call (r_call1 rfl Try.call24 rfl) (at_spec _ hp73 (by omega) (by omega) (by omega)) ?_
        rintro v w75 ⟨rfl, hU75⟩
        have hzw75 := hU75.size
        replace hb := hb.upd0 hU75
        replace hq := hq.upd0 hU75
        replace HU := HU.trans0 hU75
        replace hO2 := hO2.upd0 hU75
        replace hO3 := hO3.upd0 hU75
        replace hp73 := hp73.upd0 hU75
        replace hB74 := hB74.upd0 hU75
        refine Wl_guard_t rfl ?_
        refine Wl_v (r_mv (v := .int .i64 0) rfl) ?_
        refine Wl_guard_t rfl ?_
        refine Wl_v (r_eq rfl rfl) ?_
        refine Wl_v (r_pick_t (v := .bool (decide (((0 : Nat) : Int) = 0))) rfl rfl) ?_
        refine Wl_v (r_mv (v := .bool (decide (((0 : Nat) : Int) = 0))) rfl) ?_
        have q45 : ((0 : Nat) : Int) = 0 := (by decide)
        rw [decide_eq_true q45]
        refine Wl_guard_t rfl ?_
        refine Wl_call (r_call0 rfl Try.call19 ) (known_spec _ ) ?_
        rintro v w76 ⟨rfl, hU76⟩
        have hzw76 := hU76.size
        replace hb := hb.upd0 hU76
        replace hq := hq.upd0 hU76
        replace HU := HU.trans0 hU76
        replace hO2 := hO2.upd0 hU76
        replace hO3 := hO3.upd0 hU76
        replace hp73 := hp73.upd0 hU76
        replace hB74 := hB74.upd0 hU76
        refine Wl_v (r_pick_t (v := .bool true) rfl rfl) ?_
        refine Wl_v (r_as (v := .bool true) rfl) ?_
        refine Wl_nil ?_
        refine W_ret ?_
        refine ret_end (v := .bool true) rfl (res1 Try.results11 rfl) ?_
        exact ⟨_, rfl, rfl, HU⟩

end Go.Proofs.Ytigojafhogjnfaa
