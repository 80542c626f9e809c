/-
  Walks, printed by a small program of this project (gen.py).
-/
import Derived.Test.YtflmjdnhjbiobaaWb
import Derived.Test.YtflmjdnhjbiobaaPb
set_option linter.unusedVariables false
set_option linter.unusedSimpArgs false
namespace Go.Proofs.Ytflmjdnhjbiobaa
open Go.Fw

set_option maxRecDepth 100000 in
theorem putword_spec {a : Option Addr} {m c : Nat} {bs : List Int} {n : Int} (w : World) (hs : Sl w (fun g => g < w.heap.size) 1 (.slice a m c) m (ints .u8 bs)) (hm : m + 4 ≤ 140737488355328) (h0 : 0 ≤ n) (h1 : n < 4294967296) :
    Calls Try.prog 35 #[.slice a m c, .int .u32 n] w (Ret fun v w' => ∃ a' c', v = .slice a' (m + 4) c' ∧ Own w' (Ge w.heap.size) 5 1 (.slice a' (m + 4) c') (m + 4) (ints .u8 (bs ++ word n)) ∧ Upd No w w') := by
  have HU : Upd (fun b => False) w w := Upd.refl _ _
  refine calls_of_W Try.func35 rfl Try.ntmps35 (by simp) ?_
  refine W_seq ?_
  refine W_region ?_
  refine Wl_v (r_as (v := .slice none 0 0) rfl) ?_
  refine Wl_nil ?_
  refine W_seq ?_
  refine W_region ?_
  refine Wl_v (r_mv (v := .slice a m c) rfl) ?_
  refine Wl_call (r_call1 rfl Try.call39 rfl) (clone_spec _ hs one_ints (by omega)) ?_
  rintro v w1 ⟨a1, c1, rfl, hO, hU1⟩
  have hzw1 := hU1.size
  replace hs := hs.upd0 hU1
  replace HU := HU.trans0 hU1
  replace hO := hO.tight
  refine Wl_v (r_as (v := .slice a1 m c1) rfl) ?_
  refine Wl_nil ?_
  refine W_seq ?_
  refine W_seq ?_
  refine W_region ?_
  refine Wl_v (r_mv (v := .int .i64 0) rfl) ?_
  refine Wl_nil ?_
  refine W_block ?_
  refine W_loop (fun mu ρ ds w' => ∃ (k : Nat) (a2 : Option Addr) (c2 : Nat), 4 - k = mu ∧ ds = [] ∧ Liv ρ [(0, .slice a m c), (1, .int .u32 (n / 256 ^ k)), (4, .slice none 0 0), (5, .slice a2 (m + k) c2), (8, .int .i64 ((k : Nat) : Int))] ∧ k ≤ 4 ∧ Own w' (fun g => w.heap.size ≤ g) 5 1 (.slice a2 (m + k) c2) (m + k) (ints .u8 (bs ++ (word n).take k)) ∧ Upd (fun g => w.heap.size ≤ g) w1 w') _ ⟨0, a1, c1, rfl, rfl, ⟨rfl, (Eq.trans (b := .int .u32 n) rfl (by simp)), rfl, rfl, rfl, trivial⟩, (by omega), (by simpa using hO.weak (R' := Ge w.heap.size) (by intro g hg; have h3 : ((w.heap.size ≤ g) ∧ g < w1.heap.size) := hg; show _ ≤ _; omega)), Upd.refl _ _⟩ ?_
  rintro m2 ρ2 ds2 w2 ⟨k, a2, c2, rfl, rfl, hl2, hk4, hO, hU2⟩
  obtain ⟨ρ2x, rfl⟩ : ∃ ρx, ρ2 = upds ρx [(0, .slice a m c), (1, .int .u32 (n / 256 ^ k)), (4, .slice none 0 0), (5, .slice a2 (m + k) c2), (8, .int .i64 ((k : Nat) : Int))] := ⟨_, upds_self hl2⟩
  clear hl2
  have hzw2 := hU2.size
  replace hs := hs.upd hU2 (by intro x h1 h2; have h3 : x < w.heap.size := h1; have h4 : w.heap.size ≤ x := h2; omega)
  replace HU := HU.trans hU2 (by intro x hx; have hx2 : w.heap.size ≤ x := hx; show (False) ∨ w.heap.size ≤ x; omega)
  have HL2 := hU2
  refine W_seq ?_
  refine W_region ?_
  refine Wl_v (r_lt rfl rfl) ?_
  refine Wl_nil ?_
  refine W_seq ?_
  by_cases q1 : ((k : Nat) : Int) < 4
  · have hk : k < 4 := by omega
    replace hO := hO.tight
    have hp0 := word_sh h0 h1 hk
    rw [decide_eq_true q1]
    refine W_cond_t rfl ?_
    refine W_skip ?_
    refine W_seq ?_
    refine W_block ?_
    refine W_seq ?_
    refine W_region ?_
    refine Wl_v (r_mv (v := .slice a2 (m + k) c2) rfl) ?_
    refine Wl_v (r_mv (v := .int .u32 (n / 256 ^ k)) rfl) ?_
    refine Wl_v (r_cvt Try.underlying32 Try.underlying5 rfl (mu8 _)) ?_
    refine Wl_lit (pv := [(0, .int .u8 ((n / 256 ^ k) % 256))]) (cs := [.int .u8 ((n / 256 ^ k) % 256)]) Try.underlying35 Try.sizeOf5 Try.zeroValue5 (by decide) (by decide) (by simp only [List.map_toArray, List.map_cons, List.map_nil] <;> rfl) (by kernel_rfl) rfl (by decide) ?_
    intro B3 w3 hB3 hU3 hzz3 hs3
    have hzw3 := hU3.size
    replace hs := hs.upd0 hU3
    replace HU := HU.trans0 hU3
    replace hO := hO.upd0 hU3
    replace HL2 := HL2.trans0 hU3
    replace hs3 : Own w3 (Is B3) 5 1 (.slice (some ⟨B3, 0, none⟩) 1 1) 1 (ints .u8 [(n / 256 ^ k) % 256]) := hs3
    refine Wl_append Try.underlying35 (ti := Try.t5) (z := .int .u8 0) (sz := 1) (by' := 1) rfl rfl rfl rfl rfl (by decide) rfl hO rfl hs3.sl (by intro u hu; simp at hu; subst hu; rfl) (by simp only [maxLen]; omega) (by omega) ?_
    clear hO
    intro a4 c4 w4 hU4 hzz4 hO
    have hzw4 := hU4.size
    replace hs := hs.upd hU4 (by intro x h1 h2; have h3 : x < w.heap.size := h1; have h4 : ((w.heap.size ≤ x) ∧ x < w2.heap.size) := h2; omega)
    replace HU := HU.trans hU4 (by intro x hx; have hx2 : ((w.heap.size ≤ x) ∧ x < w2.heap.size) := hx; show (False) ∨ w.heap.size ≤ x; omega)
    replace HL2 := HL2.trans hU4 (by intro x hx; have hx2 : ((w.heap.size ≤ x) ∧ x < w2.heap.size) := hx; show (w.heap.size ≤ x) ∨ w1.heap.size ≤ x; omega)
    replace hs3 := hs3.upd hU4 (by intro x h1 h2; have h3 : x = B3 := h1; have h4 : ((w.heap.size ≤ x) ∧ x < w2.heap.size) := h2; omega)
    refine Wl_v (r_as (v := .slice a4 ((m + k) + 1) c4) rfl) ?_
    refine Wl_nil ?_
    refine W_region ?_
    refine Wl_v (r_mv (v := .int .u32 (n / 256 ^ k)) rfl) ?_
    refine Wl_v (r_shr (c := (n / 256 ^ k) / 256) rfl rfl (by decide) rfl) ?_
    refine Wl_v (r_as (v := .int .u32 ((n / 256 ^ k) / 256)) rfl) ?_
    refine Wl_nil ?_
    refine W_region ?_
    refine Wl_v (r_add rfl rfl (wi64 (by omega) (by omega))) ?_
    refine Wl_v (r_mv (v := .int .i64 (((k : Nat) : Int) + 1)) rfl) ?_
    refine Wl_nil ?_
    refine ⟨_, ?_, (k + 1), a4, c4, rfl, rfl, ⟨rfl, (Eq.trans (b := .int .u32 ((n / 256 ^ k) / 256)) rfl (word_step)), rfl, rfl, (Eq.trans (b := .int .i64 (((k : Nat) : Int) + 1)) rfl (vint (by omega))), trivial⟩, (by omega), (by rw [word_take h0 h1 hk]; simpa [Nat.add_assoc] using hO.weak (by intro g hg; have h3 : ((((w.heap.size ≤ g) ∧ g < w2.heap.size)) ∨ g = w3.heap.size) := hg; show _ ≤ _; omega)), HL2⟩
    omega
  · rw [decide_eq_false q1]
    refine W_cond_f rfl ?_
    refine W_exit ?_
    refine W_seq ?_
    refine W_region ?_
    refine Wl_v (r_mv (v := .slice a2 (m + k) c2) rfl) ?_
    refine Wl_v (r_as (v := .slice a2 (m + k) c2) rfl) ?_
    refine Wl_nil ?_
    refine W_ret ?_
    refine ret_end (v := .slice a2 (m + k) c2) rfl (res1 Try.results35 rfl) ?_
    obtain rfl : k = 4 := by omega
    exact ⟨_, rfl, _, _, rfl, hO.weak (R' := Ge w.heap.size) (by intro g hg; have h3 : w.heap.size ≤ g := hg; show _ ≤ _; omega), HU⟩

set_option maxRecDepth 100000 in
theorem own_spec {a : Option Addr} {m c : Nat} {bs : List Int} (w : World) (hs : Sl w (fun g => g < w.heap.size) 1 (.slice a m c) m (ints .u8 bs)) (hm : m ≤ 140737488355328) :
    Calls Try.prog 24 #[.slice a m c] w (Ret fun v w' => ∃ a' c', v = .slice a' m c' ∧ Own w' (Ge w.heap.size) 5 1 (.slice a' m c') m (ints .u8 (bs)) ∧ Upd No w w') := by
  have HU : Upd (fun b => False) w w := Upd.refl _ _
  have hn := Own.nil w (fun g => w.heap.size ≤ g) 5 1
  refine calls_of_W Try.func24 rfl Try.ntmps24 (by simp) ?_
  refine W_seq ?_
  refine W_region ?_
  refine Wl_v (r_as (v := .slice none 0 0) rfl) ?_
  refine Wl_nil ?_
  refine W_seq ?_
  refine W_region ?_
  refine Wl_v (r_mv (v := .slice a m c) rfl) ?_
  refine Wl_append Try.underlying35 (ti := Try.t5) (z := .int .u8 0) (sz := 1) (by' := 1) rfl rfl rfl rfl rfl (by decide) rfl hn rfl hs one_ints (by simp only [maxLen]; omega) (by omega) ?_
  clear hn
  intro a1 c1 w1 hU1 hzz1 hO
  have hzw1 := hU1.size
  replace hs := hs.upd hU1 (by intro x h1 h2; have h3 : x < w.heap.size := h1; have h4 : w.heap.size ≤ x := h2; omega)
  replace HU := HU.trans hU1 (by intro x hx; have hx2 : w.heap.size ≤ x := hx; show (False) ∨ w.heap.size ≤ x; omega)
  refine Wl_v (r_as (v := .slice a1 (0 + m) c1) rfl) ?_
  refine Wl_nil ?_
  refine W_ret ?_
  refine ret_end (v := .slice a1 (0 + m) c1) rfl (res1 Try.results24 rfl) ?_
  exact ⟨_, rfl, a1, c1, by simp, by simpa using hO.weak (R' := Ge w.heap.size) (by intro g hg; have h3 : ((w.heap.size ≤ g) ∨ g = w.heap.size) := hg; show _ ≤ _; omega), HU⟩

set_option maxRecDepth 100000 in
theorem word_spec {n : Int} (w : World) (h0 : 0 ≤ n) (h1 : n < 4294967296) :
    Calls Try.prog 37 #[.int .u32 n] w (Ret fun v w' => ∃ a' c', v = .slice a' 4 c' ∧ Own w' (Ge w.heap.size) 5 1 (.slice a' 4 c') 4 (ints .u8 (word n)) ∧ Upd No w w') := by
  have HU : Upd (fun b => False) w w := Upd.refl _ _
  refine calls_of_W Try.func37 rfl Try.ntmps37 (by simp) ?_
  refine W_seq ?_
  refine W_region ?_
  refine Wl_v (r_as (v := .slice none 0 0) rfl) ?_
  refine Wl_nil ?_
  refine W_seq ?_
  refine W_region ?_
  refine Wl_v (r_mv (v := .int .u32 n) rfl) ?_
  refine Wl_v (r_rem rfl rfl (by omega) (tr (by omega))) ?_
  refine Wl_v (r_cvt Try.underlying32 Try.underlying5 rfl (mu8 _)) ?_
  refine Wl_v (r_mv (v := .int .u32 n) rfl) ?_
  refine Wl_v (r_quo rfl rfl (by omega) (tq (by omega) (wu32 (by omega) (by omega)))) ?_
  refine Wl_v (r_rem rfl rfl (by omega) (tr (by omega))) ?_
  refine Wl_v (r_cvt Try.underlying32 Try.underlying5 rfl (mu8 _)) ?_
  refine Wl_v (r_mv (v := .int .u32 n) rfl) ?_
  refine Wl_v (r_quo rfl rfl (by omega) (tq (by omega) (wu32 (by omega) (by omega)))) ?_
  refine Wl_v (r_rem rfl rfl (by omega) (tr (by omega))) ?_
  refine Wl_v (r_cvt Try.underlying32 Try.underlying5 rfl (mu8 _)) ?_
  refine Wl_v (r_mv (v := .int .u32 n) rfl) ?_
  refine Wl_v (r_quo rfl rfl (by omega) (tq (by omega) (wu32 (by omega) (by omega)))) ?_
  refine Wl_v (r_cvt Try.underlying32 Try.underlying5 rfl (mu8 _)) ?_
  refine Wl_lit (pv := [(0, .int .u8 ((n % 256) % 256)), (1, .int .u8 (((n / 256) % 256) % 256)), (2, .int .u8 (((n / 65536) % 256) % 256)), (3, .int .u8 ((n / 16777216) % 256))]) (cs := [.int .u8 ((n % 256) % 256), .int .u8 (((n / 256) % 256) % 256), .int .u8 (((n / 65536) % 256) % 256), .int .u8 ((n / 16777216) % 256)]) Try.underlying35 Try.sizeOf5 Try.zeroValue5 (by decide) (by decide) (by simp only [List.map_toArray, List.map_cons, List.map_nil] <;> rfl) (by kernel_rfl) rfl (by decide) ?_
  intro B1 w1 hB1 hU1 hzz1 hs1
  have hzw1 := hU1.size
  replace HU := HU.trans0 hU1
  replace hs1 : Own w1 (Is B1) 5 1 (.slice (some ⟨B1, 0, none⟩) 4 4) 4 (ints .u8 [(n % 256) % 256, ((n / 256) % 256) % 256, ((n / 65536) % 256) % 256, (n / 16777216) % 256]) := hs1
  refine Wl_v (r_as (v := .slice (some ⟨B1, 0, none⟩) 4 4) rfl) ?_
  refine Wl_nil ?_
  refine W_ret ?_
  refine ret_end (v := .slice (some ⟨B1, 0, none⟩) 4 4) rfl (res1 Try.results37 rfl) ?_
  refine ⟨_, rfl, _, _, rfl, ?_, HU⟩
  rw [show word n = [n % 256 % 256, n / 256 % 256 % 256, n / 65536 % 256 % 256, n / 16777216 % 256] from by unfold word; simp; omega]
  exact hs1.weak (R' := Ge w.heap.size) (by intro g hg; have h3 : g = B1 := hg; show _ ≤ _; omega)

theorem vbn_pos {f : Nat} {n : Int} (h : n < 128 ^ f) (h0 : 0 ≤ n) : n ≠ 0 → 0 < f := by
  intro hn
  cases f with
  | zero => simp at h; omega
  | succ f => omega

set_option maxRecDepth 100000 in
theorem varint_step {n : Int} {f : Nat} (w : World) (ih : ∀ x w, 0 ≤ x → x < 128 ^ f → x < 18446744073709551616 → 0 < f → Calls Try.prog 38 #[.int .u64 x] w (Ret fun v w' => ∃ a' c', v = .slice a' (vb f x).length c' ∧ Own w' (Ge w.heap.size) 5 1 (.slice a' (vb f x).length c') ((vb f x).length) (ints .u8 (vb f x)) ∧ Upd No w w')) (h0 : 0 ≤ n) (h1 : n < 128 ^ (f + 1)) (h2 : n < 18446744073709551616) (hf : f ≤ 9) :
    Calls Try.prog 38 #[.int .u64 n] w (Ret fun v w' => ∃ a' c', v = .slice a' ((vb (f + 1) n).length) c' ∧ Own w' (Ge w.heap.size) 5 1 (.slice a' ((vb (f + 1) n).length) c') ((vb (f + 1) n).length) (ints .u8 (vb (f + 1) n)) ∧ Upd No w w') := by
  have HU : Upd (fun b => False) w w := Upd.refl _ _
  refine calls_of_W Try.func38 rfl Try.ntmps38 (by simp) ?_
  refine W_seq ?_
  refine W_region ?_
  refine Wl_v (r_as (v := .slice none 0 0) rfl) ?_
  refine Wl_nil ?_
  refine W_seq ?_
  refine W_seq ?_
  refine W_region ?_
  refine Wl_v (r_mv (v := .int .u64 n) rfl) ?_
  refine Wl_v (r_lt rfl rfl) ?_
  refine Wl_nil ?_
  by_cases q1 : n < 128
  · rw [decide_eq_true q1]
    refine W_cond_t rfl ?_
    refine W_seq ?_
    refine W_region ?_
    refine Wl_v (r_mv (v := .int .u64 n) rfl) ?_
    refine Wl_v (r_cvt Try.underlying68 Try.underlying5 rfl (mu8 _)) ?_
    refine Wl_lit (pv := [(0, .int .u8 (n % 256))]) (cs := [.int .u8 (n % 256)]) Try.underlying35 Try.sizeOf5 Try.zeroValue5 (by decide) (by decide) (by simp only [List.map_toArray, List.map_cons, List.map_nil] <;> rfl) (by kernel_rfl) rfl (by decide) ?_
    intro B1 w1 hB1 hU1 hzz1 hs1
    have hzw1 := hU1.size
    replace HU := HU.trans0 hU1
    replace hs1 : Own w1 (Is B1) 5 1 (.slice (some ⟨B1, 0, none⟩) 1 1) 1 (ints .u8 [n % 256]) := hs1
    refine Wl_v (r_as (v := .slice (some ⟨B1, 0, none⟩) 1 1) rfl) ?_
    refine Wl_nil ?_
    refine W_ret ?_
    refine ret_end (v := .slice (some ⟨B1, 0, none⟩) 1 1) rfl (res1 Try.results38 rfl) ?_
    rw [vb_small (by omega)]
    exact ⟨_, rfl, _, _, rfl, by rw [show n = n % 256 from by omega]; exact hs1.weak (R' := Ge w.heap.size) (by intro g hg; have h3 : g = B1 := hg; show _ ≤ _; omega), HU⟩
  · rw [decide_eq_false q1]
    refine W_cond_f rfl ?_
    refine W_skip ?_
    refine W_seq ?_
    refine W_region ?_
    refine Wl_v (r_mv (v := .int .u64 n) rfl) ?_
    refine Wl_v (r_rem rfl rfl (by omega) (tr (by omega))) ?_
    refine Wl_v (r_add rfl rfl (wu64 (by omega) (by omega))) ?_
    refine Wl_v (r_cvt Try.underlying68 Try.underlying5 rfl (mu8 _)) ?_
    refine Wl_lit (pv := [(0, .int .u8 (((n % 128) + 128) % 256))]) (cs := [.int .u8 (((n % 128) + 128) % 256)]) Try.underlying35 Try.sizeOf5 Try.zeroValue5 (by decide) (by decide) (by simp only [List.map_toArray, List.map_cons, List.map_nil] <;> rfl) (by kernel_rfl) rfl (by decide) ?_
    intro B2 w2 hB2 hU2 hzz2 hs2
    have hzw2 := hU2.size
    replace HU := HU.trans0 hU2
    replace hs2 : Own w2 (Is B2) 5 1 (.slice (some ⟨B2, 0, none⟩) 1 1) 1 (ints .u8 [((n % 128) + 128) % 256]) := hs2
    refine Wl_v (r_mv (v := .int .u64 n) rfl) ?_
    refine Wl_v (r_quo rfl rfl (by omega) (tq (by omega) (wu64 (by omega) (by omega)))) ?_
    refine Wl_call (r_call1 rfl Try.call38 rfl) (ih _ _ (by omega) (pow_step h1) (by omega) (vbn_pos (pow_step h1) (by omega) (by omega))) ?_
    rintro v w3 ⟨a_hV, c_hV, rfl, hV, hU3⟩
    have hzw3 := hU3.size
    replace HU := HU.trans0 hU3
    replace hs2 := hs2.upd0 hU3
    replace hV := hV.tight
    have hvl := vb_len f (n / 128)
    refine Wl_append Try.underlying35 (ti := Try.t5) (z := .int .u8 0) (sz := 1) (by' := 1) rfl rfl rfl rfl rfl (by decide) rfl hs2 rfl hV.sl one_ints (by simp only [maxLen]; omega) (by omega) ?_
    clear hs2
    intro a4 c4 w4 hU4 hzz4 hO
    have hzw4 := hU4.size
    replace HU := HU.trans hU4 (by intro x hx; have hx2 : x = B2 := hx; show (False) ∨ w.heap.size ≤ x; omega)
    replace hV := hV.upd hU4 (by intro x h1 h2; have h3 : ((w2.heap.size ≤ x) ∧ x < w3.heap.size) := h1; have h4 : x = B2 := h2; omega)
    refine Wl_v (r_as (v := .slice a4 (1 + ((vb f (n / 128)).length)) c4) rfl) ?_
    refine Wl_nil ?_
    refine W_ret ?_
    refine ret_end (v := .slice a4 (1 + ((vb f (n / 128)).length)) c4) rfl (res1 Try.results38 rfl) ?_
    rw [vb_big (by omega)]
    refine ⟨_, rfl, a4, c4, by simp [Nat.add_comm], ?_, HU⟩
    rw [show n % 128 + 128 = (n % 128 + 128) % 256 from by omega]
    simpa [Nat.add_comm, ints] using hO.weak (R' := Ge w.heap.size) (by intro g hg; have h3 : ((g = B2) ∨ g = w3.heap.size) := hg; show _ ≤ _; omega)

theorem varint_spec : ∀ (f : Nat) (n : Int) (w : World), f ≤ 10 → 0 < f → 0 ≤ n → n < 128 ^ f → n < 18446744073709551616 → Calls Try.prog 38 #[.int .u64 n] w (Ret fun v w' => ∃ a' c', v = .slice a' ((vb f n).length) c' ∧ Own w' (Ge w.heap.size) 5 1 (.slice a' ((vb f n).length) c') ((vb f n).length) (ints .u8 (vb f n)) ∧ Upd No w w')
  | 0, _, _, _, h, _, _, _ => absurd h (by omega)
  | f + 1, n, w, hf, _, h0, h1, h2 => varint_step w (fun x w a b c d => varint_spec f x w (by omega) d a b c) h0 h1 h2 (by omega)
theorem rvarint_spec {n : Int} (w : World) (h0 : 0 ≤ n) (h1 : n < 18446744073709551616) : Calls Try.prog 38 #[.int .u64 n] w (Ret fun v w' => ∃ a' c', v = .slice a' ((vi n).length) c' ∧ Own w' (Ge w.heap.size) 5 1 (.slice a' ((vi n).length) c') ((vi n).length) (ints .u8 (vi n)) ∧ Upd No w w') := varint_spec 10 n w (by omega) (by omega) h0 (by omega) h1

set_option maxRecDepth 100000 in
theorem new_spec {a : Option Addr} {m c : Nat} {bs : List Int} (w : World) (hs : Sl w (fun g => g < w.heap.size) 1 (.slice a m c) m (ints .u8 bs)) (hm : m ≤ 140737488355328) :
    Calls Try.prog 23 #[.slice a m c] w (Ret fun v w' => ∃ pb a' c', v = .pointer (some ⟨pb, 0, none⟩) ∧ Blk w' pb [.slice a' m c', .int .i64 0] ∧ Own w' (fun g => w.heap.size ≤ g ∧ g ≠ pb) 5 1 (.slice a' m c') m (ints .u8 bs) ∧ w.heap.size ≤ pb ∧ Upd No w w') := by
  have HU : Upd (fun b => False) w w := Upd.refl _ _
  refine calls_of_W Try.func23 rfl Try.ntmps23 (by simp) ?_
  refine W_seq ?_
  refine W_region ?_
  refine Wl_v (r_as (v := .pointer none) rfl) ?_
  refine Wl_nil ?_
  refine W_seq ?_
  refine W_region ?_
  refine Wl_v (r_mv (v := .slice a m c) rfl) ?_
  refine Wl_call (r_call1 rfl Try.call39 rfl) (clone_spec _ hs one_ints (by omega)) ?_
  rintro v w1 ⟨a1, c1, rfl, hO, hU1⟩
  have hzw1 := hU1.size
  replace hs := hs.upd0 hU1
  replace HU := HU.trans0 hU1
  replace hO := hO.tight
  refine Wl_v (r_build (pl := #[(0, 1), (1, 1)]) (pv := [(0, .slice a1 m c1)]) (cs := #[.slice a1 m c1, .int .i64 0]) Try.zeroValue61 Try.underlying61 (fun w => by kernel_rfl) (by simp only [List.map_toArray, List.map_cons, List.map_nil] <;> rfl) (by kernel_rfl)) ?_
  refine Wl_box (v := .agg #[.slice a1 m c1, .int .i64 0]) (cs := [.slice a1 m c1, .int .i64 0]) rfl rfl ?_
  intro B2 w2 hB2 hU2 hzz2 hb2
  have hzw2 := hU2.size
  replace hs := hs.upd0 hU2
  replace HU := HU.trans0 hU2
  replace hO := hO.upd0 hU2
  refine Wl_v (r_as (v := .pointer (some ⟨B2, 0, none⟩)) rfl) ?_
  refine Wl_nil ?_
  refine W_ret ?_
  refine ret_end (v := .pointer (some ⟨B2, 0, none⟩)) rfl (res1 Try.results23 rfl) ?_
  exact ⟨_, rfl, _, _, _, rfl, hb2, hO.weak (by intro g hg; have h3 : ((w.heap.size ≤ g) ∧ g < w1.heap.size) := hg; show _ ∧ _; omega), by omega, HU⟩

end Go.Proofs.Ytflmjdnhjbiobaa
