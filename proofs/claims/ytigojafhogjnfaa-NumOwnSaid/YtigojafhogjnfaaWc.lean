/-
  Walks, printed by a small program of this project (gen.py).
-/
import Derived.Test.YtigojafhogjnfaaWb
import Derived.Test.YtigojafhogjnfaaPb
set_option linter.unusedVariables false
set_option linter.unusedSimpArgs false
namespace Go.Proofs.Ytigojafhogjnfaa
open Go.Fw

theorem putword_spec {a : Option Addr} {m c : Nat} {bs : List Int} {n : Int} (w : World) (hs : Sl w (fun g => g < w.heap.size) 1 (.slice a m c) m (ints .u8 bs)) (hm : m + 4 ≤ 140737488355328) (h0 : 0 ≤ n) (h1 : n < 4294967296) :
    Calls Try.prog 14 #[.slice a m c, .int .u32 n] w (Ret fun v w' => ∃ a' c', v = .slice a' (m + 4) c' ∧ Own w' (Ge w.heap.size) 5 1 (.slice a' (m + 4) c') (m + 4) (ints .u8 (bs ++ word n)) ∧ Upd No w w') := by
  have HU : Upd (fun b => False) w w := Upd.refl _ _
  refine calls_of_W Try.func14 rfl Try.ntmps14 (by simp) ?_
  refine W_seq ?_
  refine W_region ?_
  refine Wl_v (r_as (v := .slice none 0 0) rfl) ?_
  refine Wl_nil ?_
  refine W_seq ?_
  refine W_region ?_
  refine Wl_v (r_mv (v := .slice a m c) rfl) ?_
  refine Wl_call (r_call1 rfl Try.call35 rfl) (clone_spec _ hs one_ints (by omega)) ?_
  rintro v w1 ⟨a1, c1, rfl, hO, hU1⟩
  have hzw1 := hU1.size
  replace hs := hs.upd0 hU1
  replace HU := HU.trans0 hU1
  replace hO := hO.tight
  refine Wl_v (r_as (v := .slice a1 m c1) rfl) ?_
  refine Wl_nil ?_
  refine W_seq ?_
  refine W_seq ?_
  refine W_region ?_
  refine Wl_v (r_mv (v := .int .i64 0) rfl) ?_
  refine Wl_nil ?_
  refine W_block ?_
  refine W_loop (fun mu ρ ds w' => ∃ (k : Nat) (a2 : Option Addr) (c2 : Nat), 4 - k = mu ∧ ds = [] ∧ Liv ρ [(0, .slice a m c), (1, .int .u32 (n / 256 ^ k)), (4, .slice none 0 0), (5, .slice a2 (m + k) c2), (8, .int .i64 ((k : Nat) : Int))] ∧ k ≤ 4 ∧ Own w' (fun g => w.heap.size ≤ g) 5 1 (.slice a2 (m + k) c2) (m + k) (ints .u8 (bs ++ (word n).take k)) ∧ Upd (fun g => w.heap.size ≤ g) w1 w') _ ⟨0, a1, c1, rfl, rfl, ⟨rfl, (Eq.trans (b := .int .u32 n) rfl (by simp)), rfl, rfl, rfl, trivial⟩, (by omega), (by simpa using hO.weak (R' := Ge w.heap.size) (by intro g hg; have h3 : ((w.heap.size ≤ g) ∧ g < w1.heap.size) := hg; show _ ≤ _; omega)), Upd.refl _ _⟩ ?_
  rintro m2 ρ2 ds2 w2 ⟨k, a2, c2, rfl, rfl, hl2, hk4, hO, hU2⟩
  obtain ⟨ρ2x, rfl⟩ : ∃ ρx, ρ2 = upds ρx [(0, .slice a m c), (1, .int .u32 (n / 256 ^ k)), (4, .slice none 0 0), (5, .slice a2 (m + k) c2), (8, .int .i64 ((k : Nat) : Int))] := ⟨_, upds_self hl2⟩
  clear hl2
  have hzw2 := hU2.size
  replace hs := hs.upd hU2 (by intro x h1 h2; have h3 : x < w.heap.size := h1; have h4 : w.heap.size ≤ x := h2; omega)
  replace HU := HU.trans hU2 (by intro x hx; have hx2 : w.heap.size ≤ x := hx; show (False) ∨ w.heap.size ≤ x; omega)
  have HL2 := hU2
  refine W_seq ?_
  refine W_region ?_
  refine Wl_v (r_lt rfl rfl) ?_
  refine Wl_nil ?_
  refine W_seq ?_
  by_cases q1 : ((k : Nat) : Int) < 4
  · have hk : k < 4 := by omega
    replace hO := hO.tight
    have hp0 := word_sh h0 h1 hk
    rw [decide_eq_true q1]
    refine W_cond_t rfl ?_
    refine W_skip ?_
    refine W_seq ?_
    refine W_block ?_
    refine W_seq ?_
    refine W_region ?_
    refine Wl_v (r_mv (v := .slice a2 (m + k) c2) rfl) ?_
    refine Wl_v (r_mv (v := .int .u32 (n / 256 ^ k)) rfl) ?_
    refine Wl_v (r_cvt Try.underlying23 Try.underlying5 rfl (mu8 _)) ?_
    refine Wl_lit (pv := [(0, .int .u8 ((n / 256 ^ k) % 256))]) (cs := [.int .u8 ((n / 256 ^ k) % 256)]) Try.underlying22 Try.sizeOf5 Try.zeroValue5 (by decide) (by decide) (by simp only [List.map_toArray, List.map_cons, List.map_nil] <;> rfl) (by kernel_rfl) rfl (by decide) ?_
    intro B3 w3 hB3 hU3 hzz3 hs3
    have hzw3 := hU3.size
    replace hs := hs.upd0 hU3
    replace HU := HU.trans0 hU3
    replace hO := hO.upd0 hU3
    replace HL2 := HL2.trans0 hU3
    replace hs3 : Own w3 (Is B3) 5 1 (.slice (some ⟨B3, 0, none⟩) 1 1) 1 (ints .u8 [(n / 256 ^ k) % 256]) := hs3
    refine Wl_append Try.underlying22 (ti := Try.t5) (z := .int .u8 0) (sz := 1) (by' := 1) rfl rfl rfl rfl rfl (by decide) rfl hO rfl hs3.sl (by intro u hu; simp at hu; subst hu; rfl) (by simp only [maxLen]; omega) (by omega) ?_
    clear hO
    intro a4 c4 w4 hU4 hzz4 hO
    have hzw4 := hU4.size
    replace hs := hs.upd hU4 (by intro x h1 h2; have h3 : x < w.heap.size := h1; have h4 : ((w.heap.size ≤ x) ∧ x < w2.heap.size) := h2; omega)
    replace HU := HU.trans hU4 (by intro x hx; have hx2 : ((w.heap.size ≤ x) ∧ x < w2.heap.size) := hx; show (False) ∨ w.heap.size ≤ x; omega)
    replace HL2 := HL2.trans hU4 (by intro x hx; have hx2 : ((w.heap.size ≤ x) ∧ x < w2.heap.size) := hx; show (w.heap.size ≤ x) ∨ w1.heap.size ≤ x; omega)
    replace hs3 := hs3.upd hU4 (by intro x h1 h2; have h3 : x = B3 := h1; have h4 : ((w.heap.size ≤ x) ∧ x < w2.heap.size) := h2; omega)
    refine Wl_v (r_as (v := .slice a4 ((m + k) + 1) c4) rfl) ?_
    refine Wl_nil ?_
    refine W_region ?_
    refine Wl_v (r_mv (v := .int .u32 (n / 256 ^ k)) rfl) ?_
    refine Wl_v (r_shr (c := (n / 256 ^ k) / 256) rfl rfl (by decide) rfl) ?_
    refine Wl_v (r_as (v := .int .u32 ((n / 256 ^ k) / 256)) rfl) ?_
    refine Wl_nil ?_
    refine W_region ?_
    refine Wl_v (r_add rfl rfl (wi64 (by omega) (by omega))) ?_
    refine Wl_v (r_mv (v := .int .i64 (((k : Nat) : Int) + 1)) rfl) ?_
    refine Wl_nil ?_
    refine ⟨_, ?_, (k + 1), a4, c4, rfl, rfl, ⟨rfl, (Eq.trans (b := .int .u32 ((n / 256 ^ k) / 256)) rfl (word_step)), rfl, rfl, (Eq.trans (b := .int .i64 (((k : Nat) : Int) + 1)) rfl (vint (by omega))), trivial⟩, (by omega), (by rw [word_take h0 h1 hk]; simpa [Nat.add_assoc] using hO.weak (by intro g hg; have h3 : ((((w.heap.size ≤ g) ∧ g < w2.heap.size)) ∨ g = w3.heap.size) := hg; show _ ≤ _; omega)), HL2⟩
    omega
  · rw [decide_eq_false q1]
    refine W_cond_f rfl ?_
    refine W_exit ?_
    refine W_seq ?_
    refine W_region ?_
    refine Wl_v (r_mv (v := .slice a2 (m + k) c2) rfl) ?_
    refine Wl_v (r_as (v := .slice a2 (m + k) c2) rfl) ?_
    refine Wl_nil ?_
    refine W_ret ?_
    refine ret_end (v := .slice a2 (m + k) c2) rfl (res1 Try.results14 rfl) ?_
    obtain rfl : k = 4 := by omega
    exact ⟨_, rfl, _, _, rfl, hO.weak (R' := Ge w.heap.size) (by intro g hg; have h3 : w.heap.size ≤ g := hg; show _ ≤ _; omega), HU⟩

theorem size_spec {n : Int} (w : World) (h0 : 0 ≤ n) (h1 : n ≤ 4611686018427387903) :
    Calls Try.prog 18 #[.int .u64 n] w (Ret fun v w' => v = .int .i64 ((vi n).length : Nat) ∧ Upd No w w') := by
  have HU : Upd (fun b => False) w w := Upd.refl _ _
  refine calls_of_W Try.func18 rfl Try.ntmps18 (by simp) ?_
  refine W_seq ?_
  refine W_region ?_
  refine Wl_v (r_as (v := .int .i64 0) rfl) ?_
  refine Wl_nil ?_
  refine W_seq ?_
  refine W_seq ?_
  refine W_region ?_
  refine Wl_v (r_mv (v := .int .u64 n) rfl) ?_
  refine Wl_v (r_gt rfl rfl) ?_
  refine Wl_nil ?_
  have q1 : ¬ (4611686018427387903 < n) := (by omega)
  rw [decide_eq_false q1]
  refine W_cond_f rfl ?_
  refine W_skip ?_
  refine W_seq ?_
  refine W_region ?_
  refine Wl_alloc (cs := [.int .i64 0]) Try.zeroValue3 rfl ?_
  intro B1 w1 hB1 hU1 hzz1 hb1
  have hzw1 := hU1.size
  replace HU := HU.trans0 hU1
  refine Wl_store (v := .int .i64 0) (cs' := [.int .i64 0]) Try.sizeOf3 rfl rfl rfl rfl hb1 rfl rfl ?_
  intro w2 hU2 hzz2 hb1n
  replace hb1 := hb1n; clear hb1n
  have hzw2 := hU2.size
  replace HU := HU.trans1 hU2 (by show (False) ∨ w.heap.size ≤ B1; omega)
  refine Wl_nil ?_
  refine W_seq ?_
  refine W_seq ?_
  refine W_region ?_
  refine Wl_v (r_mv (v := .int .u64 n) rfl) ?_
  refine Wl_call (r_call1 rfl Try.call36 rfl) (parts_spec _) ?_
  rintro v w3 ⟨Bp, rfl, hBl, hBp, hU3⟩
  have hzw3 := hU3.size
  replace HU := HU.trans0 hU3
  replace hb1 := hb1.upd0 hU3
  have hBpl := hBp.lt
  refine Wl_nil ?_
  refine W_block ?_
  refine W_range (gf := 51) (ar := fun y => #[y, .pointer (some ⟨Bp, 0, none⟩)]) rfl Try.call51 (fun y => by simp) ?_
  intro D4 fn4 w4 hD4 hU4 hzz4 hdf4 hrc40
  have hzw4 := hU4.size
  replace HU := HU.trans0 hU4
  replace hb1 := hb1.upd0 hU4
  replace hBp := hBp.upd0 hU4
  obtain ⟨r4, hr4, hrc4⟩ : ∃ r, r = _ ∧ Rec w4 (D4 + 1) r := ⟨_, rfl, hrc40⟩
  clear hrc40
  obtain ⟨J4, hJ4⟩ : ∃ J : Nat → World → Prop, ∀ i w', J i w' ↔ (Rec w' (D4 + 1) r4 ∧ Dfr w' D4 ∧ Blk w' B1 [.int .i64 ((i : Nat) : Int)] ∧ Upd No w w') := ⟨_, fun _ _ => Iff.rfl⟩
  obtain ⟨Jx4, hJx4⟩ : ∃ Jx : World → Prop, ∀ w', Jx w' ↔ (False) := ⟨_, fun _ => Iff.rfl⟩
  refine (parts1_spec (l := (D4 + 1)) (n0 := n) (J := J4) (Jx := Jx4) (Sb := (fun g => w.heap.size ≤ g ∧ g ≠ Bp)) w4 hBp h0 (by omega) ?_ ?_ (by show ¬ (_ ∧ _); omega) ?_).mono ?_
  · exact (hJ4 _ _).2 ⟨hrc4, hdf4, hb1, HU⟩
  · intro i wa wb hh hUs
    obtain ⟨hrc4, hdf4, hb1, HU⟩ := (hJ4 _ _).1 hh
    replace hrc4 := hrc4.upd1 hUs (by omega)
    replace hdf4 := hdf4.upd1 hUs (by omega)
    replace hb1 := hb1.upd1 hUs (by omega)
    replace HU := HU.trans1 hUs (by show False ∨ w.heap.size ≤ Bp; omega)
    exact (hJ4 _ _).2 ⟨hrc4, hdf4, hb1, HU⟩
  · intro i5 w5 hi5 hh
    obtain ⟨hrc4, hdf4, hb1, HU⟩ := (hJ4 _ _).1 hh
    have hrl4 := hrc4.lt
    have hvl := vi_len n
    have hBd : w.heap.size ≤ Bp := by omega
    have HB4 : Upd (fun g => w.heap.size ≤ g ∧ g ≠ Bp) w5 w5 := Upd.refl _ _
    refine yieldC_of_W (R := fun b c w' => (b = true ∧ Upd (fun g => w.heap.size ≤ g ∧ g ≠ Bp) w5 w' ∧ J4 (i5 + 1) w') ∨ (b = false ∧ Jx4 w')) hrc4 (by rw [hr4]; rfl) (by rw [hr4]; exact zip1 _ _ _ _) ?_ ?_
    · rw [hr4]
      refine W_skip ?_
      refine ⟨rfl, _, hrc4, (by rw [hr4]), ?_⟩
      intro w6 hU6 hzz6 hrc4b
      have hzw6 := hU6.size
      replace hdf4 := hdf4.upd1 hU6 (by omega)
      replace hb1 := hb1.upd1 hU6 (by omega)
      replace HU := HU.trans1 hU6 (by show (False) ∨ w.heap.size ≤ (D4 + 1); omega)
      replace HB4 := HB4.trans1 hU6 (by show (w.heap.size ≤ (D4 + 1) ∧ (D4 + 1) ≠ Bp) ∨ w5.heap.size ≤ (D4 + 1); omega)
      clear hrc4
      have hrc4 := hrc4b
      clear hrc4b
      refine W_block ?_
      refine W_region ?_
      refine Wl_load (v := .int .i64 ((i5 : Nat) : Int)) Try.isAgg3 rfl hb1 rfl ?_
      refine Wl_v (r_add rfl rfl (wi64 (by omega) (by omega))) ?_
      refine Wl_store (v := .int .i64 (((i5 : Nat) : Int) + 1)) (cs' := [.int .i64 (((i5 : Nat) : Int) + 1)]) Try.sizeOf3 rfl rfl rfl rfl hb1 rfl rfl ?_
      intro w7 hU7 hzz7 hb1n
      replace hb1 := hb1n; clear hb1n
      have hzw7 := hU7.size
      replace hrc4 := hrc4.upd1 hU7 (by omega)
      replace hdf4 := hdf4.upd1 hU7 (by omega)
      replace HU := HU.trans1 hU7 (by show (False) ∨ w.heap.size ≤ B1; omega)
      replace HB4 := HB4.trans1 hU7 (by show (w.heap.size ≤ B1 ∧ B1 ≠ Bp) ∨ w5.heap.size ≤ B1; omega)
      refine Wl_nil ?_
      refine ⟨rfl, _, hrc4, ?_⟩
      intro w8 hU8 hzz8 hrz
      have hzw8 := hU8.size
      replace hdf4 := hdf4.upd1 hU8 (by omega)
      replace hb1 := hb1.upd1 hU8 (by omega)
      replace HU := HU.trans1 hU8 (by show (False) ∨ w.heap.size ≤ (D4 + 1); omega)
      replace HB4 := HB4.trans1 hU8 (by show (w.heap.size ≤ (D4 + 1) ∧ (D4 + 1) ≠ Bp) ∨ w5.heap.size ≤ (D4 + 1); omega)
      exact Or.inl ⟨rfl, HB4, (hJ4 _ _).2 ⟨(by rw [hr4]; rw [hr4] at hrz; exact hrz), hdf4, (by simpa using hb1), HU⟩⟩
    · rintro b c w9 (⟨rfl, h1, h2⟩ | ⟨rfl, h1⟩)
      · exact Or.inl ⟨rfl, h1, h2⟩
      · exact Or.inr ⟨rfl, h1⟩
  rintro e w9 ⟨v, rfl, hh | hh⟩
  · obtain ⟨hrc4, hdf4, hb1, HU⟩ := (hJ4 _ _).1 hh
    have hrl4 := hrc4.lt
    refine ⟨r4, hrc4, (by rw [hr4]; simp), ?_⟩
    intro w10 hU10 hzz10
    have hzw10 := hU10.size
    replace hdf4 := hdf4.upd1 hU10 (by omega)
    replace hb1 := hb1.upd1 hU10 (by omega)
    replace HU := HU.trans1 hU10 (by show (False) ∨ w.heap.size ≤ (D4 + 1); omega)
    rw [hr4]
    skip
    refine W_seq ?_
    refine W_region ?_
    refine Wl_load (v := .int .i64 (((vi n).length : Nat) : Int)) Try.isAgg3 rfl hb1 rfl ?_
    refine Wl_v (r_as (v := .int .i64 (((vi n).length : Nat) : Int)) rfl) ?_
    refine Wl_nil ?_
    refine W_ret ?_
    refine ret_ds rfl ?_
    refine lv_mark (by simp) hdf4 ?_
    intro w11 hU11 hzz11
    have hzw11 := hU11.size
    replace hb1 := hb1.upd1 hU11 (by omega)
    replace HU := HU.trans1 hU11 (by show (False) ∨ w.heap.size ≤ D4; omega)
    refine lv_nil (v := .int .i64 (((vi n).length : Nat) : Int)) (res1 Try.results18 rfl) ?_
    exact ⟨_, rfl, rfl, HU⟩
  · exact ((hJx4 _).1 hh).elim

theorem size_no {n : Int} (w : World) (h1 : 4611686018427387903 < n) :
    Calls Try.prog 18 #[.int .u64 n] w (Ret fun v w' => v = .int .i64 0 ∧ Upd No w w') := by
  have HU : Upd (fun b => False) w w := Upd.refl _ _
  refine calls_of_W Try.func18 rfl Try.ntmps18 (by simp) ?_
  refine W_seq ?_
  refine W_region ?_
  refine Wl_v (r_as (v := .int .i64 0) rfl) ?_
  refine Wl_nil ?_
  refine W_seq ?_
  refine W_seq ?_
  refine W_region ?_
  refine Wl_v (r_mv (v := .int .u64 n) rfl) ?_
  refine Wl_v (r_gt rfl rfl) ?_
  refine Wl_nil ?_
  have q1 : 4611686018427387903 < n := h1
  rw [decide_eq_true q1]
  refine W_cond_t rfl ?_
  refine W_seq ?_
  refine W_region ?_
  refine Wl_v (r_as (v := .int .i64 0) rfl) ?_
  refine Wl_nil ?_
  refine W_ret ?_
  refine ret_end (v := .int .i64 0) rfl (res1 Try.results18 rfl) ?_
  exact ⟨_, rfl, rfl, HU⟩

theorem own_spec {a : Option Addr} {m c : Nat} {bs : List Int} (w : World) (hs : Sl w (fun g => g < w.heap.size) 1 (.slice a m c) m (ints .u8 bs)) (hm : m ≤ 140737488355328) :
    Calls Try.prog 15 #[.slice a m c] w (Ret fun v w' => ∃ a' c', v = .slice a' m c' ∧ Own w' (Ge w.heap.size) 5 1 (.slice a' m c') m (ints .u8 (bs)) ∧ Upd No w w') := by
  have HU : Upd (fun b => False) w w := Upd.refl _ _
  have hn := Own.nil w (fun g => w.heap.size ≤ g) 5 1
  refine calls_of_W Try.func15 rfl Try.ntmps15 (by simp) ?_
  refine W_seq ?_
  refine W_region ?_
  refine Wl_v (r_as (v := .slice none 0 0) rfl) ?_
  refine Wl_nil ?_
  refine W_seq ?_
  refine W_region ?_
  refine Wl_v (r_mv (v := .slice a m c) rfl) ?_
  refine Wl_append Try.underlying22 (ti := Try.t5) (z := .int .u8 0) (sz := 1) (by' := 1) rfl rfl rfl rfl rfl (by decide) rfl hn rfl hs one_ints (by simp only [maxLen]; omega) (by omega) ?_
  clear hn
  intro a1 c1 w1 hU1 hzz1 hO
  have hzw1 := hU1.size
  replace hs := hs.upd hU1 (by intro x h1 h2; have h3 : x < w.heap.size := h1; have h4 : w.heap.size ≤ x := h2; omega)
  replace HU := HU.trans hU1 (by intro x hx; have hx2 : w.heap.size ≤ x := hx; show (False) ∨ w.heap.size ≤ x; omega)
  refine Wl_v (r_as (v := .slice a1 (0 + m) c1) rfl) ?_
  refine Wl_nil ?_
  refine W_ret ?_
  refine ret_end (v := .slice a1 (0 + m) c1) rfl (res1 Try.results15 rfl) ?_
  exact ⟨_, rfl, a1, c1, by simp, by simpa using hO.weak (R' := Ge w.heap.size) (by intro g hg; have h3 : ((w.heap.size ≤ g) ∨ g = w.heap.size) := hg; show _ ≤ _; omega), HU⟩

theorem word_spec {n : Int} (w : World) (h0 : 0 ≤ n) (h1 : n < 4294967296) :
    Calls Try.prog 16 #[.int .u32 n] w (Ret fun v w' => ∃ a' c', v = .slice a' 4 c' ∧ Own w' (Ge w.heap.size) 5 1 (.slice a' 4 c') 4 (ints .u8 (word n)) ∧ Upd No w w') := by
  have HU : Upd (fun b => False) w w := Upd.refl _ _
  refine calls_of_W Try.func16 rfl Try.ntmps16 (by simp) ?_
  refine W_seq ?_
  refine W_region ?_
  refine Wl_v (r_as (v := .slice none 0 0) rfl) ?_
  refine Wl_nil ?_
  refine W_seq ?_
  refine W_region ?_
  refine Wl_v (r_mv (v := .int .u32 n) rfl) ?_
  refine Wl_v (r_rem rfl rfl (by omega) (tr (by omega))) ?_
  refine Wl_v (r_cvt Try.underlying23 Try.underlying5 rfl (mu8 _)) ?_
  refine Wl_v (r_mv (v := .int .u32 n) rfl) ?_
  refine Wl_v (r_quo rfl rfl (by omega) (tq (by omega) (wu32 (by omega) (by omega)))) ?_
  refine Wl_v (r_rem rfl rfl (by omega) (tr (by omega))) ?_
  refine Wl_v (r_cvt Try.underlying23 Try.underlying5 rfl (mu8 _)) ?_
  refine Wl_v (r_mv (v := .int .u32 n) rfl) ?_
  refine Wl_v (r_quo rfl rfl (by omega) (tq (by omega) (wu32 (by omega) (by omega)))) ?_
  refine Wl_v (r_rem rfl rfl (by omega) (tr (by omega))) ?_
  refine Wl_v (r_cvt Try.underlying23 Try.underlying5 rfl (mu8 _)) ?_
  refine Wl_v (r_mv (v := .int .u32 n) rfl) ?_
  refine Wl_v (r_quo rfl rfl (by omega) (tq (by omega) (wu32 (by omega) (by omega)))) ?_
  refine Wl_v (r_cvt Try.underlying23 Try.underlying5 rfl (mu8 _)) ?_
  refine Wl_lit (pv := [(0, .int .u8 ((n % 256) % 256)), (1, .int .u8 (((n / 256) % 256) % 256)), (2, .int .u8 (((n / 65536) % 256) % 256)), (3, .int .u8 ((n / 16777216) % 256))]) (cs := [.int .u8 ((n % 256) % 256), .int .u8 (((n / 256) % 256) % 256), .int .u8 (((n / 65536) % 256) % 256), .int .u8 ((n / 16777216) % 256)]) Try.underlying22 Try.sizeOf5 Try.zeroValue5 (by decide) (by decide) (by simp only [List.map_toArray, List.map_cons, List.map_nil] <;> rfl) (by kernel_rfl) rfl (by decide) ?_
  intro B1 w1 hB1 hU1 hzz1 hs1
  have hzw1 := hU1.size
  replace HU := HU.trans0 hU1
  replace hs1 : Own w1 (Is B1) 5 1 (.slice (some ⟨B1, 0, none⟩) 4 4) 4 (ints .u8 [(n % 256) % 256, ((n / 256) % 256) % 256, ((n / 65536) % 256) % 256, (n / 16777216) % 256]) := hs1
  refine Wl_v (r_as (v := .slice (some ⟨B1, 0, none⟩) 4 4) rfl) ?_
  refine Wl_nil ?_
  refine W_ret ?_
  refine ret_end (v := .slice (some ⟨B1, 0, none⟩) 4 4) rfl (res1 Try.results16 rfl) ?_
  refine ⟨_, rfl, _, _, rfl, ?_, HU⟩
  rw [show word n = [n % 256 % 256, n / 256 % 256 % 256, n / 65536 % 256 % 256, n / 16777216 % 256] from by unfold word; simp; omega]
  exact hs1.weak (R' := Ge w.heap.size) (by intro g hg; have h3 : g = B1 := hg; show _ ≤ _; omega)

theorem vbn_pos {f : Nat} {n : Int} (h : n < 128 ^ f) (h0 : 0 ≤ n) : n ≠ 0 → 0 < f := by
  intro hn
  cases f with
  | zero => simp at h; omega
  | succ f => omega

theorem varint_step {n : Int} {f : Nat} (w : World) (ih : ∀ x w, 0 ≤ x → x < 128 ^ f → x < 18446744073709551616 → 0 < f → Calls Try.prog 20 #[.int .u64 x] w (Ret fun v w' => ∃ a' c', v = .slice a' (vb f x).length c' ∧ Own w' (Ge w.heap.size) 5 1 (.slice a' (vb f x).length c') ((vb f x).length) (ints .u8 (vb f x)) ∧ Upd No w w')) (h0 : 0 ≤ n) (h1 : n < 128 ^ (f + 1)) (h2 : n < 18446744073709551616) (hf : f ≤ 9) :
    Calls Try.prog 20 #[.int .u64 n] w (Ret fun v w' => ∃ a' c', v = .slice a' ((vb (f + 1) n).length) c' ∧ Own w' (Ge w.heap.size) 5 1 (.slice a' ((vb (f + 1) n).length) c') ((vb (f + 1) n).length) (ints .u8 (vb (f + 1) n)) ∧ Upd No w w') := by
  have HU : Upd (fun b => False) w w := Upd.refl _ _
  refine calls_of_W Try.func20 rfl Try.ntmps20 (by simp) ?_
  refine W_seq ?_
  refine W_region ?_
  refine Wl_v (r_as (v := .slice none 0 0) rfl) ?_
  refine Wl_nil ?_
  refine W_seq ?_
  refine W_seq ?_
  refine W_region ?_
  refine Wl_v (r_mv (v := .int .u64 n) rfl) ?_
  refine Wl_v (r_lt rfl rfl) ?_
  refine Wl_nil ?_
  by_cases q1 : n < 128
  · rw [decide_eq_true q1]
    refine W_cond_t rfl ?_
    refine W_seq ?_
    refine W_region ?_
    refine Wl_v (r_mv (v := .int .u64 n) rfl) ?_
    refine Wl_v (r_cvt Try.underlying24 Try.underlying5 rfl (mu8 _)) ?_
    refine Wl_lit (pv := [(0, .int .u8 (n % 256))]) (cs := [.int .u8 (n % 256)]) Try.underlying22 Try.sizeOf5 Try.zeroValue5 (by decide) (by decide) (by simp only [List.map_toArray, List.map_cons, List.map_nil] <;> rfl) (by kernel_rfl) rfl (by decide) ?_
    intro B1 w1 hB1 hU1 hzz1 hs1
    have hzw1 := hU1.size
    replace HU := HU.trans0 hU1
    replace hs1 : Own w1 (Is B1) 5 1 (.slice (some ⟨B1, 0, none⟩) 1 1) 1 (ints .u8 [n % 256]) := hs1
    refine Wl_v (r_as (v := .slice (some ⟨B1, 0, none⟩) 1 1) rfl) ?_
    refine Wl_nil ?_
    refine W_ret ?_
    refine ret_end (v := .slice (some ⟨B1, 0, none⟩) 1 1) rfl (res1 Try.results20 rfl) ?_
    rw [vb_small (by omega)]
    exact ⟨_, rfl, _, _, rfl, by rw [show n = n % 256 from by omega]; exact hs1.weak (R' := Ge w.heap.size) (by intro g hg; have h3 : g = B1 := hg; show _ ≤ _; omega), HU⟩
  · rw [decide_eq_false q1]
    refine W_cond_f rfl ?_
    refine W_skip ?_
    refine W_seq ?_
    refine W_region ?_
    refine Wl_v (r_mv (v := .int .u64 n) rfl) ?_
    refine Wl_v (r_rem rfl rfl (by omega) (tr (by omega))) ?_
    refine Wl_v (r_add rfl rfl (wu64 (by omega) (by omega))) ?_
    refine Wl_v (r_cvt Try.underlying24 Try.underlying5 rfl (mu8 _)) ?_
    refine Wl_lit (pv := [(0, .int .u8 (((n % 128) + 128) % 256))]) (cs := [.int .u8 (((n % 128) + 128) % 256)]) Try.underlying22 Try.sizeOf5 Try.zeroValue5 (by decide) (by decide) (by simp only [List.map_toArray, List.map_cons, List.map_nil] <;> rfl) (by kernel_rfl) rfl (by decide) ?_
    intro B2 w2 hB2 hU2 hzz2 hs2
    have hzw2 := hU2.size
    replace HU := HU.trans0 hU2
    replace hs2 : Own w2 (Is B2) 5 1 (.slice (some ⟨B2, 0, none⟩) 1 1) 1 (ints .u8 [((n % 128) + 128) % 256]) := hs2
    refine Wl_v (r_mv (v := .int .u64 n) rfl) ?_
    refine Wl_v (r_quo rfl rfl (by omega) (tq (by omega) (wu64 (by omega) (by omega)))) ?_
    refine Wl_call (r_call1 rfl Try.call20 rfl) (ih _ _ (by omega) (pow_step h1) (by omega) (vbn_pos (pow_step h1) (by omega) (by omega))) ?_
    rintro v w3 ⟨a_hV, c_hV, rfl, hV, hU3⟩
    have hzw3 := hU3.size
    replace HU := HU.trans0 hU3
    replace hs2 := hs2.upd0 hU3
    replace hV := hV.tight
    have hvl := vb_len f (n / 128)
    refine Wl_append Try.underlying22 (ti := Try.t5) (z := .int .u8 0) (sz := 1) (by' := 1) rfl rfl rfl rfl rfl (by decide) rfl hs2 rfl hV.sl one_ints (by simp only [maxLen]; omega) (by omega) ?_
    clear hs2
    intro a4 c4 w4 hU4 hzz4 hO
    have hzw4 := hU4.size
    replace HU := HU.trans hU4 (by intro x hx; have hx2 : x = B2 := hx; show (False) ∨ w.heap.size ≤ x; omega)
    replace hV := hV.upd hU4 (by intro x h1 h2; have h3 : ((w2.heap.size ≤ x) ∧ x < w3.heap.size) := h1; have h4 : x = B2 := h2; omega)
    refine Wl_v (r_as (v := .slice a4 (1 + ((vb f (n / 128)).length)) c4) rfl) ?_
    refine Wl_nil ?_
    refine W_ret ?_
    refine ret_end (v := .slice a4 (1 + ((vb f (n / 128)).length)) c4) rfl (res1 Try.results20 rfl) ?_
    rw [vb_big (by omega)]
    refine ⟨_, rfl, a4, c4, by simp [Nat.add_comm], ?_, HU⟩
    rw [show n % 128 + 128 = (n % 128 + 128) % 256 from by omega]
    simpa [Nat.add_comm, ints] using hO.weak (R' := Ge w.heap.size) (by intro g hg; have h3 : ((g = B2) ∨ g = w3.heap.size) := hg; show _ ≤ _; omega)

theorem varint_spec : ∀ (f : Nat) (n : Int) (w : World), f ≤ 10 → 0 < f → 0 ≤ n → n < 128 ^ f → n < 18446744073709551616 → Calls Try.prog 20 #[.int .u64 n] w (Ret fun v w' => ∃ a' c', v = .slice a' ((vb f n).length) c' ∧ Own w' (Ge w.heap.size) 5 1 (.slice a' ((vb f n).length) c') ((vb f n).length) (ints .u8 (vb f n)) ∧ Upd No w w')
  | 0, _, _, _, h, _, _, _ => absurd h (by omega)
  | f + 1, n, w, hf, _, h0, h1, h2 => varint_step w (fun x w a b c d => varint_spec f x w (by omega) d a b c) h0 h1 h2 (by omega)
theorem rvarint_spec {n : Int} (w : World) (h0 : 0 ≤ n) (h1 : n < 18446744073709551616) : Calls Try.prog 20 #[.int .u64 n] w (Ret fun v w' => ∃ a' c', v = .slice a' ((vi n).length) c' ∧ Own w' (Ge w.heap.size) 5 1 (.slice a' ((vi n).length) c') ((vi n).length) (ints .u8 (vi n)) ∧ Upd No w w') := varint_spec 10 n w (by omega) (by omega) h0 (by omega) h1

theorem new_spec {a : Option Addr} {m c : Nat} {bs : List Int} (w : World) (hs : Sl w (fun g => g < w.heap.size) 1 (.slice a m c) m (ints .u8 bs)) (hm : m ≤ 140737488355328) :
    Calls Try.prog 21 #[.slice a m c] w (Ret fun v w' => ∃ pb a' c', v = .pointer (some ⟨pb, 0, none⟩) ∧ Blk w' pb [.slice a' m c', .int .i64 0] ∧ Own w' (fun g => w.heap.size ≤ g ∧ g ≠ pb) 5 1 (.slice a' m c') m (ints .u8 bs) ∧ w.heap.size ≤ pb ∧ Upd No w w') := by
  have HU : Upd (fun b => False) w w := Upd.refl _ _
  refine calls_of_W Try.func21 rfl Try.ntmps21 (by simp) ?_
  refine W_seq ?_
  refine W_region ?_
  refine Wl_v (r_as (v := .pointer none) rfl) ?_
  refine Wl_nil ?_
  refine W_seq ?_
  refine W_region ?_
  refine Wl_v (r_mv (v := .slice a m c) rfl) ?_
  refine Wl_call (r_call1 rfl Try.call35 rfl) (clone_spec _ hs one_ints (by omega)) ?_
  rintro v w1 ⟨a1, c1, rfl, hO, hU1⟩
  have hzw1 := hU1.size
  replace hs := hs.upd0 hU1
  replace HU := HU.trans0 hU1
  replace hO := hO.tight
  refine Wl_v (r_build (pl := #[(0, 1), (1, 1)]) (pv := [(0, .slice a1 m c1)]) (cs := #[.slice a1 m c1, .int .i64 0]) Try.zeroValue66 Try.underlying66 (fun w => by kernel_rfl) (by simp only [List.map_toArray, List.map_cons, List.map_nil] <;> rfl) (by kernel_rfl)) ?_
  refine Wl_box (v := .agg #[.slice a1 m c1, .int .i64 0]) (cs := [.slice a1 m c1, .int .i64 0]) rfl rfl ?_
  intro B2 w2 hB2 hU2 hzz2 hb2
  have hzw2 := hU2.size
  replace hs := hs.upd0 hU2
  replace HU := HU.trans0 hU2
  replace hO := hO.upd0 hU2
  refine Wl_v (r_as (v := .pointer (some ⟨B2, 0, none⟩)) rfl) ?_
  refine Wl_nil ?_
  refine W_ret ?_
  refine ret_end (v := .pointer (some ⟨B2, 0, none⟩)) rfl (res1 Try.results21 rfl) ?_
  exact ⟨_, rfl, _, _, _, rfl, hb2, hO.weak (by intro g hg; have h3 : ((w.heap.size ≤ g) ∧ g < w1.heap.size) := hg; show _ ∧ _; omega), by omega, HU⟩

end Go.Proofs.Ytigojafhogjnfaa
