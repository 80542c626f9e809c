/-
  Walks, printed by a small program of this project (gen.py).
-/
import Derived.Test.YtflmjdnhjbiobaaWa
import Derived.Test.YtflmjdnhjbiobaaPa
import Derived.Test.YtflmjdnhjbiobaaFg
set_option linter.unusedVariables false
set_option linter.unusedSimpArgs false
namespace Go.Proofs.Ytflmjdnhjbiobaa
open Go.Fw

set_option maxRecDepth 100000 in
theorem parts1_spec {l B : Nat} {n0 : Int} {J : Nat → World → Prop} {Jx : World → Prop} {Sb : Nat → Prop} (w : World) (hB : Blk w B [.int .u64 n0]) (h0 : 0 ≤ n0) (h1 : n0 < 18446744073709551616) (hJ0 : J 0 w) (hJ : ∀ i w w', J i w → Upd (Is B) w w' → J i w') (hSb : ¬ Sb B) (hy : ∀ i w, i < (vi n0).length → J i w → YieldC Try.prog l #[.int .u8 ((vi n0).getD i 0)] w (fun e w' => (e = .returned (.bool true) ∧ (Upd Sb w w' ∧ J (i + 1) w')) ∨ (e = .returned (.bool false) ∧ Jx w'))) :
    Calls Try.prog 66 #[.func (.yield l) #[] #[], .pointer (some ⟨B, 0, none⟩)] w (Ret fun v w' => J (vi n0).length w' ∨ Jx w') := by
  have HU : Upd (fun b => False) w w := Upd.refl _ _
  refine calls_of_W Try.func66 rfl Try.ntmps66 (by simp) ?_
  refine W_seq ?_
  refine W_block ?_
  refine W_loop (fun mu ρ ds w' => ∃ (k f : Nat) (m : Int), f = mu ∧ ds = [] ∧ Liv ρ [(0, .func (.yield l) #[] #[]), (1, .pointer (some ⟨B, 0, none⟩))] ∧ 0 ≤ m ∧ m < 128 ^ (f + 1) ∧ m < 18446744073709551616 ∧ (vi n0).drop k = vb (f + 1) m ∧ Blk w' B [.int .u64 m] ∧ J k w') _ ⟨0, 9, n0, rfl, rfl, ⟨rfl, rfl, trivial⟩, h0, (by omega), h1, rfl, hB, hJ0⟩ ?_
  rintro m1 ρ1 ds1 w1 ⟨k, f, m, rfl, rfl, hl1, i1, i2, i2b, i3, hB, hJ0⟩
  obtain ⟨ρ1x, rfl⟩ : ∃ ρx, ρ1 = upds ρx [(0, .func (.yield l) #[] #[]), (1, .pointer (some ⟨B, 0, none⟩))] := ⟨_, upds_self hl1⟩
  clear hl1
  refine W_seq ?_
  refine W_seq ?_
  refine W_region ?_
  refine Wl_load (v := .int .u64 m) Try.isAgg68 rfl hB rfl ?_
  refine Wl_v (r_ge rfl rfl) ?_
  refine Wl_nil ?_
  by_cases q1 : 128 ≤ m
  · obtain ⟨f1, rfl⟩ : ∃ f1, f = f1 + 1 := by
      cases f with
      | zero => exfalso; omega
      | succ f1 => exact ⟨f1, rfl⟩
    have hp := pow_step i2
    rw [vb_big q1] at i3
    obtain ⟨hgd, hdr, hk⟩ := drop_getD i3
    rw [decide_eq_true q1]
    refine W_cond_t rfl ?_
    refine W_skip ?_
    refine W_block ?_
    refine W_seq ?_
    refine W_seq ?_
    refine W_region ?_
    refine Wl_v (r_mv (v := .func (.yield l) #[] #[]) rfl) ?_
    refine Wl_load (v := .int .u64 m) Try.isAgg68 rfl hB rfl ?_
    refine Wl_v (r_cvt Try.underlying68 Try.underlying5 rfl (mu8 _)) ?_
    refine Wl_v (r_or rfl rfl or128) ?_
    refine Wl_yield1 rfl rfl (by have := hy k _ hk hJ0; rw [show (vi n0).getD k 0 = m % 128 + 128 from by rw [hgd]] at this; exact this) ?_ ?_
    · rintro w2 ⟨hU2, hJn⟩
      replace hB := hB.upd hU2 hSb
      replace hJ0 := hJn
      refine Wl_v (r_not (b := true) rfl) ?_
      refine Wl_nil ?_
      refine W_cond_f rfl ?_
      refine W_skip ?_
      refine W_region ?_
      refine Wl_load (v := .int .u64 m) Try.isAgg68 rfl hB rfl ?_
      refine Wl_v (r_shr (c := m / 128) rfl rfl (by decide) rfl) ?_
      refine Wl_store (v := .int .u64 (m / 128)) (cs' := [.int .u64 (m / 128)]) Try.sizeOf68 rfl rfl rfl rfl hB rfl rfl ?_
      intro w3 hU3 hzz3 hBn
      replace hB := hBn; clear hBn
      have hzw3 := hU3.size
      replace hJ0 := hJ _ _ _ hJ0 hU3
      refine Wl_nil ?_
      refine ⟨_, ?_, (k + 1), f1, (m / 128), rfl, rfl, ⟨rfl, rfl, trivial⟩, (by omega), hp, (by omega), hdr, hB, hJ0⟩
      omega
    · rintro w4 hJx
      refine Wl_v (r_not (b := false) rfl) ?_
      refine Wl_nil ?_
      refine W_cond_t rfl ?_
      refine W_ret ?_
      refine ret_end (v := .tuple #[]) rfl (res0 Try.results66) ?_
      exact ⟨_, rfl, Or.inr hJx⟩
  · rw [vb_small (by omega)] at i3
    obtain ⟨hgd, _, hk⟩ := drop_getD i3
    have hln := drop_last i3
    rw [decide_eq_false q1]
    refine W_cond_f rfl ?_
    refine W_exit ?_
    refine W_region ?_
    refine Wl_v (r_mv (v := .func (.yield l) #[] #[]) rfl) ?_
    refine Wl_load (v := .int .u64 m) Try.isAgg68 rfl hB rfl ?_
    refine Wl_v (r_cvt Try.underlying68 Try.underlying5 rfl (mu8 _)) ?_
    refine Wl_yield1 rfl rfl (by have := hy k _ hk hJ0; rw [show (vi n0).getD k 0 = m % 256 from by rw [hgd]; omega] at this; exact this) ?_ ?_
    · rintro w5 ⟨hU5, hJn⟩
      replace hB := hB.upd hU5 hSb
      replace hJ0 := hJn
      refine Wl_nil ?_
      refine nrm_end (v := .tuple #[]) rfl (res0 Try.results66) ?_
      exact ⟨_, rfl, Or.inl (by rw [hln]; exact hJ0)⟩
    · rintro w6 hJx
      refine Wl_nil ?_
      refine nrm_end (v := .tuple #[]) rfl (res0 Try.results66) ?_
      exact ⟨_, rfl, Or.inr hJx⟩

set_option maxRecDepth 100000 in
theorem parts_spec {n0 : Int} (w : World)  :
    Calls Try.prog 56 #[.int .u64 n0] w (Ret fun v w' => ∃ B, v = .func (.func 66) #[] #[.pointer (some ⟨B, 0, none⟩)] ∧ w.heap.size ≤ B ∧ Blk w' B [.int .u64 n0] ∧ Upd No w w') := by
  have HU : Upd (fun b => False) w w := Upd.refl _ _
  refine calls_of_W Try.func56 rfl Try.ntmps56 (by simp) ?_
  refine W_seq ?_
  refine W_region ?_
  refine Wl_box (v := .int .u64 n0) (cs := [.int .u64 n0]) rfl rfl ?_
  intro B1 w1 hB1 hU1 hzz1 hb1
  have hzw1 := hU1.size
  replace HU := HU.trans0 hU1
  refine Wl_v (r_as (v := .nilFunc) rfl) ?_
  refine Wl_nil ?_
  refine W_seq ?_
  refine W_region ?_
  refine Wl_v (r_mkf1 (v0 := .pointer (some ⟨B1, 0, none⟩)) rfl) ?_
  refine Wl_v (r_as (v := .func (.func 66) #[] #[.pointer (some ⟨B1, 0, none⟩)]) rfl) ?_
  refine Wl_nil ?_
  refine W_ret ?_
  refine ret_end (v := .func (.func 66) #[] #[.pointer (some ⟨B1, 0, none⟩)]) rfl (res1 Try.results56 rfl) ?_
  exact ⟨_, rfl, B1, rfl, by omega, hb1, HU⟩

set_option maxRecDepth 100000 in
theorem putvarint_spec {a : Option Addr} {m c : Nat} {bs : List Int} {n : Int} (w : World) (hs : Sl w (fun g => g < w.heap.size) 1 (.slice a m c) m (ints .u8 bs)) (hm : m + 10 ≤ 140737488355328) (h0 : 0 ≤ n) (h1 : n ≤ 4611686018427387903) :
    Calls Try.prog 36 #[.slice a m c, .int .u64 n] w (Ret fun v w' => ∃ a' c', v = .tuple #[.slice a' (m + (vi n).length) c', .int .i64 0] ∧ Own w' (Ge w.heap.size) 5 1 (.slice a' (m + (vi n).length) c') (m + (vi n).length) (ints .u8 (bs ++ vi n)) ∧ Upd No w w') := by
  have HU : Upd (fun b => False) w w := Upd.refl _ _
  refine calls_of_W Try.func36 rfl Try.ntmps36 (by simp) ?_
  refine W_seq ?_
  refine W_region ?_
  refine Wl_v (r_as (v := .slice none 0 0) rfl) ?_
  refine Wl_v (r_as (v := .int .i64 0) rfl) ?_
  refine Wl_nil ?_
  refine W_seq ?_
  refine W_seq ?_
  refine W_region ?_
  refine Wl_v (r_mv (v := .int .u64 n) rfl) ?_
  refine Wl_v (r_gt rfl rfl) ?_
  refine Wl_nil ?_
  have q1 : ¬ (4611686018427387903 < n) := (by omega)
  rw [decide_eq_false q1]
  refine W_cond_f rfl ?_
  refine W_skip ?_
  refine W_seq ?_
  refine W_region ?_
  refine Wl_v (r_mv (v := .slice a m c) rfl) ?_
  refine Wl_call (r_call1 rfl Try.call39 rfl) (clone_spec _ hs one_ints (by omega)) ?_
  rintro v w1 ⟨a1, c1, rfl, hO, hU1⟩
  have hzw1 := hU1.size
  replace hs := hs.upd0 hU1
  replace HU := HU.trans0 hU1
  replace hO := hO.tight
  refine Wl_alloc (cs := [.slice none 0 0]) Try.zeroValue35 rfl ?_
  intro B2 w2 hB2 hU2 hzz2 hb2
  have hzw2 := hU2.size
  replace hs := hs.upd0 hU2
  replace HU := HU.trans0 hU2
  replace hO := hO.upd0 hU2
  refine Wl_store (v := .slice a1 m c1) (cs' := [.slice a1 m c1]) Try.sizeOf35 rfl rfl rfl rfl hb2 rfl rfl ?_
  intro w3 hU3 hzz3 hb2n
  replace hb2 := hb2n; clear hb2n
  have hzw3 := hU3.size
  replace hs := hs.upd1 hU3 (by intro h1; have h3 : B2 < w.heap.size := h1; omega)
  replace HU := HU.trans1 hU3 (by show (False) ∨ w.heap.size ≤ B2; omega)
  replace hO := hO.upd1 hU3 (by intro h1; have h3 : ((w.heap.size ≤ B2) ∧ B2 < w1.heap.size) := h1; omega)
  refine Wl_nil ?_
  refine W_seq ?_
  refine W_seq ?_
  refine W_region ?_
  refine Wl_v (r_mv (v := .int .u64 n) rfl) ?_
  refine Wl_call (r_call1 rfl Try.call56 rfl) (parts_spec _) ?_
  rintro v w4 ⟨Bp, rfl, hBl, hBp, hU4⟩
  have hzw4 := hU4.size
  replace hs := hs.upd0 hU4
  replace HU := HU.trans0 hU4
  replace hO := hO.upd0 hU4
  replace hb2 := hb2.upd0 hU4
  have hBpl := hBp.lt
  refine Wl_nil ?_
  refine W_block ?_
  refine W_range (gf := 66) (ar := fun y => #[y, .pointer (some ⟨Bp, 0, none⟩)]) rfl Try.call66 (fun y => by simp) ?_
  intro D5 fn5 w5 hD5 hU5 hzz5 hdf5 hrc50
  have hzw5 := hU5.size
  replace hs := hs.upd0 hU5
  replace HU := HU.trans0 hU5
  replace hO := hO.upd0 hU5
  replace hb2 := hb2.upd0 hU5
  replace hBp := hBp.upd0 hU5
  obtain ⟨r5, hr5, hrc5⟩ : ∃ r, r = _ ∧ Rec w5 (D5 + 1) r := ⟨_, rfl, hrc50⟩
  clear hrc50
  obtain ⟨J5, hJ5⟩ : ∃ J : Nat → World → Prop, ∀ i w', J i w' ↔ (∃ (a2 : Option Addr) (c2 : Nat), Rec w' (D5 + 1) r5 ∧ Dfr w' D5 ∧ Blk w' B2 [.slice a2 (m + i) c2] ∧ Own w' (fun g => w.heap.size ≤ g ∧ g ≠ B2 ∧ g ≠ Bp ∧ g ≠ D5 ∧ g ≠ D5 + 1) 5 1 (.slice a2 (m + i) c2) (m + i) (ints .u8 (bs ++ (vi n).take i)) ∧ Upd No w w') := ⟨_, fun _ _ => Iff.rfl⟩
  obtain ⟨Jx5, hJx5⟩ : ∃ Jx : World → Prop, ∀ w', Jx w' ↔ (False) := ⟨_, fun _ => Iff.rfl⟩
  refine (parts1_spec (l := (D5 + 1)) (n0 := n) (J := J5) (Jx := Jx5) (Sb := (fun g => w.heap.size ≤ g ∧ g ≠ Bp)) w5 hBp h0 (by omega) ?_ ?_ (by show ¬ (_ ∧ _); omega) ?_).mono ?_
  · exact (hJ5 _ _).2 ⟨a1, c1, hrc5, hdf5, hb2, (by simpa using hO.weak (by intro g hg; have h3 : ((w.heap.size ≤ g) ∧ g < w1.heap.size) := hg; show w.heap.size ≤ g ∧ g ≠ B2 ∧ g ≠ Bp ∧ g ≠ D5 ∧ g ≠ D5 + 1; omega)), HU⟩
  · intro i wa wb hh hUs
    obtain ⟨a2, c2, hrc5, hdf5, hb2, hO, HU⟩ := (hJ5 _ _).1 hh
    replace hrc5 := hrc5.upd1 hUs (by omega)
    replace hdf5 := hdf5.upd1 hUs (by omega)
    replace hb2 := hb2.upd1 hUs (by omega)
    replace hO := hO.upd1 hUs (by intro h1; have h3 : w.heap.size ≤ Bp ∧ Bp ≠ B2 ∧ Bp ≠ Bp ∧ Bp ≠ D5 ∧ Bp ≠ D5 + 1 := h1; omega)
    replace HU := HU.trans1 hUs (by show False ∨ w.heap.size ≤ Bp; omega)
    exact (hJ5 _ _).2 ⟨a2, c2, hrc5, hdf5, hb2, hO, HU⟩
  · intro i6 w6 hi6 hh
    obtain ⟨a2, c2, hrc5, hdf5, hb2, hO, HU⟩ := (hJ5 _ _).1 hh
    have hrl5 := hrc5.lt
    have hstep : bs ++ (vi n).take (i6 + 1) = bs ++ (vi n).take i6 ++ [(vi n).getD i6 0] := by rw [List.append_assoc, take_getD hi6]
    replace hO := hO.tight
    have hvl := vi_len n
    have hBd : w.heap.size ≤ Bp := by omega
    have HB5 : Upd (fun g => w.heap.size ≤ g ∧ g ≠ Bp) w6 w6 := Upd.refl _ _
    refine yieldC_of_W (R := fun b c w' => (b = true ∧ Upd (fun g => w.heap.size ≤ g ∧ g ≠ Bp) w6 w' ∧ J5 (i6 + 1) w') ∨ (b = false ∧ Jx5 w')) hrc5 (by rw [hr5]; rfl) (by rw [hr5]; exact zip1 _ _ _ _) ?_ ?_
    · rw [hr5]
      refine W_region ?_
      refine Wl_v (r_as (v := .int .u8 ((vi n).getD i6 0)) rfl) ?_
      refine Wl_nil ?_
      refine ⟨rfl, _, hrc5, (by rw [hr5]), ?_⟩
      intro w7 hU7 hzz7 hrc5b
      have hzw7 := hU7.size
      replace hdf5 := hdf5.upd1 hU7 (by omega)
      replace hb2 := hb2.upd1 hU7 (by omega)
      replace hO := hO.upd1 hU7 (by intro h1; have h3 : ((w.heap.size ≤ (D5 + 1) ∧ (D5 + 1) ≠ B2 ∧ (D5 + 1) ≠ Bp ∧ (D5 + 1) ≠ D5 ∧ (D5 + 1) ≠ D5 + 1) ∧ (D5 + 1) < w6.heap.size) := h1; omega)
      replace HU := HU.trans1 hU7 (by show (False) ∨ w.heap.size ≤ (D5 + 1); omega)
      replace HB5 := HB5.trans1 hU7 (by show (w.heap.size ≤ (D5 + 1) ∧ (D5 + 1) ≠ Bp) ∨ w6.heap.size ≤ (D5 + 1); omega)
      clear hrc5
      have hrc5 := hrc5b
      clear hrc5b
      refine W_block ?_
      refine W_region ?_
      refine Wl_load (v := .slice a2 (m + i6) c2) Try.isAgg35 rfl hb2 rfl ?_
      refine Wl_v (r_mv (v := .int .u8 ((vi n).getD i6 0)) rfl) ?_
      refine Wl_lit (pv := [(0, .int .u8 ((vi n).getD i6 0))]) (cs := [.int .u8 ((vi n).getD i6 0)]) Try.underlying35 Try.sizeOf5 Try.zeroValue5 (by decide) (by decide) (by simp only [List.map_toArray, List.map_cons, List.map_nil] <;> rfl) (by kernel_rfl) rfl (by decide) ?_
      intro B8 w8 hB8 hU8 hzz8 hs8
      have hzw8 := hU8.size
      replace hrc5 := hrc5.upd0 hU8
      replace hdf5 := hdf5.upd0 hU8
      replace hb2 := hb2.upd0 hU8
      replace hO := hO.upd0 hU8
      replace HU := HU.trans0 hU8
      replace HB5 := HB5.trans0 hU8
      replace hs8 : Own w8 (Is B8) 5 1 (.slice (some ⟨B8, 0, none⟩) 1 1) 1 (ints .u8 [(vi n).getD i6 0]) := hs8
      refine Wl_append Try.underlying35 (ti := Try.t5) (z := .int .u8 0) (sz := 1) (by' := 1) rfl rfl rfl rfl rfl (by decide) rfl hO rfl hs8.sl (by intro u hu; simp at hu; subst hu; rfl) (by simp only [maxLen]; omega) (by omega) ?_
      clear hO
      intro a9 c9 w9 hU9 hzz9 hO
      have hzw9 := hU9.size
      replace hrc5 := hrc5.upd hU9 (by intro hx; have hx2 : ((w.heap.size ≤ (D5 + 1) ∧ (D5 + 1) ≠ B2 ∧ (D5 + 1) ≠ Bp ∧ (D5 + 1) ≠ D5 ∧ (D5 + 1) ≠ D5 + 1) ∧ (D5 + 1) < w6.heap.size) := hx; omega)
      replace hdf5 := hdf5.upd hU9 (by intro hx; have hx2 : ((w.heap.size ≤ D5 ∧ D5 ≠ B2 ∧ D5 ≠ Bp ∧ D5 ≠ D5 ∧ D5 ≠ D5 + 1) ∧ D5 < w6.heap.size) := hx; omega)
      replace hb2 := hb2.upd hU9 (by intro hx; have hx2 : ((w.heap.size ≤ B2 ∧ B2 ≠ B2 ∧ B2 ≠ Bp ∧ B2 ≠ D5 ∧ B2 ≠ D5 + 1) ∧ B2 < w6.heap.size) := hx; omega)
      replace HU := HU.trans hU9 (by intro x hx; have hx2 : ((w.heap.size ≤ x ∧ x ≠ B2 ∧ x ≠ Bp ∧ x ≠ D5 ∧ x ≠ D5 + 1) ∧ x < w6.heap.size) := hx; show (False) ∨ w.heap.size ≤ x; omega)
      replace HB5 := HB5.trans hU9 (by intro x hx; have hx2 : ((w.heap.size ≤ x ∧ x ≠ B2 ∧ x ≠ Bp ∧ x ≠ D5 ∧ x ≠ D5 + 1) ∧ x < w6.heap.size) := hx; show (w.heap.size ≤ x ∧ x ≠ Bp) ∨ w6.heap.size ≤ x; omega)
      replace hs8 := hs8.upd hU9 (by intro x h1 h2; have h3 : x = B8 := h1; have h4 : ((w.heap.size ≤ x ∧ x ≠ B2 ∧ x ≠ Bp ∧ x ≠ D5 ∧ x ≠ D5 + 1) ∧ x < w6.heap.size) := h2; omega)
      refine Wl_store (v := .slice a9 ((m + i6) + 1) c9) (cs' := [.slice a9 ((m + i6) + 1) c9]) Try.sizeOf35 rfl rfl rfl rfl hb2 rfl rfl ?_
      intro w10 hU10 hzz10 hb2n
      replace hb2 := hb2n; clear hb2n
      have hzw10 := hU10.size
      replace hrc5 := hrc5.upd1 hU10 (by omega)
      replace hdf5 := hdf5.upd1 hU10 (by omega)
      replace HU := HU.trans1 hU10 (by show (False) ∨ w.heap.size ≤ B2; omega)
      replace HB5 := HB5.trans1 hU10 (by show (w.heap.size ≤ B2 ∧ B2 ≠ Bp) ∨ w6.heap.size ≤ B2; omega)
      replace hs8 := hs8.upd1 hU10 (by intro h1; have h3 : B2 = B8 := h1; omega)
      replace hO := hO.upd1 hU10 (by intro h1; have h3 : ((((w.heap.size ≤ B2 ∧ B2 ≠ B2 ∧ B2 ≠ Bp ∧ B2 ≠ D5 ∧ B2 ≠ D5 + 1) ∧ B2 < w6.heap.size)) ∨ B2 = w8.heap.size) := h1; omega)
      refine Wl_nil ?_
      refine ⟨rfl, _, hrc5, ?_⟩
      intro w11 hU11 hzz11 hrz
      have hzw11 := hU11.size
      replace hdf5 := hdf5.upd1 hU11 (by omega)
      replace hb2 := hb2.upd1 hU11 (by omega)
      replace HU := HU.trans1 hU11 (by show (False) ∨ w.heap.size ≤ (D5 + 1); omega)
      replace HB5 := HB5.trans1 hU11 (by show (w.heap.size ≤ (D5 + 1) ∧ (D5 + 1) ≠ Bp) ∨ w6.heap.size ≤ (D5 + 1); omega)
      replace hs8 := hs8.upd1 hU11 (by intro h1; have h3 : (D5 + 1) = B8 := h1; omega)
      replace hO := hO.upd1 hU11 (by intro h1; have h3 : ((((w.heap.size ≤ (D5 + 1) ∧ (D5 + 1) ≠ B2 ∧ (D5 + 1) ≠ Bp ∧ (D5 + 1) ≠ D5 ∧ (D5 + 1) ≠ D5 + 1) ∧ (D5 + 1) < w6.heap.size)) ∨ (D5 + 1) = w8.heap.size) := h1; omega)
      exact Or.inl ⟨rfl, HB5, (hJ5 _ _).2 ⟨a9, c9, (by rw [hr5]; rw [hr5] at hrz; exact hrz), hdf5, (by simpa [Nat.add_assoc] using hb2), (by rw [hstep]; simpa [Nat.add_assoc] using hO.weak (by intro g hg; have h3 : ((((w.heap.size ≤ g ∧ g ≠ B2 ∧ g ≠ Bp ∧ g ≠ D5 ∧ g ≠ D5 + 1) ∧ g < w6.heap.size)) ∨ g = w8.heap.size) := hg; show w.heap.size ≤ g ∧ g ≠ B2 ∧ g ≠ Bp ∧ g ≠ D5 ∧ g ≠ D5 + 1; omega)), HU⟩⟩
    · rintro b c w9 (⟨rfl, h1, h2⟩ | ⟨rfl, h1⟩)
      · exact Or.inl ⟨rfl, h1, h2⟩
      · exact Or.inr ⟨rfl, h1⟩
  rintro e w12 ⟨v, rfl, hh | hh⟩
  · obtain ⟨a2, c2, hrc5, hdf5, hb2, hO, HU⟩ := (hJ5 _ _).1 hh
    have hrl5 := hrc5.lt
    refine ⟨r5, hrc5, (by rw [hr5]; simp), ?_⟩
    intro w13 hU13 hzz13
    have hzw13 := hU13.size
    replace hdf5 := hdf5.upd1 hU13 (by omega)
    replace hb2 := hb2.upd1 hU13 (by omega)
    replace hO := hO.upd1 hU13 (by intro h1; have h3 : w.heap.size ≤ (D5 + 1) ∧ (D5 + 1) ≠ B2 ∧ (D5 + 1) ≠ Bp ∧ (D5 + 1) ≠ D5 ∧ (D5 + 1) ≠ D5 + 1 := h1; omega)
    replace HU := HU.trans1 hU13 (by show (False) ∨ w.heap.size ≤ (D5 + 1); omega)
    rw [hr5]
    skip
    refine W_seq ?_
    refine W_region ?_
    refine Wl_load (v := .slice a2 (m + (vi n).length) c2) Try.isAgg35 rfl hb2 rfl ?_
    refine Wl_v (r_as (v := .slice a2 (m + (vi n).length) c2) rfl) ?_
    refine Wl_v (r_as (v := .int .i64 0) rfl) ?_
    refine Wl_nil ?_
    refine W_ret ?_
    refine ret_ds rfl ?_
    refine lv_mark (by simp) hdf5 ?_
    intro w14 hU14 hzz14
    have hzw14 := hU14.size
    replace hb2 := hb2.upd1 hU14 (by omega)
    replace hO := hO.upd1 hU14 (by intro h1; have h3 : w.heap.size ≤ D5 ∧ D5 ≠ B2 ∧ D5 ≠ Bp ∧ D5 ≠ D5 ∧ D5 ≠ D5 + 1 := h1; omega)
    replace HU := HU.trans1 hU14 (by show (False) ∨ w.heap.size ≤ D5; omega)
    refine lv_nil (v := .tuple #[.slice a2 (m + (vi n).length) c2, .int .i64 0]) (res2 Try.results36 rfl rfl) ?_
    exact ⟨_, rfl, _, _, rfl, by simpa using hO.weak (R' := Ge w.heap.size) (by intro g hg; have h3 : w.heap.size ≤ g ∧ g ≠ B2 ∧ g ≠ Bp ∧ g ≠ D5 ∧ g ≠ D5 + 1 := hg; show _ ≤ _; omega), HU⟩
  · exact ((hJx5 _).1 hh).elim

set_option maxRecDepth 100000 in
theorem putvarint_no {a : Option Addr} {m c : Nat} {n : Int} (w : World) (h1 : 4611686018427387903 < n) :
    Calls Try.prog 36 #[.slice a m c, .int .u64 n] w (Ret fun v w' => v = .tuple #[.slice none 0 0, .int .i64 2] ∧ Upd No w w') := by
  have HU : Upd (fun b => False) w w := Upd.refl _ _
  refine calls_of_W Try.func36 rfl Try.ntmps36 (by simp) ?_
  refine W_seq ?_
  refine W_region ?_
  refine Wl_v (r_as (v := .slice none 0 0) rfl) ?_
  refine Wl_v (r_as (v := .int .i64 0) rfl) ?_
  refine Wl_nil ?_
  refine W_seq ?_
  refine W_seq ?_
  refine W_region ?_
  refine Wl_v (r_mv (v := .int .u64 n) rfl) ?_
  refine Wl_v (r_gt rfl rfl) ?_
  refine Wl_nil ?_
  have q1 : 4611686018427387903 < n := h1
  rw [decide_eq_true q1]
  refine W_cond_t rfl ?_
  refine W_seq ?_
  refine W_region ?_
  refine Wl_v (r_as (v := .slice none 0 0) rfl) ?_
  refine Wl_v (r_as (v := .int .i64 2) rfl) ?_
  refine Wl_nil ?_
  refine W_ret ?_
  refine ret_end (v := .tuple #[.slice none 0 0, .int .i64 2]) rfl (res2 Try.results36 rfl rfl) ?_
  exact ⟨_, rfl, rfl, HU⟩

end Go.Proofs.Ytflmjdnhjbiobaa
