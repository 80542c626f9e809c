/-
  Walks, printed by a small program of this project (gen.py).
-/
import Derived.Test.YtflmjdnhjbiobaaWg
import Derived.Test.YtflmjdnhjbiobaaPd
set_option linter.unusedVariables false
set_option linter.unusedSimpArgs false
namespace Go.Proofs.Ytflmjdnhjbiobaa
open Go.Fw

set_option maxRecDepth 100000 in
theorem cword_clo {Bc : Nat} {pb : Nat} {a : Option Addr} {n c p : Nat} {bs : List Int} (w : World) (hc : Blk w Bc [.pointer (some ⟨pb, 0, none⟩)]) (hBc : Bc ≠ pb) (hp : Blk w pb [.slice a n c, .int .i64 ((p : Nat) : Int)]) (hs : Sl w (fun g => g < w.heap.size ∧ g ≠ pb) 1 (.slice a n c) n (ints .u8 bs)) (hb : Byt bs) (hpn : p ≤ n) (hn : n ≤ 140737488355328) :
    Calls Try.prog 61 #[.pointer (some ⟨Bc, 0, none⟩)] w (Ret fun v w' => ∃ x er, v = .tuple #[x, .int .i64 er] ∧ x.cells = #[x] ∧ x.oneCell' = true ∧ ∃ at1, Blk w' pb [.slice a n c, .int .i64 at1] ∧ Upd (Is pb) w w' ∧ x = .int .u32 (gword bs p).1 ∧ er = (gword bs p).2.2 ∧ at1 = (((gword bs p).2.1 : Nat) : Int)) := by
  have HU : Upd (fun b => b = pb) w w := Upd.refl _ _
  have hl := ilen hs
  have hcap := hs.cap.1
  have hpl := hp.lt
  have hcl := hc.lt
  refine calls_of_W Try.func61 rfl Try.ntmps61 (by simp) ?_
  refine W_seq ?_
  refine W_region ?_
  refine Wl_v (r_as (v := .int .u32 0) rfl) ?_
  refine Wl_v (r_as (v := .int .i64 0) rfl) ?_
  refine Wl_nil ?_
  refine W_seq ?_
  refine W_region ?_
  refine Wl_load (v := .pointer (some ⟨pb, 0, none⟩)) Try.isAgg41 rfl hc rfl ?_
  refine Wl_call (r_call2 rfl Try.call25 rfl rfl) (bytes_spec _ hp (hs.cur (by intro h1; have h3 : (pb < w.heap.size ∧ pb ≠ pb) := h1; first | omega | simp at h3)) hb (by omega) (by omega)) ?_
  rintro v w1 ⟨a1, m1, c1, rfl, hp1, hO1, hm_1, hU1⟩
  have hzw1 := hU1.size
  replace hs := hs.upd1 hU1 (by intro h1; have h3 : (pb < w.heap.size ∧ pb ≠ pb) := h1; omega)
  replace hc := hc.upd1 hU1 (by omega)
  replace HU := HU.trans1 hU1 (by show (pb = pb) ∨ w.heap.size ≤ pb; omega)
  have hbl_hp1 := hp1.lt
  replace hO1 := hO1.tight
  have hl_hO1 := ilen hO1.sl
  have hc_hO1 := hO1.sl.cap.1
  have hlen := gbytes_len (bs := bs) (p := p) (k := 4)
  have h4 : (4 : Int).toNat = 4 := rfl
  refine Wl_v (r_mv (v := .tuple #[.slice a1 m1 c1, .int .i64 ((gbytes bs p 4).2.2)]) rfl) ?_
  refine Wl_v (r_ext (v := .slice a1 m1 c1) rfl rfl) ?_
  refine Wl_v (r_ext (v := .int .i64 ((gbytes bs p 4).2.2)) rfl rfl) ?_
  refine Wl_v (r_as (v := .slice a1 m1 c1) rfl) ?_
  refine Wl_v (r_as (v := .int .i64 ((gbytes bs p 4).2.2)) rfl) ?_
  refine Wl_nil ?_
  refine W_seq ?_
  refine W_region ?_
  refine Wl_alloc (cs := [.int .u32 0]) Try.zeroValue32 rfl ?_
  intro B2 w2 hB2 hU2 hzz2 hb2
  have hzw2 := hU2.size
  replace hs := hs.upd0 hU2
  replace hc := hc.upd0 hU2
  replace HU := HU.trans0 hU2
  replace hp1 := hp1.upd0 hU2
  replace hO1 := hO1.upd0 hU2
  refine Wl_store (v := .int .u32 0) (cs' := [.int .u32 0]) Try.sizeOf32 rfl rfl rfl rfl hb2 rfl rfl ?_
  intro w3 hU3 hzz3 hb2n
  replace hb2 := hb2n; clear hb2n
  have hzw3 := hU3.size
  replace hs := hs.upd1 hU3 (by intro h1; have h3 : (B2 < w.heap.size ∧ B2 ≠ pb) := h1; omega)
  replace hc := hc.upd1 hU3 (by omega)
  replace HU := HU.trans1 hU3 (by show (B2 = pb) ∨ w.heap.size ≤ B2; omega)
  replace hp1 := hp1.upd1 hU3 (by omega)
  replace hO1 := hO1.upd1 hU3 (by intro h1; have h3 : ((w.heap.size ≤ B2) ∧ B2 < w1.heap.size) := h1; omega)
  refine Wl_nil ?_
  refine W_seq ?_
  refine W_seq ?_
  refine W_region ?_
  refine Wl_v (r_mv (v := .slice a1 m1 c1) rfl) ?_
  refine Wl_call (r_call1 rfl Try.call62 rfl) (backward_spec _ ) ?_
  rintro v w4 ⟨B4, rfl, hB4, hBg_4, hU4⟩
  have hzw4 := hU4.size
  replace hs := hs.upd0 hU4
  replace hc := hc.upd0 hU4
  replace HU := HU.trans0 hU4
  replace hp1 := hp1.upd0 hU4
  replace hO1 := hO1.upd0 hU4
  replace hb2 := hb2.upd0 hU4
  have hbl_hB4 := hB4.lt
  refine Wl_nil ?_
  refine W_block ?_
  refine W_range (gf := 69) (ar := fun y => #[y, .pointer (some ⟨B4, 0, none⟩)]) rfl Try.call69 (fun y => by simp) ?_
  intro D5 fn5 w5 hD5 hU5 hzz5 hdf5 hrc50
  have hzw5 := hU5.size
  replace hs := hs.upd0 hU5
  replace hc := hc.upd0 hU5
  replace HU := HU.trans0 hU5
  replace hp1 := hp1.upd0 hU5
  replace hO1 := hO1.upd0 hU5
  replace hb2 := hb2.upd0 hU5
  replace hB4 := hB4.upd0 hU5
  obtain ⟨r5, hr5, hrc5⟩ : ∃ r, r = _ ∧ Rec w5 (D5 + 1) r := ⟨_, rfl, hrc50⟩
  clear hrc50
  obtain ⟨J5, hJ5⟩ : ∃ J : Nat → World → Prop, ∀ i w', J i w' ↔ (Rec w' (D5 + 1) r5 ∧ Dfr w' D5 ∧ Blk w' B2 [.int .u32 (wval ((gbytes bs p 4).1.drop (m1 - i)))] ∧ Blk w' pb [.slice a n c, .int .i64 (((gbytes bs p 4).2.1 : Nat) : Int)] ∧ Upd (Is pb) w w') := ⟨_, fun _ _ => Iff.rfl⟩
  obtain ⟨Jx5, hJx5⟩ : ∃ Jx : World → Prop, ∀ w', Jx w' ↔ (False) := ⟨_, fun _ => Iff.rfl⟩
  refine (backward1_spec (l := (D5 + 1)) (J := J5) (Jx := Jx5) (Sb := (fun g => g = B2 ∨ g = D5 + 1)) (R := fun g => ((w.heap.size ≤ g) ∧ g < w1.heap.size)) w5 hB4 hO1.sl (by omega) (by show ¬ (_ ∨ _); omega) (by intro g h1 h2; have h3 : ((w.heap.size ≤ g) ∧ g < w1.heap.size) := h1; have h4 : g = B2 ∨ g = D5 + 1 := h2; omega) ?_ ?_).mono ?_
  · exact (hJ5 _ _).2 ⟨hrc5, hdf5, (by rw [List.drop_eq_nil_of_le (by omega)]; exact hb2), hp1, HU⟩
  · intro i6 w6 hi6 hh
    obtain ⟨hrc5, hdf5, hb2, hp1, HU⟩ := (hJ5 _ _).1 hh
    have hrl5 := hrc5.lt
    have hw_ := wval_back (gbytes_byt (p := p) (k := 4) hb) (m := m1) (j := i6) hm_1 (by omega) hi6
    have HB5 : Upd (fun g => g = B2 ∨ g = D5 + 1) w6 w6 := Upd.refl _ _
    refine yieldC_of_W (R := fun b c w' => (b = true ∧ Upd (fun g => g = B2 ∨ g = D5 + 1) w6 w' ∧ J5 (i6 + 1) w') ∨ (b = false ∧ Jx5 w')) hrc5 (by rw [hr5]; rfl) (by rw [hr5]; exact zip2 _ _ _ _ _ _) ?_ ?_
    · rw [hr5]
      refine W_region ?_
      refine Wl_v (r_as (v := .int .u8 ((gbytes bs p 4).1.getD (m1 - 1 - i6) 0)) rfl) ?_
      refine Wl_nil ?_
      refine ⟨rfl, _, hrc5, (by rw [hr5]), ?_⟩
      intro w7 hU7 hzz7 hrc5b
      have hzw7 := hU7.size
      replace hdf5 := hdf5.upd1 hU7 (by omega)
      replace hb2 := hb2.upd1 hU7 (by omega)
      replace hp1 := hp1.upd1 hU7 (by omega)
      replace HU := HU.trans1 hU7 (by show ((D5 + 1) = pb) ∨ w.heap.size ≤ (D5 + 1); omega)
      replace HB5 := HB5.trans1 hU7 (by show ((D5 + 1) = B2 ∨ (D5 + 1) = D5 + 1) ∨ w6.heap.size ≤ (D5 + 1); omega)
      clear hrc5
      have hrc5 := hrc5b
      clear hrc5b
      refine W_block ?_
      refine W_region ?_
      refine Wl_load (v := .int .u32 (wval ((gbytes bs p 4).1.drop (m1 - i6)))) Try.isAgg32 rfl hb2 rfl ?_
      refine Wl_v (r_shl rfl rfl (by decide) (shl8 (by omega) (by omega))) ?_
      refine Wl_v (r_mv (v := .int .u8 ((gbytes bs p 4).1.getD (m1 - 1 - i6) 0)) rfl) ?_
      refine Wl_v (r_cvt Try.underlying5 Try.underlying32 rfl (wu32 (by omega) (by omega))) ?_
      refine Wl_v (r_or rfl rfl (or8 (by omega) (by omega) (by omega) (by omega))) ?_
      refine Wl_store (v := .int .u32 (256 * (wval ((gbytes bs p 4).1.drop (m1 - i6))) + (gbytes bs p 4).1.getD (m1 - 1 - i6) 0)) (cs' := [.int .u32 (256 * (wval ((gbytes bs p 4).1.drop (m1 - i6))) + (gbytes bs p 4).1.getD (m1 - 1 - i6) 0)]) Try.sizeOf32 rfl rfl rfl rfl hb2 rfl rfl ?_
      intro w8 hU8 hzz8 hb2n
      replace hb2 := hb2n; clear hb2n
      have hzw8 := hU8.size
      replace hrc5 := hrc5.upd1 hU8 (by omega)
      replace hdf5 := hdf5.upd1 hU8 (by omega)
      replace hp1 := hp1.upd1 hU8 (by omega)
      replace HU := HU.trans1 hU8 (by show (B2 = pb) ∨ w.heap.size ≤ B2; omega)
      replace HB5 := HB5.trans1 hU8 (by show (B2 = B2 ∨ B2 = D5 + 1) ∨ w6.heap.size ≤ B2; omega)
      refine Wl_nil ?_
      refine ⟨rfl, _, hrc5, ?_⟩
      intro w9 hU9 hzz9 hrz
      have hzw9 := hU9.size
      replace hdf5 := hdf5.upd1 hU9 (by omega)
      replace hb2 := hb2.upd1 hU9 (by omega)
      replace hp1 := hp1.upd1 hU9 (by omega)
      replace HU := HU.trans1 hU9 (by show ((D5 + 1) = pb) ∨ w.heap.size ≤ (D5 + 1); omega)
      replace HB5 := HB5.trans1 hU9 (by show ((D5 + 1) = B2 ∨ (D5 + 1) = D5 + 1) ∨ w6.heap.size ≤ (D5 + 1); omega)
      exact Or.inl ⟨rfl, HB5, (hJ5 _ _).2 ⟨(by rw [hr5]; rw [hr5] at hrz; exact hrz), hdf5, (by rw [hw_.1]; exact hb2), hp1, HU⟩⟩
    · rintro b c w9 (⟨rfl, h1, h2⟩ | ⟨rfl, h1⟩)
      · exact Or.inl ⟨rfl, h1, h2⟩
      · exact Or.inr ⟨rfl, h1⟩
  rintro e w10 ⟨v, rfl, hh | hh⟩
  · obtain ⟨hrc5, hdf5, hb2, hp1, HU⟩ := (hJ5 _ _).1 hh
    have hrl5 := hrc5.lt
    refine ⟨r5, hrc5, (by rw [hr5]; simp), ?_⟩
    intro w11 hU11 hzz11
    have hzw11 := hU11.size
    replace hdf5 := hdf5.upd1 hU11 (by omega)
    replace hb2 := hb2.upd1 hU11 (by omega)
    replace hp1 := hp1.upd1 hU11 (by omega)
    replace HU := HU.trans1 hU11 (by show ((D5 + 1) = pb) ∨ w.heap.size ≤ (D5 + 1); omega)
    rw [hr5]
    skip
    refine W_seq ?_
    refine W_region ?_
    refine Wl_load (v := .int .u32 (wval ((gbytes bs p 4).1.drop (m1 - m1)))) Try.isAgg32 rfl hb2 rfl ?_
    refine Wl_v (r_mv (v := .int .i64 ((gbytes bs p 4).2.2)) rfl) ?_
    refine Wl_v (r_as (v := .int .u32 (wval ((gbytes bs p 4).1.drop (m1 - m1)))) rfl) ?_
    refine Wl_v (r_as (v := .int .i64 ((gbytes bs p 4).2.2)) rfl) ?_
    refine Wl_nil ?_
    refine W_ret ?_
    refine ret_ds rfl ?_
    refine lv_mark (by simp) hdf5 ?_
    intro w12 hU12 hzz12
    have hzw12 := hU12.size
    replace hb2 := hb2.upd1 hU12 (by omega)
    replace hp1 := hp1.upd1 hU12 (by omega)
    replace HU := HU.trans1 hU12 (by show (D5 = pb) ∨ w.heap.size ≤ D5; omega)
    refine lv_nil (v := .tuple #[.int .u32 (wval ((gbytes bs p 4).1.drop (m1 - m1))), .int .i64 ((gbytes bs p 4).2.2)]) (res2 Try.results61 rfl rfl) ?_
    rw [gword_of (by omega)]
    rw [Nat.sub_self, List.drop_zero]
    exact ⟨_, rfl, _, _, rfl, rfl, rfl, _, hp1, HU, rfl, rfl, rfl⟩
  · exact ((hJx5 _).1 hh).elim

set_option maxRecDepth 100000 in
theorem cword_spec {pb : Nat} {a : Option Addr} {n c p : Nat} {bs : List Int} (w : World) (hp : Blk w pb [.slice a n c, .int .i64 ((p : Nat) : Int)]) (hs : Sl w (fun g => g < w.heap.size ∧ g ≠ pb) 1 (.slice a n c) n (ints .u8 bs)) (hb : Byt bs) (hpn : p ≤ n) (hn : n ≤ 140737488355328) :
    Calls Try.prog 48 #[.pointer (some ⟨pb, 0, none⟩)] w (Ret fun v w' => v = .tuple #[.int .u32 (gword bs p).1, .int .i64 (gword bs p).2.2] ∧ Blk w' pb [.slice a n c, .int .i64 (((gword bs p).2.1 : Nat) : Int)] ∧ Upd (Is pb) w w') := by
  have HU : Upd (fun b => b = pb) w w := Upd.refl _ _
  have hl := ilen hs
  have hcap := hs.cap.1
  have hpl := hp.lt
  refine calls_of_W Try.func48 rfl Try.ntmps48 (by simp) ?_
  refine W_seq ?_
  refine W_region ?_
  refine Wl_box (v := .pointer (some ⟨pb, 0, none⟩)) (cs := [.pointer (some ⟨pb, 0, none⟩)]) rfl rfl ?_
  intro B1 w1 hB1 hU1 hzz1 hb1
  have hzw1 := hU1.size
  replace hp := hp.upd0 hU1
  replace hs := hs.upd0 hU1
  replace HU := HU.trans0 hU1
  refine Wl_v (r_as (v := .int .u32 0) rfl) ?_
  refine Wl_v (r_as (v := .int .i64 0) rfl) ?_
  refine Wl_nil ?_
  refine W_seq ?_
  refine W_region ?_
  refine Wl_load (v := .pointer (some ⟨pb, 0, none⟩)) Try.isAgg41 rfl hb1 rfl ?_
  refine Wl_v (r_mkf1 (v0 := .pointer (some ⟨B1, 0, none⟩)) rfl) ?_
  refine Wl_call (r_call2 rfl Try.call60 rfl rfl) (readU32_spec (Φ := fun x er at1 _ _ => x = .int .u32 (gword bs p).1 ∧ er = (gword bs p).2.2 ∧ at1 = (((gword bs p).2.1 : Nat) : Int)) _ hp Try.call61 (fun w1 hN => (cword_clo w1 (hb1.upd0 hN) (by omega) (hp.upd0 hN) ((hs.upd0 hN).cur (by intro h1; have h3 : (pb < w.heap.size ∧ pb ≠ pb) := h1; omega)) hb hpn hn))) ?_
  rintro v w2 ⟨x, er, at1, wa, wb, rfl, hpn2, hN, ⟨rfl, rfl, rfl⟩, _, hU2⟩
  have hzw2 := hU2.size
  replace hs := hs.upd1 hU2 (by intro h1; have h3 : (pb < w.heap.size ∧ pb ≠ pb) := h1; omega)
  replace HU := HU.trans1 hU2 (by show (pb = pb) ∨ w.heap.size ≤ pb; omega)
  replace hb1 := hb1.upd1 hU2 (by omega)
  refine Wl_v (r_ext (v := if (gword bs p).2.2 = 0 then .int .u32 (gword bs p).1 else .int .u32 0) rfl rfl) ?_
  refine Wl_v (r_ext (v := .int .i64 ((gword bs p).2.2)) rfl rfl) ?_
  refine Wl_v (r_as (v := if (gword bs p).2.2 = 0 then .int .u32 (gword bs p).1 else .int .u32 0) rfl) ?_
  refine Wl_v (r_as (v := .int .i64 ((gword bs p).2.2)) rfl) ?_
  refine Wl_nil ?_
  refine W_ret ?_
  refine ret_end (v := .tuple #[if (gword bs p).2.2 = 0 then .int .u32 (gword bs p).1 else .int .u32 0, .int .i64 ((gword bs p).2.2)]) rfl (res2 Try.results48 rfl rfl) ?_
  have he : (gword bs p).2.2 ≠ 0 → (gword bs p).1 = 0 ∧ (gword bs p).2.1 = p := gword_err
  refine ⟨_, rfl, ?_, ?_, HU⟩
  · by_cases h : (gword bs p).2.2 = 0
    · rw [if_pos h]
    · rw [if_neg h, (he h).1]
  · by_cases h : (gword bs p).2.2 = 0
    · simpa [h] using hpn2
    · rw [(he h).2]; simpa [h] using hpn2

theorem byte_in {pb : Nat} {a : Option Addr} {n c p : Nat} {bs : List Int} (w : World) (hp : Blk w pb [.slice a n c, .int .i64 ((p : Nat) : Int)]) (hs : Sl w (fun g => g < w.heap.size ∧ g ≠ pb) 1 (.slice a n c) n (ints .u8 bs)) (hb : Byt bs) (hpn : p ≤ n) (hn : n ≤ 140737488355328) (hlt : p < n) :
    Calls Try.prog 45 #[.pointer (some ⟨pb, 0, none⟩)] w (Ret fun v w' => v = .tuple #[.int .u8 (bs.getD p 0), .int .i64 0] ∧ Blk w' pb [.slice a n c, .int .i64 ((p + 1 : Nat) : Int)] ∧ Upd (Is pb) w w') := by
  have h := byte_spec w hp hs hb hpn hn
  rw [gbyte_in (by rw [ilen hs]; exact hlt)] at h
  exact h
theorem byte_end {pb : Nat} {a : Option Addr} {n c p : Nat} {bs : List Int} (w : World) (hp : Blk w pb [.slice a n c, .int .i64 ((p : Nat) : Int)]) (hs : Sl w (fun g => g < w.heap.size ∧ g ≠ pb) 1 (.slice a n c) n (ints .u8 bs)) (hb : Byt bs) (hpn : p ≤ n) (hn : n ≤ 140737488355328) (hlt : ¬ p < n) :
    Calls Try.prog 45 #[.pointer (some ⟨pb, 0, none⟩)] w (Ret fun v w' => v = .tuple #[.int .u8 0, .int .i64 3] ∧ Blk w' pb [.slice a n c, .int .i64 ((p : Nat) : Int)] ∧ Upd (Is pb) w w') := by
  have h := byte_spec w hp hs hb hpn hn
  rw [gbyte_end (by rw [ilen hs]; exact hlt)] at h
  exact h

set_option maxRecDepth 100000 in
theorem cvarint_clo {Bc : Nat} {pb : Nat} {a : Option Addr} {n c p : Nat} {bs : List Int} (w : World) (hc : Blk w Bc [.pointer (some ⟨pb, 0, none⟩)]) (hBc : Bc ≠ pb) (hp : Blk w pb [.slice a n c, .int .i64 ((p : Nat) : Int)]) (hs : Sl w (fun g => g < w.heap.size ∧ g ≠ pb) 1 (.slice a n c) n (ints .u8 bs)) (hb : Byt bs) (hpn : p ≤ n) (hn : n ≤ 140737488355328) :
    Calls Try.prog 64 #[.pointer (some ⟨Bc, 0, none⟩)] w (Ret fun v w' => ∃ x er, v = .tuple #[x, .int .i64 er] ∧ x.cells = #[x] ∧ x.oneCell' = true ∧ ∃ at1, Blk w' pb [.slice a n c, .int .i64 at1] ∧ Upd (Is pb) w w' ∧ er = (gvar bs p).2.2 ∧ ((gvar bs p).2.2 = 0 → x = .int .u64 (gvar bs p).1 ∧ at1 = (((gvar bs p).2.1 : Nat) : Int))) := by
  have HU : Upd (fun b => b = pb) w w := Upd.refl _ _
  have hl := ilen hs
  have hcap := hs.cap.1
  have hpl := hp.lt
  have hcl := hc.lt
  refine calls_of_W Try.func64 rfl Try.ntmps64 (by simp) ?_
  refine W_seq ?_
  refine W_region ?_
  refine Wl_v (r_as (v := .int .u64 0) rfl) ?_
  refine Wl_v (r_as (v := .int .i64 0) rfl) ?_
  refine Wl_nil ?_
  refine W_seq ?_
  refine W_region ?_
  refine Wl_v (r_as (v := .int .u64 0) rfl) ?_
  refine Wl_nil ?_
  refine W_seq ?_
  refine W_seq ?_
  refine W_region ?_
  refine Wl_v (r_mv (v := .int .i64 0) rfl) ?_
  refine Wl_nil ?_
  refine W_block ?_
  refine W_loop (fun mu ρ ds w' => ∃ (k : Nat), 9 - k = mu ∧ ds = [] ∧ Liv ρ [(0, .pointer (some ⟨Bc, 0, none⟩)), (3, .int .u64 (val ((bs.drop p).take k))), (7, .int .i64 ((k : Nat) : Int))] ∧ k ≤ 9 ∧ p + k ≤ n ∧ (∀ i, i < k → 128 ≤ bs.getD (p + i) 0) ∧ Blk w' pb [.slice a n c, .int .i64 ((p + k : Nat) : Int)] ∧ Upd (Is pb) w w') _ ⟨0, rfl, rfl, ⟨rfl, (Eq.trans (b := .int .u64 0) rfl (vint (by simp [val]))), (Eq.trans (b := .int .i64 0) rfl (vint (by omega))), trivial⟩, (by omega), (by omega), (fun i hi => absurd hi (by omega)), hp, Upd.refl _ _⟩ ?_
  rintro m1 ρ1 ds1 w1 ⟨k, rfl, rfl, hl1, hk9, hpk, hall, hp, hU1⟩
  obtain ⟨ρ1x, rfl⟩ : ∃ ρx, ρ1 = upds ρx [(0, .pointer (some ⟨Bc, 0, none⟩)), (3, .int .u64 (val ((bs.drop p).take k))), (7, .int .i64 ((k : Nat) : Int))] := ⟨_, upds_self hl1⟩
  clear hl1
  have hzw1 := hU1.size
  replace hs := hs.upd1 hU1 (by intro h1; have h3 : (pb < w.heap.size ∧ pb ≠ pb) := h1; omega)
  replace hc := hc.upd1 hU1 (by omega)
  replace HU := HU.trans1 hU1 (by show (pb = pb) ∨ w.heap.size ≤ pb; omega)
  have HL1 := hU1
  refine W_seq ?_
  refine W_region ?_
  refine Wl_v (r_lt rfl rfl) ?_
  refine Wl_nil ?_
  refine W_seq ?_
  by_cases q1 : ((k : Nat) : Int) < 9
  · have hvt := val_take (bs := bs) (p := p) (k := k) (by omega)
    rw [decide_eq_true q1]
    refine W_cond_t rfl ?_
    refine W_skip ?_
    refine W_seq ?_
    refine W_block ?_
    refine W_seq ?_
    refine W_region ?_
    refine Wl_v (r_mv (v := .int .i64 ((k : Nat) : Int)) rfl) ?_
    refine Wl_v (r_as (v := .int .i64 ((k : Nat) : Int)) rfl) ?_
    refine Wl_nil ?_
    refine W_seq ?_
    refine W_region ?_
    refine Wl_load (v := .pointer (some ⟨pb, 0, none⟩)) Try.isAgg41 rfl hc rfl ?_
    by_cases q2 : p + k < n
    · have hgb := byt_gd hb (p + k)
      refine Wl_call (r_call1 rfl Try.call45 rfl) (byte_in _ hp (hs.cur (by intro h1; have h3 : (pb < w.heap.size ∧ pb ≠ pb) := h1; first | omega | simp at h3)) hb (by omega) (by omega) (by omega)) ?_
      rintro v w2 ⟨rfl, hp2, hU2⟩
      have hzw2 := hU2.size
      replace hs := hs.upd1 hU2 (by intro h1; have h3 : (pb < w.heap.size ∧ pb ≠ pb) := h1; omega)
      replace hc := hc.upd1 hU2 (by omega)
      replace HU := HU.trans1 hU2 (by show (pb = pb) ∨ w.heap.size ≤ pb; omega)
      replace HL1 := HL1.trans1 hU2 (by show (pb = pb) ∨ w.heap.size ≤ pb; omega)
      have hbl_hp2 := hp2.lt
      refine Wl_v (r_mv (v := .tuple #[.int .u8 (bs.getD (p + k) 0), .int .i64 0]) rfl) ?_
      refine Wl_v (r_ext (v := .int .u8 (bs.getD (p + k) 0)) rfl rfl) ?_
      refine Wl_v (r_ext (v := .int .i64 0) rfl rfl) ?_
      refine Wl_v (r_as (v := .int .u8 (bs.getD (p + k) 0)) rfl) ?_
      refine Wl_v (r_as (v := .int .i64 0) rfl) ?_
      refine Wl_nil ?_
      refine W_seq ?_
      refine W_seq ?_
      refine W_region ?_
      refine Wl_v (r_mv (v := .int .i64 0) rfl) ?_
      refine Wl_v (v := .bool false) (r_ne (a := 0) (b := 0) rfl rfl) ?_
      refine Wl_nil ?_
      refine W_cond_f rfl ?_
      refine W_skip ?_
      refine W_seq ?_
      refine W_region ?_
      refine Wl_v (r_mv (v := .int .u64 (val ((bs.drop p).take k))) rfl) ?_
      refine Wl_v (r_mv (v := .int .u8 (bs.getD (p + k) 0)) rfl) ?_
      refine Wl_v (r_and rfl rfl and127) ?_
      refine Wl_v (r_cvt Try.underlying5 Try.underlying68 rfl (wu64 (by omega) (by omega))) ?_
      refine Wl_v (r_mv (v := .int .i64 ((k : Nat) : Int)) rfl) ?_
      refine Wl_v (r_mul rfl rfl (wi64 (by omega) (by omega))) ?_
      refine Wl_v (r_shl rfl rfl (by omega) (shl7 (by omega) (by omega) (by omega))) ?_
      refine Wl_v (r_or rfl rfl (or7 (by omega) hvt.2 (by omega) (by omega) (by omega))) ?_
      have hvm := val_more (bs := bs) (p := p) (k := k) (by omega)
      rw [show (val ((bs.drop p).take k) + bs.getD (p + k) 0 % 128 * 128 ^ k : Int) = val ((bs.drop p).take (k + 1)) from hvm.symm]
      refine Wl_v (r_as (v := .int .u64 (val ((bs.drop p).take (k + 1)))) rfl) ?_
      refine Wl_nil ?_
      refine W_seq ?_
      refine W_block ?_
      refine W_seq ?_
      refine W_region ?_
      refine Wl_v (r_mv (v := .int .u8 (bs.getD (p + k) 0)) rfl) ?_
      refine Wl_v (r_ge rfl rfl) ?_
      refine Wl_v (r_as (v := .bool (decide (128 ≤ (bs.getD (p + k) 0)))) rfl) ?_
      refine Wl_nil ?_
      by_cases q3 : 128 ≤ (bs.getD (p + k) 0)
      · rw [decide_eq_true q3]
        refine W_cond_t rfl ?_
        refine W_exit ?_
        refine W_region ?_
        refine Wl_v (r_add rfl rfl (wi64 (by omega) (by omega))) ?_
        refine Wl_v (r_mv (v := .int .i64 (((k : Nat) : Int) + 1)) rfl) ?_
        refine Wl_nil ?_
        refine ⟨_, ?_, (k + 1), rfl, rfl, ⟨rfl, (by first | rfl | exact vint (by omega) | exact vint (by simp)), (Eq.trans (b := .int .i64 (((k : Nat) : Int) + 1)) rfl (vint (by omega))), trivial⟩, (by omega), (by omega), (fun i hi => by rcases Nat.lt_or_ge i k with h | h; exact hall i h; rw [show i = k from by omega]; exact q3), hp2, HL1⟩
        omega
      · rw [decide_eq_false q3]
        refine W_cond_f rfl ?_
        refine W_seq ?_
        refine W_region ?_
        refine Wl_v (r_mv (v := .int .u8 (bs.getD (p + k) 0)) rfl) ?_
        refine Wl_v (r_eq rfl rfl) ?_
        refine Wl_v (r_mv (v := .bool (decide ((bs.getD (p + k) 0) = 0))) rfl) ?_
        by_cases q4 : (bs.getD (p + k) 0) = 0
        · rw [decide_eq_true q4]
          refine Wl_guard_t rfl ?_
          refine Wl_v (r_mv (v := .int .i64 ((k : Nat) : Int)) rfl) ?_
          refine Wl_guard_t rfl ?_
          refine Wl_v (r_gt rfl rfl) ?_
          refine Wl_v (r_pick_t (v := .bool (decide (0 < ((k : Nat) : Int)))) rfl rfl) ?_
          refine Wl_v (r_as (v := .bool (decide (0 < ((k : Nat) : Int)))) rfl) ?_
          refine Wl_nil ?_
          by_cases q5 : 0 < ((k : Nat) : Int)
          · rw [decide_eq_true q5]
            refine W_cond_t rfl ?_
            refine W_seq ?_
            refine W_region ?_
            refine Wl_v (r_as (v := .int .u64 0) rfl) ?_
            refine Wl_v (r_as (v := .int .i64 5) rfl) ?_
            refine Wl_nil ?_
            refine W_ret ?_
            refine ret_end (v := .tuple #[.int .u64 0, .int .i64 5]) rfl (res2 Try.results64 rfl rfl) ?_
            rw [show gvar bs p = (0, p, 5) from gvar_min (k := k) (by omega) (by omega) hall (by omega) (by omega)]
            exact ⟨_, rfl, _, _, rfl, rfl, rfl, _, hp2, HU, rfl, fun h => absurd h (by simp)⟩
          · rw [decide_eq_false q5]
            refine W_cond_f rfl ?_
            refine W_seq ?_
            refine W_region ?_
            refine Wl_v (r_mv (v := .int .u64 (val ((bs.drop p).take (k + 1)))) rfl) ?_
            refine Wl_v (r_gt rfl rfl) ?_
            refine Wl_v (r_as (v := .bool (decide (4611686018427387903 < (val ((bs.drop p).take (k + 1)))))) rfl) ?_
            refine Wl_nil ?_
            by_cases q6 : 4611686018427387903 < (val ((bs.drop p).take (k + 1)))
            · rw [decide_eq_true q6]
              refine W_cond_t rfl ?_
              refine W_seq ?_
              refine W_region ?_
              refine Wl_v (r_as (v := .int .u64 0) rfl) ?_
              refine Wl_v (r_as (v := .int .i64 18) rfl) ?_
              refine Wl_nil ?_
              refine W_ret ?_
              refine ret_end (v := .tuple #[.int .u64 0, .int .i64 18]) rfl (res2 Try.results64 rfl rfl) ?_
              rw [show gvar bs p = (0, p, 18) from by rw [gvar_else (k := k) (by omega) (by omega) hall (by omega) (by omega), if_pos (by omega)]]
              exact ⟨_, rfl, _, _, rfl, rfl, rfl, _, hp2, HU, rfl, fun h => absurd h (by simp)⟩
            · rw [decide_eq_false q6]
              refine W_cond_f rfl ?_
              refine W_skip ?_
              refine W_seq ?_
              refine W_region ?_
              refine Wl_v (r_mv (v := .int .u64 (val ((bs.drop p).take (k + 1)))) rfl) ?_
              refine Wl_v (r_as (v := .int .u64 (val ((bs.drop p).take (k + 1)))) rfl) ?_
              refine Wl_v (r_as (v := .int .i64 0) rfl) ?_
              refine Wl_nil ?_
              refine W_ret ?_
              refine ret_end (v := .tuple #[.int .u64 (val ((bs.drop p).take (k + 1))), .int .i64 0]) rfl (res2 Try.results64 rfl rfl) ?_
              rw [show gvar bs p = (val ((bs.drop p).take (k + 1)), p + k + 1, 0) from by rw [gvar_else (k := k) (by omega) (by omega) hall (by omega) (by omega), if_neg (by omega)]]
              exact ⟨_, rfl, _, _, rfl, rfl, rfl, _, hp2, HU, rfl, fun _ => ⟨rfl, rfl⟩⟩
        · rw [decide_eq_false q4]
          refine Wl_guard_f rfl ?_
          refine Wl_guard_f rfl ?_
          refine Wl_v (r_pick_f (v := .bool false) rfl rfl) ?_
          refine Wl_v (r_as (v := .bool false) rfl) ?_
          refine Wl_nil ?_
          refine W_cond_f rfl ?_
          refine W_seq ?_
          refine W_region ?_
          refine Wl_v (r_mv (v := .int .u64 (val ((bs.drop p).take (k + 1)))) rfl) ?_
          refine Wl_v (r_gt rfl rfl) ?_
          refine Wl_v (r_as (v := .bool (decide (4611686018427387903 < (val ((bs.drop p).take (k + 1)))))) rfl) ?_
          refine Wl_nil ?_
          by_cases q7 : 4611686018427387903 < (val ((bs.drop p).take (k + 1)))
          · rw [decide_eq_true q7]
            refine W_cond_t rfl ?_
            refine W_seq ?_
            refine W_region ?_
            refine Wl_v (r_as (v := .int .u64 0) rfl) ?_
            refine Wl_v (r_as (v := .int .i64 18) rfl) ?_
            refine Wl_nil ?_
            refine W_ret ?_
            refine ret_end (v := .tuple #[.int .u64 0, .int .i64 18]) rfl (res2 Try.results64 rfl rfl) ?_
            rw [show gvar bs p = (0, p, 18) from by rw [gvar_else (k := k) (by omega) (by omega) hall (by omega) (by omega), if_pos (by omega)]]
            exact ⟨_, rfl, _, _, rfl, rfl, rfl, _, hp2, HU, rfl, fun h => absurd h (by simp)⟩
          · rw [decide_eq_false q7]
            refine W_cond_f rfl ?_
            refine W_skip ?_
            refine W_seq ?_
            refine W_region ?_
            refine Wl_v (r_mv (v := .int .u64 (val ((bs.drop p).take (k + 1)))) rfl) ?_
            refine Wl_v (r_as (v := .int .u64 (val ((bs.drop p).take (k + 1)))) rfl) ?_
            refine Wl_v (r_as (v := .int .i64 0) rfl) ?_
            refine Wl_nil ?_
            refine W_ret ?_
            refine ret_end (v := .tuple #[.int .u64 (val ((bs.drop p).take (k + 1))), .int .i64 0]) rfl (res2 Try.results64 rfl rfl) ?_
            rw [show gvar bs p = (val ((bs.drop p).take (k + 1)), p + k + 1, 0) from by rw [gvar_else (k := k) (by omega) (by omega) hall (by omega) (by omega), if_neg (by omega)]]
            exact ⟨_, rfl, _, _, rfl, rfl, rfl, _, hp2, HU, rfl, fun _ => ⟨rfl, rfl⟩⟩
    · have hgb := byt_gd hb (p + k)
      refine Wl_call (r_call1 rfl Try.call45 rfl) (byte_end _ hp (hs.cur (by intro h1; have h3 : (pb < w.heap.size ∧ pb ≠ pb) := h1; first | omega | simp at h3)) hb (by omega) (by omega) (by omega)) ?_
      rintro v w3 ⟨rfl, hp3, hU3⟩
      have hzw3 := hU3.size
      replace hs := hs.upd1 hU3 (by intro h1; have h3 : (pb < w.heap.size ∧ pb ≠ pb) := h1; omega)
      replace hc := hc.upd1 hU3 (by omega)
      replace HU := HU.trans1 hU3 (by show (pb = pb) ∨ w.heap.size ≤ pb; omega)
      replace HL1 := HL1.trans1 hU3 (by show (pb = pb) ∨ w.heap.size ≤ pb; omega)
      have hbl_hp3 := hp3.lt
      refine Wl_v (r_mv (v := .tuple #[.int .u8 0, .int .i64 3]) rfl) ?_
      refine Wl_v (r_ext (v := .int .u8 0) rfl rfl) ?_
      refine Wl_v (r_ext (v := .int .i64 3) rfl rfl) ?_
      refine Wl_v (r_as (v := .int .u8 0) rfl) ?_
      refine Wl_v (r_as (v := .int .i64 3) rfl) ?_
      refine Wl_nil ?_
      refine W_seq ?_
      refine W_seq ?_
      refine W_region ?_
      refine Wl_v (r_mv (v := .int .i64 3) rfl) ?_
      refine Wl_v (v := .bool true) (r_ne (a := 3) (b := 0) rfl rfl) ?_
      refine Wl_nil ?_
      refine W_cond_t rfl ?_
      refine W_seq ?_
      refine W_region ?_
      refine Wl_v (r_mv (v := .int .i64 3) rfl) ?_
      refine Wl_v (r_as (v := .int .u64 0) rfl) ?_
      refine Wl_v (r_as (v := .int .i64 3) rfl) ?_
      refine Wl_nil ?_
      refine W_ret ?_
      refine ret_end (v := .tuple #[.int .u64 0, .int .i64 3]) rfl (res2 Try.results64 rfl rfl) ?_
      rw [show gvar bs p = (0, p, 3) from gvar_short (k := k) (by omega) (by omega) hall]
      exact ⟨_, rfl, _, _, rfl, rfl, rfl, _, hp3, HU, rfl, fun h => absurd h (by simp)⟩
  · rw [decide_eq_false q1]
    refine W_cond_f rfl ?_
    refine W_exit ?_
    refine W_seq ?_
    refine W_region ?_
    refine Wl_v (r_as (v := .int .u64 0) rfl) ?_
    refine Wl_v (r_as (v := .int .i64 18) rfl) ?_
    refine Wl_nil ?_
    refine W_ret ?_
    refine ret_end (v := .tuple #[.int .u64 0, .int .i64 18]) rfl (res2 Try.results64 rfl rfl) ?_
    rw [show gvar bs p = (0, p, 18) from gvar_long (k := k) (by omega) (by omega) hall (by omega)]
    exact ⟨_, rfl, _, _, rfl, rfl, rfl, _, hp, HU, rfl, fun h => absurd h (by simp)⟩

set_option maxRecDepth 100000 in
theorem cvarint_spec {pb : Nat} {a : Option Addr} {n c p : Nat} {bs : List Int} (w : World) (hp : Blk w pb [.slice a n c, .int .i64 ((p : Nat) : Int)]) (hs : Sl w (fun g => g < w.heap.size ∧ g ≠ pb) 1 (.slice a n c) n (ints .u8 bs)) (hb : Byt bs) (hpn : p ≤ n) (hn : n ≤ 140737488355328) :
    Calls Try.prog 50 #[.pointer (some ⟨pb, 0, none⟩)] w (Ret fun v w' => v = .tuple #[.int .u64 (gvar bs p).1, .int .i64 (gvar bs p).2.2] ∧ Blk w' pb [.slice a n c, .int .i64 (((gvar bs p).2.1 : Nat) : Int)] ∧ Upd (Is pb) w w') := by
  have HU : Upd (fun b => b = pb) w w := Upd.refl _ _
  have hl := ilen hs
  have hcap := hs.cap.1
  have hpl := hp.lt
  refine calls_of_W Try.func50 rfl Try.ntmps50 (by simp) ?_
  refine W_seq ?_
  refine W_region ?_
  refine Wl_box (v := .pointer (some ⟨pb, 0, none⟩)) (cs := [.pointer (some ⟨pb, 0, none⟩)]) rfl rfl ?_
  intro B1 w1 hB1 hU1 hzz1 hb1
  have hzw1 := hU1.size
  replace hp := hp.upd0 hU1
  replace hs := hs.upd0 hU1
  replace HU := HU.trans0 hU1
  refine Wl_v (r_as (v := .int .u64 0) rfl) ?_
  refine Wl_v (r_as (v := .int .i64 0) rfl) ?_
  refine Wl_nil ?_
  refine W_seq ?_
  refine W_region ?_
  refine Wl_load (v := .pointer (some ⟨pb, 0, none⟩)) Try.isAgg41 rfl hb1 rfl ?_
  refine Wl_v (r_mkf1 (v0 := .pointer (some ⟨B1, 0, none⟩)) rfl) ?_
  refine Wl_call (r_call2 rfl Try.call63 rfl rfl) (readU64_spec (Φ := fun x er at1 _ _ => er = (gvar bs p).2.2 ∧ ((gvar bs p).2.2 = 0 → x = .int .u64 (gvar bs p).1 ∧ at1 = (((gvar bs p).2.1 : Nat) : Int))) _ hp Try.call64 (fun w1 hN => cvarint_clo w1 (hb1.upd0 hN) (by omega) (hp.upd0 hN) ((hs.upd0 hN).cur (by intro h1; have h3 : (pb < w.heap.size ∧ pb ≠ pb) := h1; omega)) hb hpn hn)) ?_
  rintro v w2 ⟨x, er, at1, wa, wb, rfl, hpn2, hN, ⟨rfl, hat⟩, _, hU2⟩
  have hzw2 := hU2.size
  replace hs := hs.upd1 hU2 (by intro h1; have h3 : (pb < w.heap.size ∧ pb ≠ pb) := h1; omega)
  replace HU := HU.trans1 hU2 (by show (pb = pb) ∨ w.heap.size ≤ pb; omega)
  replace hb1 := hb1.upd1 hU2 (by omega)
  refine Wl_v (r_ext (v := if (gvar bs p).2.2 = 0 then x else .int .u64 0) rfl rfl) ?_
  refine Wl_v (r_ext (v := .int .i64 ((gvar bs p).2.2)) rfl rfl) ?_
  refine Wl_v (r_as (v := if (gvar bs p).2.2 = 0 then x else .int .u64 0) rfl) ?_
  refine Wl_v (r_as (v := .int .i64 ((gvar bs p).2.2)) rfl) ?_
  refine Wl_nil ?_
  refine W_ret ?_
  refine ret_end (v := .tuple #[if (gvar bs p).2.2 = 0 then x else .int .u64 0, .int .i64 ((gvar bs p).2.2)]) rfl (res2 Try.results50 rfl rfl) ?_
  have he : (gvar bs p).2.2 ≠ 0 → (gvar bs p).1 = 0 ∧ (gvar bs p).2.1 = p := fun h => (gvar_props bs p (by omega)).2.2.2.2.2.2 h
  refine ⟨_, rfl, ?_, ?_, HU⟩
  · by_cases h : (gvar bs p).2.2 = 0
    · rw [if_pos h, (hat h).1]
    · rw [if_neg h, (he h).1]
  · by_cases h : (gvar bs p).2.2 = 0
    · rw [if_pos h, (hat h).2] at hpn2; exact hpn2
    · rw [if_neg h] at hpn2; rw [(he h).2]; exact hpn2

end Go.Proofs.Ytflmjdnhjbiobaa
