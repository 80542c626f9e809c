/-
  Walks, printed by a small program of this project (gen.py).
-/
import Derived.Test.YtigojafhogjnfaaWi
import Derived.Test.YtigojafhogjnfaaPg
import Derived.Test.YtigojafhogjnfaaLw
set_option linter.unusedVariables false
set_option linter.unusedSimpArgs false
namespace Go.Proofs.Ytigojafhogjnfaa
open Go.Fw

theorem cword_at {pb : Nat} {a : Option Addr} {n c p : Nat} {bs : List Int} {x er : Int} {q : Nat} (w : World) (hp : Blk w pb [.slice a n c, .int .i64 ((p : Nat) : Int)]) (hs : Sl w (fun g => g < w.heap.size ∧ g ≠ pb) 1 (.slice a n c) n (ints .u8 bs)) (hb : Byt bs) (hpn : p ≤ n) (hn : n ≤ 140737488355328) (hg : gword bs p = (x, q, er)) :
    Calls Try.prog 28 #[.pointer (some ⟨pb, 0, none⟩)] w (Ret fun v w' => v = .tuple #[.int .u32 x, .int .i64 er] ∧ Blk w' pb [.slice a n c, .int .i64 ((q : Nat) : Int)] ∧ Upd (Is pb) w w') := by
  have h := cword_spec w hp hs hb hpn hn
  rw [hg] at h
  exact h

theorem cvarint_at {pb : Nat} {a : Option Addr} {n c p : Nat} {bs : List Int} {x er : Int} {q : Nat} (w : World) (hp : Blk w pb [.slice a n c, .int .i64 ((p : Nat) : Int)]) (hs : Sl w (fun g => g < w.heap.size ∧ g ≠ pb) 1 (.slice a n c) n (ints .u8 bs)) (hb : Byt bs) (hpn : p ≤ n) (hn : n ≤ 140737488355328) (hg : gvar bs p = (x, q, er)) :
    Calls Try.prog 22 #[.pointer (some ⟨pb, 0, none⟩)] w (Ret fun v w' => v = .tuple #[.int .u64 x, .int .i64 er] ∧ Blk w' pb [.slice a n c, .int .i64 ((q : Nat) : Int)] ∧ Upd (Is pb) w w') := by
  have h := cvarint_spec w hp hs hb hpn hn
  rw [hg] at h
  exact h

theorem cbytes_ok {pb : Nat} {a : Option Addr} {n c p : Nat} {bs : List Int} {k : Int} (w : World) (hp : Blk w pb [.slice a n c, .int .i64 ((p : Nat) : Int)]) (hs : Sl w (fun g => g < w.heap.size ∧ g ≠ pb) 1 (.slice a n c) n (ints .u8 bs)) (hb : Byt bs) (hpn : p ≤ n) (hn : n ≤ 140737488355328) (hk : 0 ≤ k) (hkn : k ≤ n - p) :
    Calls Try.prog 26 #[.pointer (some ⟨pb, 0, none⟩), .int .i64 k] w (Ret fun v w' => ∃ a' c', v = .tuple #[.slice a' k.toNat c', .int .i64 0] ∧ Blk w' pb [.slice a n c, .int .i64 ((p + k.toNat : Nat) : Int)] ∧ Own w' (Ge w.heap.size) 5 1 (.slice a' k.toNat c') k.toNat (ints .u8 ((bs.drop p).take k.toNat)) ∧ Upd (Is pb) w w') := by
  have h := bytes_spec (k := k) w hp hs hb hpn hn
  have hl := ilen hs
  rw [gbytes_ok (by omega) (by omega)] at h
  refine h.mono fun e w' ⟨v, he, a', m', c', hv, h1, h2, h3, h4⟩ => ?_
  obtain rfl : k.toNat = m' := by rw [← h3, List.length_take, List.length_drop]; omega
  exact ⟨v, he, a', c', hv, h1, h2, h4⟩

theorem bytes_at {pb : Nat} {a : Option Addr} {n c p : Nat} {bs : List Int} {k : Int} {ks : List Int} {q : Nat} {er : Int} (w : World) (hp : Blk w pb [.slice a n c, .int .i64 ((p : Nat) : Int)]) (hs : Sl w (fun g => g < w.heap.size ∧ g ≠ pb) 1 (.slice a n c) n (ints .u8 bs)) (hb : Byt bs) (hpn : p ≤ n) (hn : n ≤ 140737488355328) (hg : gbytes bs p k = (ks, q, er)) :
    Calls Try.prog 26 #[.pointer (some ⟨pb, 0, none⟩), .int .i64 k] w (Ret fun v w' => ∃ a' c', v = .tuple #[.slice a' ks.length c', .int .i64 er] ∧ Blk w' pb [.slice a n c, .int .i64 ((q : Nat) : Int)] ∧ Own w' (Ge w.heap.size) 5 1 (.slice a' ks.length c') ks.length (ints .u8 ks) ∧ Upd (Is pb) w w') := by
  have h := bytes_spec (k := k) w hp hs hb hpn hn
  rw [hg] at h
  refine h.mono fun e w' ⟨v, he, a', m', c', hv, h1, h2, h3, h4⟩ => ?_
  subst h3
  exact ⟨v, he, a', c', hv, h1, h2, h4⟩

theorem cend_in {pb : Nat} {a : Option Addr} {n c p : Nat} {bs : List Int} (w : World) (hp : Blk w pb [.slice a n c, .int .i64 ((p : Nat) : Int)]) (hs : Sl w (fun g => g < w.heap.size ∧ g ≠ pb) 1 (.slice a n c) n (ints .u8 bs)) (hb : Byt bs) (hpn : p ≤ n) (hn : n ≤ 140737488355328) (h : p < n) : Calls Try.prog 30 #[.pointer (some ⟨pb, 0, none⟩)] w (Ret fun v w' => v = .int .i64 4 ∧ Upd No w w') := by
  have h1 := end_spec w hp hs hb hpn hn
  rw [if_pos h] at h1
  exact h1
theorem cend_out {pb : Nat} {a : Option Addr} {n c p : Nat} {bs : List Int} (w : World) (hp : Blk w pb [.slice a n c, .int .i64 ((p : Nat) : Int)]) (hs : Sl w (fun g => g < w.heap.size ∧ g ≠ pb) 1 (.slice a n c) n (ints .u8 bs)) (hb : Byt bs) (hpn : p ≤ n) (hn : n ≤ 140737488355328) (h : ¬ p < n) : Calls Try.prog 30 #[.pointer (some ⟨pb, 0, none⟩)] w (Ret fun v w' => v = .int .i64 0 ∧ Upd No w w') := by
  have h1 := end_spec w hp hs hb hpn hn
  rw [if_neg h] at h1
  exact h1

theorem cbyte_nil  (w : World)  :
    Calls Try.prog 40 #[.pointer none] w (Ret fun v w' => v = .tuple #[.int .u8 0, .int .i64 1] ∧ Upd No w w') := by
  have HU : Upd (fun b => False) w w := Upd.refl _ _
  refine calls_of_W Try.func40 rfl Try.ntmps40 (by simp) ?_
  refine W_seq ?_
  refine W_region ?_
  refine Wl_box (v := .pointer none) (cs := [.pointer none]) rfl rfl ?_
  intro B1 w1 hB1 hU1 hzz1 hb1
  have hzw1 := hU1.size
  replace HU := HU.trans0 hU1
  refine Wl_v (r_as (v := .int .u8 0) rfl) ?_
  refine Wl_v (r_as (v := .int .i64 0) rfl) ?_
  refine Wl_nil ?_
  refine W_seq ?_
  refine W_region ?_
  refine Wl_load (v := .pointer none) Try.isAgg38 rfl hb1 rfl ?_
  refine Wl_v (r_mkf1 (v0 := .pointer (some ⟨B1, 0, none⟩)) rfl) ?_
  refine Wl_call (r_call2 rfl Try.call55 rfl rfl) (readBy_nil _ ) ?_
  rintro v w2 ⟨rfl, hU2⟩
  have hzw2 := hU2.size
  replace HU := HU.trans0 hU2
  replace hb1 := hb1.upd0 hU2
  refine Wl_v (r_ext (v := .int .u8 0) rfl rfl) ?_
  refine Wl_v (r_ext (v := .int .i64 1) rfl rfl) ?_
  refine Wl_v (r_as (v := .int .u8 0) rfl) ?_
  refine Wl_v (r_as (v := .int .i64 1) rfl) ?_
  refine Wl_nil ?_
  refine W_ret ?_
  refine ret_end (v := .tuple #[.int .u8 0, .int .i64 1]) rfl (res2 Try.results40 rfl rfl) ?_
  exact ⟨_, rfl, rfl, HU⟩

theorem cword_nil  (w : World)  :
    Calls Try.prog 28 #[.pointer none] w (Ret fun v w' => v = .tuple #[.int .u32 0, .int .i64 1] ∧ Upd No w w') := by
  have HU : Upd (fun b => False) w w := Upd.refl _ _
  refine calls_of_W Try.func28 rfl Try.ntmps28 (by simp) ?_
  refine W_seq ?_
  refine W_region ?_
  refine Wl_box (v := .pointer none) (cs := [.pointer none]) rfl rfl ?_
  intro B1 w1 hB1 hU1 hzz1 hb1
  have hzw1 := hU1.size
  replace HU := HU.trans0 hU1
  refine Wl_v (r_as (v := .int .u32 0) rfl) ?_
  refine Wl_v (r_as (v := .int .i64 0) rfl) ?_
  refine Wl_nil ?_
  refine W_seq ?_
  refine W_region ?_
  refine Wl_load (v := .pointer none) Try.isAgg38 rfl hb1 rfl ?_
  refine Wl_v (r_mkf1 (v0 := .pointer (some ⟨B1, 0, none⟩)) rfl) ?_
  refine Wl_call (r_call2 rfl Try.call43 rfl rfl) (readU32_nil _ ) ?_
  rintro v w2 ⟨rfl, hU2⟩
  have hzw2 := hU2.size
  replace HU := HU.trans0 hU2
  replace hb1 := hb1.upd0 hU2
  refine Wl_v (r_ext (v := .int .u32 0) rfl rfl) ?_
  refine Wl_v (r_ext (v := .int .i64 1) rfl rfl) ?_
  refine Wl_v (r_as (v := .int .u32 0) rfl) ?_
  refine Wl_v (r_as (v := .int .i64 1) rfl) ?_
  refine Wl_nil ?_
  refine W_ret ?_
  refine ret_end (v := .tuple #[.int .u32 0, .int .i64 1]) rfl (res2 Try.results28 rfl rfl) ?_
  exact ⟨_, rfl, rfl, HU⟩

theorem cvarint_nil  (w : World)  :
    Calls Try.prog 22 #[.pointer none] w (Ret fun v w' => v = .tuple #[.int .u64 0, .int .i64 1] ∧ Upd No w w') := by
  have HU : Upd (fun b => False) w w := Upd.refl _ _
  refine calls_of_W Try.func22 rfl Try.ntmps22 (by simp) ?_
  refine W_seq ?_
  refine W_region ?_
  refine Wl_box (v := .pointer none) (cs := [.pointer none]) rfl rfl ?_
  intro B1 w1 hB1 hU1 hzz1 hb1
  have hzw1 := hU1.size
  replace HU := HU.trans0 hU1
  refine Wl_v (r_as (v := .int .u64 0) rfl) ?_
  refine Wl_v (r_as (v := .int .i64 0) rfl) ?_
  refine Wl_nil ?_
  refine W_seq ?_
  refine W_region ?_
  refine Wl_load (v := .pointer none) Try.isAgg38 rfl hb1 rfl ?_
  refine Wl_v (r_mkf1 (v0 := .pointer (some ⟨B1, 0, none⟩)) rfl) ?_
  refine Wl_call (r_call2 rfl Try.call38 rfl rfl) (readU64_nil _ ) ?_
  rintro v w2 ⟨rfl, hU2⟩
  have hzw2 := hU2.size
  replace HU := HU.trans0 hU2
  replace hb1 := hb1.upd0 hU2
  refine Wl_v (r_ext (v := .int .u64 0) rfl rfl) ?_
  refine Wl_v (r_ext (v := .int .i64 1) rfl rfl) ?_
  refine Wl_v (r_as (v := .int .u64 0) rfl) ?_
  refine Wl_v (r_as (v := .int .i64 1) rfl) ?_
  refine Wl_nil ?_
  refine W_ret ?_
  refine ret_end (v := .tuple #[.int .u64 0, .int .i64 1]) rfl (res2 Try.results22 rfl rfl) ?_
  exact ⟨_, rfl, rfl, HU⟩

theorem cnumber_nil {k : Int} (w : World)  :
    Calls Try.prog 37 #[.pointer none, .int .i64 k] w (Ret fun v w' => v = .tuple #[.int .i64 0, .int .i64 1] ∧ Upd No w w') := by
  have HU : Upd (fun b => False) w w := Upd.refl _ _
  refine calls_of_W Try.func37 rfl Try.ntmps37 (by simp) ?_
  refine W_seq ?_
  refine W_region ?_
  refine Wl_box (v := .pointer none) (cs := [.pointer none]) rfl rfl ?_
  intro B1 w1 hB1 hU1 hzz1 hb1
  have hzw1 := hU1.size
  replace HU := HU.trans0 hU1
  refine Wl_box (v := .int .i64 k) (cs := [.int .i64 k]) rfl rfl ?_
  intro B2 w2 hB2 hU2 hzz2 hb2
  have hzw2 := hU2.size
  replace HU := HU.trans0 hU2
  replace hb1 := hb1.upd0 hU2
  refine Wl_v (r_as (v := .int .i64 0) rfl) ?_
  refine Wl_v (r_as (v := .int .i64 0) rfl) ?_
  refine Wl_nil ?_
  refine W_seq ?_
  refine W_region ?_
  refine Wl_load (v := .pointer none) Try.isAgg38 rfl hb1 rfl ?_
  refine Wl_v (r_mkf2 (v0 := .pointer (some ⟨B1, 0, none⟩)) (v1 := .pointer (some ⟨B2, 0, none⟩)) rfl rfl) ?_
  refine Wl_call (r_call2 rfl Try.call52 rfl rfl) (readIn_nil _ ) ?_
  rintro v w3 ⟨rfl, hU3⟩
  have hzw3 := hU3.size
  replace HU := HU.trans0 hU3
  replace hb1 := hb1.upd0 hU3
  replace hb2 := hb2.upd0 hU3
  refine Wl_v (r_ext (v := .int .i64 0) rfl rfl) ?_
  refine Wl_v (r_ext (v := .int .i64 1) rfl rfl) ?_
  refine Wl_v (r_as (v := .int .i64 0) rfl) ?_
  refine Wl_v (r_as (v := .int .i64 1) rfl) ?_
  refine Wl_nil ?_
  refine W_ret ?_
  refine ret_end (v := .tuple #[.int .i64 0, .int .i64 1]) rfl (res2 Try.results37 rfl rfl) ?_
  exact ⟨_, rfl, rfl, HU⟩

theorem cbytes_nil {k : Int} (w : World)  :
    Calls Try.prog 26 #[.pointer none, .int .i64 k] w (Ret fun v w' => v = .tuple #[.slice none 0 0, .int .i64 1] ∧ Upd No w w') := by
  have HU : Upd (fun b => False) w w := Upd.refl _ _
  refine calls_of_W Try.func26 rfl Try.ntmps26 (by simp) ?_
  refine W_seq ?_
  refine W_region ?_
  refine Wl_box (v := .pointer none) (cs := [.pointer none]) rfl rfl ?_
  intro B1 w1 hB1 hU1 hzz1 hb1
  have hzw1 := hU1.size
  replace HU := HU.trans0 hU1
  refine Wl_box (v := .int .i64 k) (cs := [.int .i64 k]) rfl rfl ?_
  intro B2 w2 hB2 hU2 hzz2 hb2
  have hzw2 := hU2.size
  replace HU := HU.trans0 hU2
  replace hb1 := hb1.upd0 hU2
  refine Wl_v (r_as (v := .slice none 0 0) rfl) ?_
  refine Wl_v (r_as (v := .int .i64 0) rfl) ?_
  refine Wl_nil ?_
  refine W_seq ?_
  refine W_region ?_
  refine Wl_load (v := .pointer none) Try.isAgg38 rfl hb1 rfl ?_
  refine Wl_v (r_mkf2 (v0 := .pointer (some ⟨B2, 0, none⟩)) (v1 := .pointer (some ⟨B1, 0, none⟩)) rfl rfl) ?_
  refine Wl_call (r_call2 rfl Try.call41 rfl rfl) (readBs_nil _ ) ?_
  rintro v w3 ⟨rfl, hU3⟩
  have hzw3 := hU3.size
  replace HU := HU.trans0 hU3
  replace hb1 := hb1.upd0 hU3
  replace hb2 := hb2.upd0 hU3
  refine Wl_v (r_ext (v := .slice none 0 0) rfl rfl) ?_
  refine Wl_v (r_ext (v := .int .i64 1) rfl rfl) ?_
  refine Wl_v (r_as (v := .slice none 0 0) rfl) ?_
  refine Wl_v (r_as (v := .int .i64 1) rfl) ?_
  refine Wl_nil ?_
  refine W_ret ?_
  refine ret_end (v := .tuple #[.slice none 0 0, .int .i64 1]) rfl (res2 Try.results26 rfl rfl) ?_
  exact ⟨_, rfl, rfl, HU⟩

theorem csub_nil {k : Int} (w : World)  :
    Calls Try.prog 33 #[.pointer none, .int .i64 k] w (Ret fun v w' => v = .tuple #[.pointer none, .int .i64 1] ∧ Upd No w w') := by
  have HU : Upd (fun b => False) w w := Upd.refl _ _
  refine calls_of_W Try.func33 rfl Try.ntmps33 (by simp) ?_
  refine W_seq ?_
  refine W_region ?_
  refine Wl_box (v := .pointer none) (cs := [.pointer none]) rfl rfl ?_
  intro B1 w1 hB1 hU1 hzz1 hb1
  have hzw1 := hU1.size
  replace HU := HU.trans0 hU1
  refine Wl_box (v := .int .i64 k) (cs := [.int .i64 k]) rfl rfl ?_
  intro B2 w2 hB2 hU2 hzz2 hb2
  have hzw2 := hU2.size
  replace HU := HU.trans0 hU2
  replace hb1 := hb1.upd0 hU2
  refine Wl_v (r_as (v := .pointer none) rfl) ?_
  refine Wl_v (r_as (v := .int .i64 0) rfl) ?_
  refine Wl_nil ?_
  refine W_seq ?_
  refine W_region ?_
  refine Wl_load (v := .pointer none) Try.isAgg38 rfl hb1 rfl ?_
  refine Wl_v (r_mkf2 (v0 := .pointer (some ⟨B1, 0, none⟩)) (v1 := .pointer (some ⟨B2, 0, none⟩)) rfl rfl) ?_
  refine Wl_call (r_call2 rfl Try.call49 rfl rfl) (readCu_nil _ ) ?_
  rintro v w3 ⟨rfl, hU3⟩
  have hzw3 := hU3.size
  replace HU := HU.trans0 hU3
  replace hb1 := hb1.upd0 hU3
  replace hb2 := hb2.upd0 hU3
  refine Wl_v (r_ext (v := .pointer none) rfl rfl) ?_
  refine Wl_v (r_ext (v := .int .i64 1) rfl rfl) ?_
  refine Wl_v (r_as (v := .pointer none) rfl) ?_
  refine Wl_v (r_as (v := .int .i64 1) rfl) ?_
  refine Wl_nil ?_
  refine W_ret ?_
  refine ret_end (v := .tuple #[.pointer none, .int .i64 1]) rfl (res2 Try.results33 rfl rfl) ?_
  exact ⟨_, rfl, rfl, HU⟩

set_option maxRecDepth 100000 in
theorem ask_nil {kd nn : Int} (w : World)  :
    Calls Try.prog 31 #[.pointer none, .agg #[.int .i64 kd, .int .i64 nn]] w (Ret fun v w' => v = .tuple #[.int .u64 0, .slice none 0 0, .int .i64 1] ∧ Upd No w w') := by
  have HU : Upd (fun b => False) w w := Upd.refl _ _
  refine calls_of_W Try.func31 rfl Try.ntmps31 (by simp) ?_
  refine W_seq ?_
  refine W_region ?_
  refine Wl_box (v := .agg #[.int .i64 kd, .int .i64 nn]) (cs := [.int .i64 kd, .int .i64 nn]) rfl rfl ?_
  intro B1 w1 hB1 hU1 hzz1 hb1
  have hzw1 := hU1.size
  replace HU := HU.trans0 hU1
  refine Wl_v (r_as (v := .int .u64 0) rfl) ?_
  refine Wl_v (r_as (v := .slice none 0 0) rfl) ?_
  refine Wl_v (r_as (v := .int .i64 0) rfl) ?_
  refine Wl_nil ?_
  refine W_seq ?_
  refine W_seq ?_
  refine W_region ?_
  refine Wl_v (r_fld Try.underlying56 rfl Try.sizeOf3 rfl rfl) ?_
  refine Wl_load (v := .int .i64 kd) Try.isAgg3 rfl hb1 rfl ?_
  refine Wl_nil ?_
  refine W_block ?_
  refine W_seq ?_
  refine W_region ?_
  refine Wl_v (r_eq rfl rfl) ?_
  refine Wl_v (r_as (v := .bool (decide (kd = 1))) rfl) ?_
  refine Wl_nil ?_
  by_cases q1 : kd = 1
  · rw [decide_eq_true q1]
    refine W_cond_t rfl ?_
    refine W_seq ?_
    refine W_region ?_
    refine Wl_v (r_mv (v := .pointer none) rfl) ?_
    refine Wl_call (r_call1 rfl Try.call40 rfl) (cbyte_nil _ ) ?_
    rintro v w2 ⟨rfl, hU2⟩
    have hzw2 := hU2.size
    replace HU := HU.trans0 hU2
    replace hb1 := hb1.upd0 hU2
    refine Wl_v (r_mv (v := .tuple #[.int .u8 0, .int .i64 1]) rfl) ?_
    refine Wl_v (r_ext (v := .int .u8 0) rfl rfl) ?_
    refine Wl_v (r_ext (v := .int .i64 1) rfl rfl) ?_
    refine Wl_v (r_as (v := .int .u8 0) rfl) ?_
    refine Wl_v (r_as (v := .int .i64 1) rfl) ?_
    refine Wl_nil ?_
    refine W_seq ?_
    refine W_region ?_
    refine Wl_v (r_mv (v := .int .u8 0) rfl) ?_
    refine Wl_v (r_cvt Try.underlying5 Try.underlying24 rfl (wu64 (by omega) (by omega))) ?_
    refine Wl_v (r_mv (v := .int .i64 1) rfl) ?_
    refine Wl_v (r_as (v := .int .u64 0) rfl) ?_
    refine Wl_v (r_as (v := .slice none 0 0) rfl) ?_
    refine Wl_v (r_as (v := .int .i64 1) rfl) ?_
    refine Wl_nil ?_
    refine W_ret ?_
    refine ret_end (v := .tuple #[.int .u64 0, .slice none 0 0, .int .i64 1]) rfl (res3 Try.results31 rfl rfl rfl) ?_
    exact ⟨_, rfl, rfl, HU⟩
  · rw [decide_eq_false q1]
    refine W_cond_f rfl ?_
    refine W_seq ?_
    refine W_region ?_
    refine Wl_v (r_eq rfl rfl) ?_
    refine Wl_v (r_as (v := .bool (decide (kd = 2))) rfl) ?_
    refine Wl_nil ?_
    by_cases q2 : kd = 2
    · rw [decide_eq_true q2]
      refine W_cond_t rfl ?_
      refine W_seq ?_
      refine W_region ?_
      refine Wl_v (r_mv (v := .pointer none) rfl) ?_
      refine Wl_call (r_call1 rfl Try.call28 rfl) (cword_nil _ ) ?_
      rintro v w3 ⟨rfl, hU3⟩
      have hzw3 := hU3.size
      replace HU := HU.trans0 hU3
      replace hb1 := hb1.upd0 hU3
      refine Wl_v (r_mv (v := .tuple #[.int .u32 0, .int .i64 1]) rfl) ?_
      refine Wl_v (r_ext (v := .int .u32 0) rfl rfl) ?_
      refine Wl_v (r_ext (v := .int .i64 1) rfl rfl) ?_
      refine Wl_v (r_as (v := .int .u32 0) rfl) ?_
      refine Wl_v (r_as (v := .int .i64 1) rfl) ?_
      refine Wl_nil ?_
      refine W_seq ?_
      refine W_region ?_
      refine Wl_v (r_mv (v := .int .u32 0) rfl) ?_
      refine Wl_v (r_cvt Try.underlying23 Try.underlying24 rfl (wu64 (by omega) (by omega))) ?_
      refine Wl_v (r_mv (v := .int .i64 1) rfl) ?_
      refine Wl_v (r_as (v := .int .u64 0) rfl) ?_
      refine Wl_v (r_as (v := .slice none 0 0) rfl) ?_
      refine Wl_v (r_as (v := .int .i64 1) rfl) ?_
      refine Wl_nil ?_
      refine W_ret ?_
      refine ret_end (v := .tuple #[.int .u64 0, .slice none 0 0, .int .i64 1]) rfl (res3 Try.results31 rfl rfl rfl) ?_
      exact ⟨_, rfl, rfl, HU⟩
    · rw [decide_eq_false q2]
      refine W_cond_f rfl ?_
      refine W_seq ?_
      refine W_region ?_
      refine Wl_v (r_eq rfl rfl) ?_
      refine Wl_v (r_as (v := .bool (decide (kd = 3))) rfl) ?_
      refine Wl_nil ?_
      by_cases q3 : kd = 3
      · rw [decide_eq_true q3]
        refine W_cond_t rfl ?_
        refine W_seq ?_
        refine W_region ?_
        refine Wl_v (r_mv (v := .pointer none) rfl) ?_
        refine Wl_call (r_call1 rfl Try.call22 rfl) (cvarint_nil _ ) ?_
        rintro v w4 ⟨rfl, hU4⟩
        have hzw4 := hU4.size
        replace HU := HU.trans0 hU4
        replace hb1 := hb1.upd0 hU4
        refine Wl_v (r_mv (v := .tuple #[.int .u64 0, .int .i64 1]) rfl) ?_
        refine Wl_v (r_ext (v := .int .u64 0) rfl rfl) ?_
        refine Wl_v (r_ext (v := .int .i64 1) rfl rfl) ?_
        refine Wl_v (r_as (v := .int .u64 0) rfl) ?_
        refine Wl_v (r_as (v := .int .i64 1) rfl) ?_
        refine Wl_nil ?_
        refine W_seq ?_
        refine W_region ?_
        refine Wl_v (r_mv (v := .int .u64 0) rfl) ?_
        refine Wl_v (r_mv (v := .int .i64 1) rfl) ?_
        refine Wl_v (r_as (v := .int .u64 0) rfl) ?_
        refine Wl_v (r_as (v := .slice none 0 0) rfl) ?_
        refine Wl_v (r_as (v := .int .i64 1) rfl) ?_
        refine Wl_nil ?_
        refine W_ret ?_
        refine ret_end (v := .tuple #[.int .u64 0, .slice none 0 0, .int .i64 1]) rfl (res3 Try.results31 rfl rfl rfl) ?_
        exact ⟨_, rfl, rfl, HU⟩
      · rw [decide_eq_false q3]
        refine W_cond_f rfl ?_
        refine W_seq ?_
        refine W_region ?_
        refine Wl_v (r_eq rfl rfl) ?_
        refine Wl_v (r_as (v := .bool (decide (kd = 4))) rfl) ?_
        refine Wl_nil ?_
        by_cases q4 : kd = 4
        · rw [decide_eq_true q4]
          refine W_cond_t rfl ?_
          refine W_seq ?_
          refine W_region ?_
          refine Wl_v (r_mv (v := .pointer none) rfl) ?_
          refine Wl_v (r_fld Try.underlying56 rfl Try.sizeOf3 rfl rfl) ?_
          refine Wl_load (v := .int .i64 nn) Try.isAgg3 rfl hb1 rfl ?_
          refine Wl_call (r_call2 rfl Try.call37 rfl rfl) (cnumber_nil _ ) ?_
          rintro v w5 ⟨rfl, hU5⟩
          have hzw5 := hU5.size
          replace HU := HU.trans0 hU5
          replace hb1 := hb1.upd0 hU5
          refine Wl_v (r_mv (v := .tuple #[.int .i64 0, .int .i64 1]) rfl) ?_
          refine Wl_v (r_ext (v := .int .i64 0) rfl rfl) ?_
          refine Wl_v (r_ext (v := .int .i64 1) rfl rfl) ?_
          refine Wl_v (r_as (v := .int .i64 0) rfl) ?_
          refine Wl_v (r_as (v := .int .i64 1) rfl) ?_
          refine Wl_nil ?_
          refine W_seq ?_
          refine W_region ?_
          refine Wl_v (r_mv (v := .int .i64 0) rfl) ?_
          refine Wl_v (r_cvt Try.underlying3 Try.underlying24 rfl (wu64 (by omega) (by omega))) ?_
          refine Wl_v (r_mv (v := .int .i64 1) rfl) ?_
          refine Wl_v (r_as (v := .int .u64 0) rfl) ?_
          refine Wl_v (r_as (v := .slice none 0 0) rfl) ?_
          refine Wl_v (r_as (v := .int .i64 1) rfl) ?_
          refine Wl_nil ?_
          refine W_ret ?_
          refine ret_end (v := .tuple #[.int .u64 0, .slice none 0 0, .int .i64 1]) rfl (res3 Try.results31 rfl rfl rfl) ?_
          exact ⟨_, rfl, rfl, HU⟩
        · rw [decide_eq_false q4]
          refine W_cond_f rfl ?_
          refine W_seq ?_
          refine W_region ?_
          refine Wl_v (r_eq rfl rfl) ?_
          refine Wl_v (r_as (v := .bool (decide (kd = 5))) rfl) ?_
          refine Wl_nil ?_
          by_cases q5 : kd = 5
          · rw [decide_eq_true q5]
            refine W_cond_t rfl ?_
            refine W_seq ?_
            refine W_region ?_
            refine Wl_v (r_mv (v := .pointer none) rfl) ?_
            refine Wl_v (r_fld Try.underlying56 rfl Try.sizeOf3 rfl rfl) ?_
            refine Wl_load (v := .int .i64 nn) Try.isAgg3 rfl hb1 rfl ?_
            refine Wl_call (r_call2 rfl Try.call26 rfl rfl) (cbytes_nil _ ) ?_
            rintro v w6 ⟨rfl, hU6⟩
            have hzw6 := hU6.size
            replace HU := HU.trans0 hU6
            replace hb1 := hb1.upd0 hU6
            refine Wl_v (r_mv (v := .tuple #[.slice none 0 0, .int .i64 1]) rfl) ?_
            refine Wl_v (r_ext (v := .slice none 0 0) rfl rfl) ?_
            refine Wl_v (r_ext (v := .int .i64 1) rfl rfl) ?_
            refine Wl_v (r_as (v := .slice none 0 0) rfl) ?_
            refine Wl_v (r_as (v := .int .i64 1) rfl) ?_
            refine Wl_nil ?_
            refine W_seq ?_
            refine W_region ?_
            refine Wl_v (r_mv (v := .slice none 0 0) rfl) ?_
            refine Wl_v (r_mv (v := .int .i64 1) rfl) ?_
            refine Wl_v (r_as (v := .int .u64 0) rfl) ?_
            refine Wl_v (r_as (v := .slice none 0 0) rfl) ?_
            refine Wl_v (r_as (v := .int .i64 1) rfl) ?_
            refine Wl_nil ?_
            refine W_ret ?_
            refine ret_end (v := .tuple #[.int .u64 0, .slice none 0 0, .int .i64 1]) rfl (res3 Try.results31 rfl rfl rfl) ?_
            exact ⟨_, rfl, rfl, HU⟩
          · rw [decide_eq_false q5]
            refine W_cond_f rfl ?_
            refine W_skip ?_
            refine W_seq ?_
            refine W_region ?_
            refine Wl_v (r_mv (v := .pointer none) rfl) ?_
            refine Wl_call (r_call1 rfl Try.call30 rfl) (end_nil _ ) ?_
            rintro v w7 ⟨rfl, hU7⟩
            have hzw7 := hU7.size
            replace HU := HU.trans0 hU7
            replace hb1 := hb1.upd0 hU7
            refine Wl_v (r_as (v := .int .u64 0) rfl) ?_
            refine Wl_v (r_as (v := .slice none 0 0) rfl) ?_
            refine Wl_v (r_as (v := .int .i64 1) rfl) ?_
            refine Wl_nil ?_
            refine W_ret ?_
            refine ret_end (v := .tuple #[.int .u64 0, .slice none 0 0, .int .i64 1]) rfl (res3 Try.results31 rfl rfl rfl) ?_
            exact ⟨_, rfl, rfl, HU⟩

end Go.Proofs.Ytigojafhogjnfaa
