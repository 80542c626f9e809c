/-
  Walks, printed by a small program of this project (gen.py).
-/
import Derived.Test.YtflmjdnhjbiobaaKa
set_option linter.unusedVariables false
set_option linter.unusedSimpArgs false
namespace Go.Proofs.Ytflmjdnhjbiobaa
open Go.Fw

theorem cword_at {pb : Nat} {a : Option Addr} {n c p : Nat} {bs : List Int} {x er : Int} {q : Nat} (w : World) (hp : Blk w pb [.slice a n c, .int .i64 ((p : Nat) : Int)]) (hs : Sl w (fun g => g < w.heap.size ∧ g ≠ pb) 1 (.slice a n c) n (ints .u8 bs)) (hb : Byt bs) (hpn : p ≤ n) (hn : n ≤ 140737488355328) (hg : gword bs p = (x, q, er)) :
    Calls Try.prog 48 #[.pointer (some ⟨pb, 0, none⟩)] w (Ret fun v w' => v = .tuple #[.int .u32 x, .int .i64 er] ∧ Blk w' pb [.slice a n c, .int .i64 ((q : Nat) : Int)] ∧ Upd (Is pb) w w') := by
  have h := cword_spec w hp hs hb hpn hn
  rw [hg] at h
  exact h

theorem cvarint_at {pb : Nat} {a : Option Addr} {n c p : Nat} {bs : List Int} {x er : Int} {q : Nat} (w : World) (hp : Blk w pb [.slice a n c, .int .i64 ((p : Nat) : Int)]) (hs : Sl w (fun g => g < w.heap.size ∧ g ≠ pb) 1 (.slice a n c) n (ints .u8 bs)) (hb : Byt bs) (hpn : p ≤ n) (hn : n ≤ 140737488355328) (hg : gvar bs p = (x, q, er)) :
    Calls Try.prog 50 #[.pointer (some ⟨pb, 0, none⟩)] w (Ret fun v w' => v = .tuple #[.int .u64 x, .int .i64 er] ∧ Blk w' pb [.slice a n c, .int .i64 ((q : Nat) : Int)] ∧ Upd (Is pb) w w') := by
  have h := cvarint_spec w hp hs hb hpn hn
  rw [hg] at h
  exact h

theorem cbytes_k {pb : Nat} {a : Option Addr} {n c p : Nat} {bs : List Int} {K : Nat} (w : World) (hp : Blk w pb [.slice a n c, .int .i64 ((p : Nat) : Int)]) (hs : Sl w (fun g => g < w.heap.size ∧ g ≠ pb) 1 (.slice a n c) n (ints .u8 bs)) (hb : Byt bs) (hpn : p ≤ n) (hn : n ≤ 140737488355328) (hkn : p + K ≤ n) :
    Calls Try.prog 25 #[.pointer (some ⟨pb, 0, none⟩), .int .i64 ((K : Nat) : Int)] w (Ret fun v w' => ∃ a' c', v = .tuple #[.slice a' K c', .int .i64 0] ∧ Blk w' pb [.slice a n c, .int .i64 ((p + K : Nat) : Int)] ∧ Own w' (Ge w.heap.size) 5 1 (.slice a' K c') K (ints .u8 ((bs.drop p).take K)) ∧ Upd (Is pb) w w') := by
  have h := bytes_spec (k := ((K : Nat) : Int)) w hp hs hb hpn hn
  have hl := ilen hs
  rw [gbytes_ok (by omega) (by omega)] at h
  simp only [Int.toNat_natCast] at h
  refine h.mono fun e w' ⟨v, he, a', m', c', hv, h1, h2, h3, h4⟩ => ?_
  obtain rfl : K = m' := by rw [← h3, List.length_take, List.length_drop]; omega
  exact ⟨v, he, a', c', hv, h1, h2, h4⟩

theorem peek_k {pb : Nat} {a : Option Addr} {n c p : Nat} {bs : List Int} {K t : Nat} (w : World) (hp : Blk w pb [.slice a n c, .int .i64 ((p : Nat) : Int)]) (hs : Sl w (fun g => g < w.heap.size ∧ g ≠ pb) 1 (.slice a n c) n (ints .u8 bs)) (hb : Byt bs) (hpn : p ≤ n) (hn : n ≤ 140737488355328) (ht : t = min K (n - p)) :
    Calls Try.prog 43 #[.pointer (some ⟨pb, 0, none⟩), .int .i64 ((K : Nat) : Int)] w (Ret fun v w' => ∃ a' c', v = .slice a' t c' ∧ Own w' (Ge w.heap.size) 5 1 (.slice a' t c') t (ints .u8 ((bs.drop p).take K)) ∧ Upd No w w') := by
  have h := peek_spec (k := ((K : Nat) : Int)) (t := t) w hp hs hb hpn hn (by omega)
  have hl := ilen hs
  have e : (bs.drop p).take t = (bs.drop p).take K := by
    rcases Nat.lt_or_ge K (n - p) with h1 | h1
    · rw [show t = K from by omega]
    · rw [List.take_of_length_le (by rw [List.length_drop]; omega), List.take_of_length_le (by rw [List.length_drop]; omega)]
  rw [e] at h
  exact h

set_option maxRecDepth 100000 in
theorem mark_ok {pb : Nat} {a : Option Addr} {n c p : Nat} {bs : List Int} (w : World) (hp : Blk w pb [.slice a n c, .int .i64 ((p : Nat) : Int)]) (hs : Sl w (fun g => g < w.heap.size ∧ g ≠ pb) 1 (.slice a n c) n (ints .u8 bs)) (hb : Byt bs) (hpn : p ≤ n) (hn : n ≤ 140737488355328) (h4 : ¬ n < p + 4) :
    Calls Try.prog 53 #[.pointer (some ⟨pb, 0, none⟩)] w (Ret fun v w' => v = .tuple #[.string (strOfNums ((bs.drop p).take 4)), .int .i64 0] ∧ Upd No w w') := by
  have HU : Upd (fun b => False) w w := Upd.refl _ _
  have hbl_hp := hp.lt
  have hl_hs := ilen hs
  have hc_hs := hs.cap.1
  refine calls_of_W Try.func53 rfl Try.ntmps53 (by simp) ?_
  refine W_seq ?_
  refine W_region ?_
  refine Wl_v (r_as (v := .string (strOfNums [])) rfl) ?_
  refine Wl_v (r_as (v := .int .i64 0) rfl) ?_
  refine Wl_nil ?_
  refine W_seq ?_
  refine W_seq ?_
  refine W_region ?_
  refine Wl_v (r_mv (v := .pointer (some ⟨pb, 0, none⟩)) rfl) ?_
  refine Wl_v (r_eqpn_s Try.underlying41 rfl rfl) ?_
  refine Wl_nil ?_
  refine W_cond_f rfl ?_
  refine W_skip ?_
  refine W_seq ?_
  refine W_region ?_
  refine Wl_v (r_mv (v := .pointer (some ⟨pb, 0, none⟩)) rfl) ?_
  refine Wl_call (r_call2 rfl Try.call43 rfl rfl) (peek_k (t := 4) (K := 4) _ hp (hs.cur (by intro h1; have h3 : (pb < w.heap.size ∧ pb ≠ pb) := h1; first | omega | simp at h3)) hb (by omega) (by omega) (by omega)) ?_
  rintro v w1 ⟨a1, c1, rfl, hO1, hU1⟩
  have hzw1 := hU1.size
  replace hp := hp.upd0 hU1
  replace hs := hs.upd0 hU1
  replace HU := HU.trans0 hU1
  replace hO1 := hO1.tight
  have hl_hO1 := ilen hO1.sl
  have hc_hO1 := hO1.sl.cap.1
  refine Wl_v (r_as (v := .slice a1 4 c1) rfl) ?_
  refine Wl_nil ?_
  refine W_seq ?_
  refine W_seq ?_
  refine W_region ?_
  refine Wl_v (r_mv (v := .slice a1 4 c1) rfl) ?_
  refine Wl_v (r_len Try.underlying35 rfl) ?_
  refine Wl_v (v := .bool false) (r_lt (a := 4) (b := 4) rfl rfl) ?_
  refine Wl_nil ?_
  refine W_cond_f rfl ?_
  refine W_skip ?_
  refine W_seq ?_
  refine W_region ?_
  refine Wl_v (r_mv (v := .slice a1 4 c1) rfl) ?_
  refine Wl_bstr Try.underlying35 Try.underlying5 Try.underlying9 rfl hO1.sl ?_
  refine Wl_v (r_as (v := .string (strOfNums ((bs.drop p).take 4))) rfl) ?_
  refine Wl_v (r_as (v := .int .i64 0) rfl) ?_
  refine Wl_nil ?_
  refine W_ret ?_
  refine ret_end (v := .tuple #[.string (strOfNums ((bs.drop p).take 4)), .int .i64 0]) rfl (res2 Try.results53 rfl rfl) ?_
  exact ⟨_, rfl, rfl, HU⟩

set_option maxRecDepth 100000 in
theorem mark_no {pb : Nat} {a : Option Addr} {n c p : Nat} {bs : List Int} (w : World) (hp : Blk w pb [.slice a n c, .int .i64 ((p : Nat) : Int)]) (hs : Sl w (fun g => g < w.heap.size ∧ g ≠ pb) 1 (.slice a n c) n (ints .u8 bs)) (hb : Byt bs) (hpn : p ≤ n) (hn : n ≤ 140737488355328) (h4 : n < p + 4) :
    Calls Try.prog 53 #[.pointer (some ⟨pb, 0, none⟩)] w (Ret fun v w' => v = .tuple #[.string (strOfNums []), .int .i64 3] ∧ Upd No w w') := by
  have HU : Upd (fun b => False) w w := Upd.refl _ _
  have hbl_hp := hp.lt
  have hl_hs := ilen hs
  have hc_hs := hs.cap.1
  refine calls_of_W Try.func53 rfl Try.ntmps53 (by simp) ?_
  refine W_seq ?_
  refine W_region ?_
  refine Wl_v (r_as (v := .string (strOfNums [])) rfl) ?_
  refine Wl_v (r_as (v := .int .i64 0) rfl) ?_
  refine Wl_nil ?_
  refine W_seq ?_
  refine W_seq ?_
  refine W_region ?_
  refine Wl_v (r_mv (v := .pointer (some ⟨pb, 0, none⟩)) rfl) ?_
  refine Wl_v (r_eqpn_s Try.underlying41 rfl rfl) ?_
  refine Wl_nil ?_
  refine W_cond_f rfl ?_
  refine W_skip ?_
  refine W_seq ?_
  refine W_region ?_
  refine Wl_v (r_mv (v := .pointer (some ⟨pb, 0, none⟩)) rfl) ?_
  refine Wl_call (r_call2 rfl Try.call43 rfl rfl) (peek_k (t := n - p) (K := 4) _ hp (hs.cur (by intro h1; have h3 : (pb < w.heap.size ∧ pb ≠ pb) := h1; first | omega | simp at h3)) hb (by omega) (by omega) (by omega)) ?_
  rintro v w1 ⟨a1, c1, rfl, hO1, hU1⟩
  have hzw1 := hU1.size
  replace hp := hp.upd0 hU1
  replace hs := hs.upd0 hU1
  replace HU := HU.trans0 hU1
  replace hO1 := hO1.tight
  have hl_hO1 := ilen hO1.sl
  have hc_hO1 := hO1.sl.cap.1
  refine Wl_v (r_as (v := .slice a1 (n - p) c1) rfl) ?_
  refine Wl_nil ?_
  refine W_seq ?_
  refine W_seq ?_
  refine W_region ?_
  refine Wl_v (r_mv (v := .slice a1 (n - p) c1) rfl) ?_
  refine Wl_v (r_len Try.underlying35 rfl) ?_
  refine Wl_v (r_lt rfl rfl) ?_
  refine Wl_nil ?_
  have q1 : ((n - p : Nat) : Int) < 4 := (by omega)
  rw [decide_eq_true q1]
  refine W_cond_t rfl ?_
  refine W_seq ?_
  refine W_region ?_
  refine Wl_v (r_as (v := .string (strOfNums [])) rfl) ?_
  refine Wl_v (r_as (v := .int .i64 3) rfl) ?_
  refine Wl_nil ?_
  refine W_ret ?_
  refine ret_end (v := .tuple #[.string (strOfNums []), .int .i64 3]) rfl (res2 Try.results53 rfl rfl) ?_
  exact ⟨_, rfl, rfl, HU⟩

set_option maxRecDepth 100000 in
theorem mark_nil  (w : World)  :
    Calls Try.prog 53 #[.pointer none] w (Ret fun v w' => v = .tuple #[.string (strOfNums []), .int .i64 1] ∧ Upd No w w') := by
  have HU : Upd (fun b => False) w w := Upd.refl _ _
  refine calls_of_W Try.func53 rfl Try.ntmps53 (by simp) ?_
  refine W_seq ?_
  refine W_region ?_
  refine Wl_v (r_as (v := .string (strOfNums [])) rfl) ?_
  refine Wl_v (r_as (v := .int .i64 0) rfl) ?_
  refine Wl_nil ?_
  refine W_seq ?_
  refine W_seq ?_
  refine W_region ?_
  refine Wl_v (r_mv (v := .pointer none) rfl) ?_
  refine Wl_v (r_eqpn_n Try.underlying41 rfl rfl) ?_
  refine Wl_nil ?_
  refine W_cond_t rfl ?_
  refine W_seq ?_
  refine W_region ?_
  refine Wl_v (r_as (v := .string (strOfNums [])) rfl) ?_
  refine Wl_v (r_as (v := .int .i64 1) rfl) ?_
  refine Wl_nil ?_
  refine W_ret ?_
  refine ret_end (v := .tuple #[.string (strOfNums []), .int .i64 1]) rfl (res2 Try.results53 rfl rfl) ?_
  exact ⟨_, rfl, rfl, HU⟩

set_option maxRecDepth 100000 in
theorem isf_spec {pb : Nat} {a : Option Addr} {n c p : Nat} {bs : List Int} (w : World) (hp : Blk w pb [.slice a n c, .int .i64 ((p : Nat) : Int)]) (hs : Sl w (fun g => g < w.heap.size ∧ g ≠ pb) 1 (.slice a n c) n (ints .u8 bs)) (hb : Byt bs) (hpn : p ≤ n) (hn : n ≤ 140737488355328) :
    Calls Try.prog 29 #[.pointer (some ⟨pb, 0, none⟩)] w (Ret fun v w' => v = .tuple #[.bool (decide ((hmk bs p).1 = 1)), .int .i64 ((hmk bs p).2)] ∧ Upd No w w') := by
  have HU : Upd (fun b => False) w w := Upd.refl _ _
  have hbl_hp := hp.lt
  have hl_hs := ilen hs
  have hc_hs := hs.cap.1
  refine calls_of_W Try.func29 rfl Try.ntmps29 (by simp) ?_
  refine W_seq ?_
  refine W_region ?_
  refine Wl_v (r_as (v := .bool false) rfl) ?_
  refine Wl_v (r_as (v := .int .i64 0) rfl) ?_
  refine Wl_nil ?_
  refine W_seq ?_
  refine W_region ?_
  refine Wl_v (r_mv (v := .pointer (some ⟨pb, 0, none⟩)) rfl) ?_
  by_cases q1 : n < p + 4
  · refine Wl_call (r_call1 rfl Try.call53 rfl) (mark_no _ hp (hs.cur (by intro h1; have h3 : (pb < w.heap.size ∧ pb ≠ pb) := h1; first | omega | simp at h3)) hb (by omega) (by omega) (by omega)) ?_
    rintro v w1 ⟨rfl, hU1⟩
    have hzw1 := hU1.size
    replace hp := hp.upd0 hU1
    replace hs := hs.upd0 hU1
    replace HU := HU.trans0 hU1
    refine Wl_v (r_mv (v := .tuple #[.string (strOfNums []), .int .i64 3]) rfl) ?_
    refine Wl_v (r_ext (v := .string (strOfNums [])) rfl rfl) ?_
    refine Wl_v (r_ext (v := .int .i64 3) rfl rfl) ?_
    refine Wl_v (r_as (v := .string (strOfNums [])) rfl) ?_
    refine Wl_v (r_as (v := .int .i64 3) rfl) ?_
    refine Wl_nil ?_
    refine W_seq ?_
    refine W_seq ?_
    refine W_region ?_
    refine Wl_v (r_mv (v := .int .i64 3) rfl) ?_
    refine Wl_v (v := .bool false) (r_eq (a := 3) (b := 0) rfl rfl) ?_
    refine Wl_v (r_mv (v := .bool false) rfl) ?_
    refine Wl_guard_f rfl ?_
    refine Wl_guard_f rfl ?_
    refine Wl_v (r_pick_f (v := .bool false) rfl rfl) ?_
    refine Wl_v (r_mv (v := .bool false) rfl) ?_
    refine Wl_guard_f rfl ?_
    refine Wl_guard_f rfl ?_
    refine Wl_v (r_pick_f (v := .bool false) rfl rfl) ?_
    refine Wl_nil ?_
    refine W_cond_f rfl ?_
    refine W_skip ?_
    refine W_seq ?_
    refine W_region ?_
    refine Wl_v (r_mv (v := .int .i64 3) rfl) ?_
    refine Wl_v (v := .bool false) (r_eq (a := 3) (b := 0) rfl rfl) ?_
    refine Wl_v (r_mv (v := .bool false) rfl) ?_
    refine Wl_guard_f rfl ?_
    refine Wl_guard_f rfl ?_
    refine Wl_v (r_pick_f (v := .bool false) rfl rfl) ?_
    refine Wl_v (r_mv (v := .int .i64 3) rfl) ?_
    refine Wl_v (r_as (v := .bool false) rfl) ?_
    refine Wl_v (r_as (v := .int .i64 3) rfl) ?_
    refine Wl_nil ?_
    refine W_ret ?_
    refine ret_end (v := .tuple #[.bool false, .int .i64 3]) rfl (res2 Try.results29 rfl rfl) ?_
    have HM := hmk_short (bs := bs) (p := p) (by omega)
    exact ⟨_, rfl, (vtup2 (by simp [HM, q1]) (by simp [HM, q1])), HU⟩
  · refine Wl_call (r_call1 rfl Try.call53 rfl) (mark_ok _ hp (hs.cur (by intro h1; have h3 : (pb < w.heap.size ∧ pb ≠ pb) := h1; first | omega | simp at h3)) hb (by omega) (by omega) (by omega)) ?_
    rintro v w2 ⟨rfl, hU2⟩
    have hzw2 := hU2.size
    replace hp := hp.upd0 hU2
    replace hs := hs.upd0 hU2
    replace HU := HU.trans0 hU2
    refine Wl_v (r_mv (v := .tuple #[.string (strOfNums ((bs.drop p).take 4)), .int .i64 0]) rfl) ?_
    refine Wl_v (r_ext (v := .string (strOfNums ((bs.drop p).take 4))) rfl rfl) ?_
    refine Wl_v (r_ext (v := .int .i64 0) rfl rfl) ?_
    refine Wl_v (r_as (v := .string (strOfNums ((bs.drop p).take 4))) rfl) ?_
    refine Wl_v (r_as (v := .int .i64 0) rfl) ?_
    refine Wl_nil ?_
    refine W_seq ?_
    refine W_seq ?_
    refine W_region ?_
    refine Wl_v (r_mv (v := .int .i64 0) rfl) ?_
    refine Wl_v (v := .bool true) (r_eq (a := 0) (b := 0) rfl rfl) ?_
    refine Wl_v (r_mv (v := .bool true) rfl) ?_
    refine Wl_guard_t rfl ?_
    refine Wl_v (r_mv (v := .string (strOfNums ((bs.drop p).take 4))) rfl) ?_
    refine Wl_guard_t rfl ?_
    refine Wl_v (r_nestr (show Byt ((bs.drop p).take 4) from (byt_take (byt_drop hb _) _)) (show Byt [80, 77, 84, 30] from (by intro x hx; simp at hx; omega)) rfl rfl) ?_
    refine Wl_v (r_pick_t (v := .bool (!decide (((bs.drop p).take 4) = [80, 77, 84, 30]))) rfl rfl) ?_
    refine Wl_v (r_mv (v := .bool (!decide (((bs.drop p).take 4) = [80, 77, 84, 30]))) rfl) ?_
    by_cases q2 : ((bs.drop p).take 4) = [80, 77, 84, 30]
    · rw [decide_eq_true q2]
      simp only [Bool.not_true, Bool.not_false]
      refine Wl_guard_f rfl ?_
      refine Wl_guard_f rfl ?_
      refine Wl_v (r_pick_f (v := .bool false) rfl rfl) ?_
      refine Wl_nil ?_
      refine W_cond_f rfl ?_
      refine W_skip ?_
      refine W_seq ?_
      refine W_region ?_
      refine Wl_v (r_mv (v := .int .i64 0) rfl) ?_
      refine Wl_v (v := .bool true) (r_eq (a := 0) (b := 0) rfl rfl) ?_
      refine Wl_v (r_mv (v := .bool true) rfl) ?_
      refine Wl_guard_t rfl ?_
      refine Wl_v (r_mv (v := .string (strOfNums ((bs.drop p).take 4))) rfl) ?_
      refine Wl_guard_t rfl ?_
      refine Wl_v (r_eqstr (show Byt ((bs.drop p).take 4) from (byt_take (byt_drop hb _) _)) (show Byt [80, 77, 84, 30] from (by intro x hx; simp at hx; omega)) rfl rfl) ?_
      refine Wl_v (r_pick_t (v := .bool (decide (((bs.drop p).take 4) = [80, 77, 84, 30]))) rfl rfl) ?_
      refine Wl_v (r_mv (v := .int .i64 0) rfl) ?_
      refine Wl_v (r_as (v := .bool (decide (((bs.drop p).take 4) = [80, 77, 84, 30]))) rfl) ?_
      refine Wl_v (r_as (v := .int .i64 0) rfl) ?_
      refine Wl_nil ?_
      refine W_ret ?_
      refine ret_end (v := .tuple #[.bool (decide (((bs.drop p).take 4) = [80, 77, 84, 30])), .int .i64 0]) rfl (res2 Try.results29 rfl rfl) ?_
      have HM := hmk_frm (bs := bs) (p := p) (by omega) q2
      exact ⟨_, rfl, (vtup2 (by simp [HM, q1, q2]) (by simp [HM, q1, q2])), HU⟩
    · rw [decide_eq_false q2]
      simp only [Bool.not_true, Bool.not_false]
      refine Wl_guard_t rfl ?_
      refine Wl_v (r_mv (v := .string (strOfNums ((bs.drop p).take 4))) rfl) ?_
      refine Wl_guard_t rfl ?_
      refine Wl_v (r_nestr (show Byt ((bs.drop p).take 4) from (byt_take (byt_drop hb _) _)) (show Byt [80, 77, 84, 83] from (by intro x hx; simp at hx; omega)) rfl rfl) ?_
      refine Wl_v (r_pick_t (v := .bool (!decide (((bs.drop p).take 4) = [80, 77, 84, 83]))) rfl rfl) ?_
      refine Wl_nil ?_
      by_cases q3 : ((bs.drop p).take 4) = [80, 77, 84, 83]
      · rw [decide_eq_true q3]
        simp only [Bool.not_true, Bool.not_false]
        refine W_cond_f rfl ?_
        refine W_skip ?_
        refine W_seq ?_
        refine W_region ?_
        refine Wl_v (r_mv (v := .int .i64 0) rfl) ?_
        refine Wl_v (v := .bool true) (r_eq (a := 0) (b := 0) rfl rfl) ?_
        refine Wl_v (r_mv (v := .bool true) rfl) ?_
        refine Wl_guard_t rfl ?_
        refine Wl_v (r_mv (v := .string (strOfNums ((bs.drop p).take 4))) rfl) ?_
        refine Wl_guard_t rfl ?_
        refine Wl_v (r_eqstr (show Byt ((bs.drop p).take 4) from (byt_take (byt_drop hb _) _)) (show Byt [80, 77, 84, 30] from (by intro x hx; simp at hx; omega)) rfl rfl) ?_
        refine Wl_v (r_pick_t (v := .bool (decide (((bs.drop p).take 4) = [80, 77, 84, 30]))) rfl rfl) ?_
        refine Wl_v (r_mv (v := .int .i64 0) rfl) ?_
        refine Wl_v (r_as (v := .bool (decide (((bs.drop p).take 4) = [80, 77, 84, 30]))) rfl) ?_
        refine Wl_v (r_as (v := .int .i64 0) rfl) ?_
        refine Wl_nil ?_
        refine W_ret ?_
        refine ret_end (v := .tuple #[.bool (decide (((bs.drop p).take 4) = [80, 77, 84, 30])), .int .i64 0]) rfl (res2 Try.results29 rfl rfl) ?_
        have HM := hmk_skp (bs := bs) (p := p) (by omega) q2 q3
        exact ⟨_, rfl, (vtup2 (by simp [HM, q1, q2, q3]) (by simp [HM, q1, q2, q3])), HU⟩
      · rw [decide_eq_false q3]
        simp only [Bool.not_true, Bool.not_false]
        refine W_cond_t rfl ?_
        refine W_region ?_
        refine Wl_v (r_as (v := .int .i64 6) rfl) ?_
        refine Wl_nil ?_
        refine W_seq ?_
        refine W_region ?_
        refine Wl_v (r_mv (v := .int .i64 6) rfl) ?_
        refine Wl_v (v := .bool false) (r_eq (a := 6) (b := 0) rfl rfl) ?_
        refine Wl_v (r_mv (v := .bool false) rfl) ?_
        refine Wl_guard_f rfl ?_
        refine Wl_guard_f rfl ?_
        refine Wl_v (r_pick_f (v := .bool false) rfl rfl) ?_
        refine Wl_v (r_mv (v := .int .i64 6) rfl) ?_
        refine Wl_v (r_as (v := .bool false) rfl) ?_
        refine Wl_v (r_as (v := .int .i64 6) rfl) ?_
        refine Wl_nil ?_
        refine W_ret ?_
        refine ret_end (v := .tuple #[.bool false, .int .i64 6]) rfl (res2 Try.results29 rfl rfl) ?_
        have HM := hmk_no (bs := bs) (p := p) (by omega) q2 q3
        exact ⟨_, rfl, (vtup2 (by simp [HM, q1, q2, q3]) (by simp [HM, q1, q2, q3])), HU⟩

set_option maxRecDepth 100000 in
theorem isf_nil  (w : World)  :
    Calls Try.prog 29 #[.pointer none] w (Ret fun v w' => v = .tuple #[.bool false, .int .i64 1] ∧ Upd No w w') := by
  have HU : Upd (fun b => False) w w := Upd.refl _ _
  refine calls_of_W Try.func29 rfl Try.ntmps29 (by simp) ?_
  refine W_seq ?_
  refine W_region ?_
  refine Wl_v (r_as (v := .bool false) rfl) ?_
  refine Wl_v (r_as (v := .int .i64 0) rfl) ?_
  refine Wl_nil ?_
  refine W_seq ?_
  refine W_region ?_
  refine Wl_v (r_mv (v := .pointer none) rfl) ?_
  refine Wl_call (r_call1 rfl Try.call53 rfl) (mark_nil _ ) ?_
  rintro v w1 ⟨rfl, hU1⟩
  have hzw1 := hU1.size
  replace HU := HU.trans0 hU1
  refine Wl_v (r_mv (v := .tuple #[.string (strOfNums []), .int .i64 1]) rfl) ?_
  refine Wl_v (r_ext (v := .string (strOfNums [])) rfl rfl) ?_
  refine Wl_v (r_ext (v := .int .i64 1) rfl rfl) ?_
  refine Wl_v (r_as (v := .string (strOfNums [])) rfl) ?_
  refine Wl_v (r_as (v := .int .i64 1) rfl) ?_
  refine Wl_nil ?_
  refine W_seq ?_
  refine W_seq ?_
  refine W_region ?_
  refine Wl_v (r_mv (v := .int .i64 1) rfl) ?_
  refine Wl_v (v := .bool false) (r_eq (a := 1) (b := 0) rfl rfl) ?_
  refine Wl_v (r_mv (v := .bool false) rfl) ?_
  refine Wl_guard_f rfl ?_
  refine Wl_guard_f rfl ?_
  refine Wl_v (r_pick_f (v := .bool false) rfl rfl) ?_
  refine Wl_v (r_mv (v := .bool false) rfl) ?_
  refine Wl_guard_f rfl ?_
  refine Wl_guard_f rfl ?_
  refine Wl_v (r_pick_f (v := .bool false) rfl rfl) ?_
  refine Wl_nil ?_
  refine W_cond_f rfl ?_
  refine W_skip ?_
  refine W_seq ?_
  refine W_region ?_
  refine Wl_v (r_mv (v := .int .i64 1) rfl) ?_
  refine Wl_v (v := .bool false) (r_eq (a := 1) (b := 0) rfl rfl) ?_
  refine Wl_v (r_mv (v := .bool false) rfl) ?_
  refine Wl_guard_f rfl ?_
  refine Wl_guard_f rfl ?_
  refine Wl_v (r_pick_f (v := .bool false) rfl rfl) ?_
  refine Wl_v (r_mv (v := .int .i64 1) rfl) ?_
  refine Wl_v (r_as (v := .bool false) rfl) ?_
  refine Wl_v (r_as (v := .int .i64 1) rfl) ?_
  refine Wl_nil ?_
  refine W_ret ?_
  refine ret_end (v := .tuple #[.bool false, .int .i64 1]) rfl (res2 Try.results29 rfl rfl) ?_
  exact ⟨_, rfl, rfl, HU⟩

set_option maxRecDepth 100000 in
theorem rmark {a : Option Addr} {n c p : Nat} {bs : List Int} (w : World) (hs : Sl w (fun g => g < w.heap.size) 1 (.slice a n c) n (ints .u8 bs)) (hb : Byt bs) (hpn : p ≤ n) (hn : n ≤ 140737488355328) :
    Calls Try.prog 30 #[.slice a n c, .int .i64 ((p : Nat) : Int)] w (Ret fun v w' => v = .tuple #[.int .i64 ((hmk bs p).1), .int .i64 ((hmk bs p).2)] ∧ Upd No w w') := by
  have HU : Upd (fun b => False) w w := Upd.refl _ _
  have hl_hs := ilen hs
  have hc_hs := hs.cap.1
  refine calls_of_W Try.func30 rfl Try.ntmps30 (by simp) ?_
  refine W_seq ?_
  refine W_region ?_
  refine Wl_v (r_as (v := .int .i64 0) rfl) ?_
  refine Wl_v (r_as (v := .int .i64 0) rfl) ?_
  refine Wl_nil ?_
  refine W_seq ?_
  refine W_seq ?_
  refine W_region ?_
  refine Wl_v (r_mv (v := .slice a n c) rfl) ?_
  refine Wl_v (r_len Try.underlying35 rfl) ?_
  refine Wl_v (r_mv (v := .int .i64 ((p : Nat) : Int)) rfl) ?_
  refine Wl_v (r_sub rfl rfl (wi64 (by omega) (by omega))) ?_
  refine Wl_v (r_lt rfl rfl) ?_
  refine Wl_nil ?_
  by_cases q1 : (((n : Nat) : Int) - ((p : Nat) : Int)) < 4
  · rw [decide_eq_true q1]
    refine W_cond_t rfl ?_
    refine W_seq ?_
    refine W_region ?_
    refine Wl_v (r_as (v := .int .i64 0) rfl) ?_
    refine Wl_v (r_as (v := .int .i64 3) rfl) ?_
    refine Wl_nil ?_
    refine W_ret ?_
    refine ret_end (v := .tuple #[.int .i64 0, .int .i64 3]) rfl (res2 Try.results30 rfl rfl) ?_
    have HM := hmk_short (bs := bs) (p := p) (by omega)
    exact ⟨_, rfl, (vtup2 (by simp [HM]) (by simp [HM])), HU⟩
  · rw [decide_eq_false q1]
    refine W_cond_f rfl ?_
    refine W_skip ?_
    refine W_seq ?_
    refine W_seq ?_
    refine W_region ?_
    refine Wl_v (r_mv (v := .slice a n c) rfl) ?_
    refine Wl_v (r_mv (v := .int .i64 ((p : Nat) : Int)) rfl) ?_
    refine Wl_v (r_mv (v := .int .i64 ((p : Nat) : Int)) rfl) ?_
    refine Wl_v (r_add rfl rfl (wi64 (by omega) (by omega))) ?_
    refine Wl_v (r_slicen (l' := p) (h' := p + 3) (n' := 3) Try.underlying35 Try.sizeOf5 rfl rfl rfl (by omega) (by omega) (by omega) (by omega) (by omega)) ?_
    have hT1 := Sl.cutn (l := p) (n := 3) hs (by omega)
    have hl_hT1 := ilen hT1
    have hc_hT1 := hT1.cap.1
    refine Wl_bstr Try.underlying35 Try.underlying5 Try.underlying9 rfl hT1 ?_
    refine Wl_v (r_nestr (show Byt ((bs.drop p).take 3) from (byt_take (byt_drop hb _) _)) (show Byt [80, 77, 84] from (by intro x hx; simp at hx; omega)) rfl rfl) ?_
    refine Wl_nil ?_
    by_cases q2 : ((bs.drop p).take 3) = [80, 77, 84]
    · rw [decide_eq_true q2]
      simp only [Bool.not_true, Bool.not_false]
      refine W_cond_f rfl ?_
      refine W_skip ?_
      refine W_seq ?_
      refine W_seq ?_
      refine W_region ?_
      refine Wl_v (r_mv (v := .slice a n c) rfl) ?_
      refine Wl_v (r_mv (v := .int .i64 ((p : Nat) : Int)) rfl) ?_
      refine Wl_v (r_add rfl rfl (wi64 (by omega) (by omega))) ?_
      refine Wl_idxi Try.underlying35 Try.sizeOf5 rfl rfl hs (by omega) (by omega) ?_
      intro ib2 io2 hc2
      rw [show (((p : Nat) : Int) + 3).toNat = (p + 3) from by omega] at hc2
      refine Wl_loadc Try.isAgg5 rfl hc2 ?_
      refine Wl_nil ?_
      refine W_block ?_
      refine W_seq ?_
      refine W_region ?_
      refine Wl_v (r_eq rfl rfl) ?_
      refine Wl_v (r_as (v := .bool (decide ((bs.getD (p + 3) 0) = 30))) rfl) ?_
      refine Wl_nil ?_
      by_cases q3 : (bs.getD (p + 3) 0) = 30
      · rw [decide_eq_true q3]
        refine W_cond_t rfl ?_
        refine W_seq ?_
        refine W_region ?_
        refine Wl_v (r_as (v := .int .i64 1) rfl) ?_
        refine Wl_v (r_as (v := .int .i64 0) rfl) ?_
        refine Wl_nil ?_
        refine W_ret ?_
        refine ret_end (v := .tuple #[.int .i64 1, .int .i64 0]) rfl (res2 Try.results30 rfl rfl) ?_
        have HM := hmk_frm (bs := bs) (p := p) (by omega) ((frm_iff (bs := bs) (p := p) (by omega)).2 ⟨q2, q3⟩)
        exact ⟨_, rfl, (vtup2 (by simp [HM]) (by simp [HM])), HU⟩
      · rw [decide_eq_false q3]
        refine W_cond_f rfl ?_
        refine W_seq ?_
        refine W_region ?_
        refine Wl_v (r_eq rfl rfl) ?_
        refine Wl_v (r_as (v := .bool (decide ((bs.getD (p + 3) 0) = 83))) rfl) ?_
        refine Wl_nil ?_
        by_cases q4 : (bs.getD (p + 3) 0) = 83
        · rw [decide_eq_true q4]
          refine W_cond_t rfl ?_
          refine W_seq ?_
          refine W_region ?_
          refine Wl_v (r_as (v := .int .i64 2) rfl) ?_
          refine Wl_v (r_as (v := .int .i64 0) rfl) ?_
          refine Wl_nil ?_
          refine W_ret ?_
          refine ret_end (v := .tuple #[.int .i64 2, .int .i64 0]) rfl (res2 Try.results30 rfl rfl) ?_
          have HM := hmk_skp (bs := bs) (p := p) (by omega) (fun h => q3 ((frm_iff (bs := bs) (p := p) (by omega)).1 h).2) ((skp_iff (bs := bs) (p := p) (by omega)).2 ⟨q2, q4⟩)
          exact ⟨_, rfl, (vtup2 (by simp [HM]) (by simp [HM])), HU⟩
        · rw [decide_eq_false q4]
          refine W_cond_f rfl ?_
          refine W_skip ?_
          refine W_seq ?_
          refine W_region ?_
          refine Wl_v (r_as (v := .int .i64 0) rfl) ?_
          refine Wl_v (r_as (v := .int .i64 6) rfl) ?_
          refine Wl_nil ?_
          refine W_ret ?_
          refine ret_end (v := .tuple #[.int .i64 0, .int .i64 6]) rfl (res2 Try.results30 rfl rfl) ?_
          have HM := hmk_no (bs := bs) (p := p) (by omega) (fun h => q3 ((frm_iff (bs := bs) (p := p) (by omega)).1 h).2) (fun h => q4 ((skp_iff (bs := bs) (p := p) (by omega)).1 h).2)
          exact ⟨_, rfl, (vtup2 (by simp [HM]) (by simp [HM])), HU⟩
    · rw [decide_eq_false q2]
      simp only [Bool.not_true, Bool.not_false]
      refine W_cond_t rfl ?_
      refine W_seq ?_
      refine W_region ?_
      refine Wl_v (r_as (v := .int .i64 0) rfl) ?_
      refine Wl_v (r_as (v := .int .i64 6) rfl) ?_
      refine Wl_nil ?_
      refine W_ret ?_
      refine ret_end (v := .tuple #[.int .i64 0, .int .i64 6]) rfl (res2 Try.results30 rfl rfl) ?_
      have HM := hmk_no (bs := bs) (p := p) (by omega) (fun h => q2 ((frm_iff (bs := bs) (p := p) (by omega)).1 h).1) (fun h => q2 ((skp_iff (bs := bs) (p := p) (by omega)).1 h).1)
      exact ⟨_, rfl, (vtup2 (by simp [HM]) (by simp [HM])), HU⟩

set_option maxRecDepth 100000 in
theorem get1_ok {Bt Bb : Nat} {x b : Int} {pb : Nat} {a : Option Addr} {n c p : Nat} {bs : List Int} (w : World) (ht : Blk w Bt [.pointer (some ⟨pb, 0, none⟩)]) (hbb : Blk w Bb [.int .u8 x]) (hp : Blk w pb [.slice a n c, .int .i64 ((p : Nat) : Int)]) (hs : Sl w (fun g => g < w.heap.size ∧ g ≠ pb) 1 (.slice a n c) n (ints .u8 bs)) (hb : Byt bs) (hpn : p ≤ n) (hn : n ≤ 140737488355328) (hd : Bt ≠ pb ∧ Bb ≠ pb ∧ Bb ≠ Bt) (hlt : p < n) (hx : bs.getD p 0 = b) (h8 : b < 8) :
    Calls Try.prog 44 #[.pointer (some ⟨Bt, 0, none⟩), .pointer (some ⟨Bb, 0, none⟩)] w (Ret fun v w' => v = .int .i64 0 ∧ Blk w' Bb [.int .u8 b] ∧ Blk w' pb [.slice a n c, .int .i64 ((p + 1 : Nat) : Int)] ∧ Upd (fun g => g = Bb ∨ g = pb) w w') := by
  have HU : Upd (fun b => b = Bb ∨ b = pb) w w := Upd.refl _ _
  have hbl_ht := ht.lt
  have hbl_hbb := hbb.lt
  have hbl_hp := hp.lt
  have hl_hs := ilen hs
  have hc_hs := hs.cap.1
  have hgb := byt_gd hb p
  rw [hx] at hgb
  refine calls_of_W Try.func44 rfl Try.ntmps44 (by simp) ?_
  refine W_seq ?_
  refine W_region ?_
  refine Wl_v (r_as (v := .int .i64 0) rfl) ?_
  refine Wl_nil ?_
  refine W_seq ?_
  refine W_region ?_
  refine Wl_load (v := .pointer (some ⟨pb, 0, none⟩)) Try.isAgg41 rfl ht rfl ?_
  refine Wl_call (r_call1 rfl Try.call45 rfl) (byte_in _ hp (hs.cur (by intro h1; have h3 : (pb < w.heap.size ∧ pb ≠ pb) := h1; first | omega | simp at h3)) hb (by omega) (by omega) (by omega)) ?_
  rintro v w1 ⟨rfl, hp1, hU1⟩
  have hzw1 := hU1.size
  replace ht := ht.upd1 hU1 (by omega)
  replace hbb := hbb.upd1 hU1 (by omega)
  replace hs := hs.upd1 hU1 (by intro h1; have h3 : (pb < w.heap.size ∧ pb ≠ pb) := h1; omega)
  replace HU := HU.trans1 hU1 (by show (pb = Bb ∨ pb = pb) ∨ w.heap.size ≤ pb; omega)
  have hbl_hp1 := hp1.lt
  refine Wl_v (r_mv (v := .tuple #[.int .u8 (bs.getD p 0), .int .i64 0]) rfl) ?_
  refine Wl_v (r_ext (v := .int .u8 (bs.getD p 0)) rfl rfl) ?_
  rw [hx]
  refine Wl_v (r_ext (v := .int .i64 0) rfl rfl) ?_
  refine Wl_store (v := .int .u8 b) (cs' := [.int .u8 b]) Try.sizeOf5 rfl rfl rfl rfl hbb rfl rfl ?_
  intro w2 hU2 hzz2 hbbn
  replace hbb := hbbn; clear hbbn
  have hzw2 := hU2.size
  replace ht := ht.upd1 hU2 (by omega)
  replace HU := HU.trans1 hU2 (by show (Bb = Bb ∨ Bb = pb) ∨ w.heap.size ≤ Bb; omega)
  replace hp1 := hp1.upd1 hU2 (by omega)
  refine Wl_v (r_as (v := .int .i64 0) rfl) ?_
  refine Wl_nil ?_
  refine W_seq ?_
  refine W_seq ?_
  refine W_region ?_
  refine Wl_v (r_mv (v := .int .i64 0) rfl) ?_
  refine Wl_v (v := .bool true) (r_eq (a := 0) (b := 0) rfl rfl) ?_
  refine Wl_v (r_mv (v := .bool true) rfl) ?_
  refine Wl_guard_t rfl ?_
  refine Wl_load (v := .int .u8 b) Try.isAgg5 rfl hbb rfl ?_
  refine Wl_guard_t rfl ?_
  refine Wl_v (r_ge rfl rfl) ?_
  refine Wl_v (r_pick_t (v := .bool (decide (8 ≤ b))) rfl rfl) ?_
  refine Wl_nil ?_
  have q1 : ¬ (8 ≤ b) := (by omega)
  rw [decide_eq_false q1]
  refine W_cond_f rfl ?_
  refine W_skip ?_
  refine W_seq ?_
  refine W_region ?_
  refine Wl_v (r_mv (v := .int .i64 0) rfl) ?_
  refine Wl_v (r_as (v := .int .i64 0) rfl) ?_
  refine Wl_nil ?_
  refine W_ret ?_
  refine ret_end (v := .int .i64 0) rfl (res1 Try.results44 rfl) ?_
  exact ⟨_, rfl, rfl, hbb, hp1, HU⟩

set_option maxRecDepth 100000 in
theorem get1_bad {Bt Bb : Nat} {x b : Int} {pb : Nat} {a : Option Addr} {n c p : Nat} {bs : List Int} (w : World) (ht : Blk w Bt [.pointer (some ⟨pb, 0, none⟩)]) (hbb : Blk w Bb [.int .u8 x]) (hp : Blk w pb [.slice a n c, .int .i64 ((p : Nat) : Int)]) (hs : Sl w (fun g => g < w.heap.size ∧ g ≠ pb) 1 (.slice a n c) n (ints .u8 bs)) (hb : Byt bs) (hpn : p ≤ n) (hn : n ≤ 140737488355328) (hd : Bt ≠ pb ∧ Bb ≠ pb ∧ Bb ≠ Bt) (hlt : p < n) (hx : bs.getD p 0 = b) (h8 : 8 ≤ b) :
    Calls Try.prog 44 #[.pointer (some ⟨Bt, 0, none⟩), .pointer (some ⟨Bb, 0, none⟩)] w (Ret fun v w' => v = .int .i64 7 ∧ Blk w' Bb [.int .u8 b] ∧ Blk w' pb [.slice a n c, .int .i64 ((p + 1 : Nat) : Int)] ∧ Upd (fun g => g = Bb ∨ g = pb) w w') := by
  have HU : Upd (fun b => b = Bb ∨ b = pb) w w := Upd.refl _ _
  have hbl_ht := ht.lt
  have hbl_hbb := hbb.lt
  have hbl_hp := hp.lt
  have hl_hs := ilen hs
  have hc_hs := hs.cap.1
  have hgb := byt_gd hb p
  rw [hx] at hgb
  refine calls_of_W Try.func44 rfl Try.ntmps44 (by simp) ?_
  refine W_seq ?_
  refine W_region ?_
  refine Wl_v (r_as (v := .int .i64 0) rfl) ?_
  refine Wl_nil ?_
  refine W_seq ?_
  refine W_region ?_
  refine Wl_load (v := .pointer (some ⟨pb, 0, none⟩)) Try.isAgg41 rfl ht rfl ?_
  refine Wl_call (r_call1 rfl Try.call45 rfl) (byte_in _ hp (hs.cur (by intro h1; have h3 : (pb < w.heap.size ∧ pb ≠ pb) := h1; first | omega | simp at h3)) hb (by omega) (by omega) (by omega)) ?_
  rintro v w1 ⟨rfl, hp1, hU1⟩
  have hzw1 := hU1.size
  replace ht := ht.upd1 hU1 (by omega)
  replace hbb := hbb.upd1 hU1 (by omega)
  replace hs := hs.upd1 hU1 (by intro h1; have h3 : (pb < w.heap.size ∧ pb ≠ pb) := h1; omega)
  replace HU := HU.trans1 hU1 (by show (pb = Bb ∨ pb = pb) ∨ w.heap.size ≤ pb; omega)
  have hbl_hp1 := hp1.lt
  refine Wl_v (r_mv (v := .tuple #[.int .u8 (bs.getD p 0), .int .i64 0]) rfl) ?_
  refine Wl_v (r_ext (v := .int .u8 (bs.getD p 0)) rfl rfl) ?_
  rw [hx]
  refine Wl_v (r_ext (v := .int .i64 0) rfl rfl) ?_
  refine Wl_store (v := .int .u8 b) (cs' := [.int .u8 b]) Try.sizeOf5 rfl rfl rfl rfl hbb rfl rfl ?_
  intro w2 hU2 hzz2 hbbn
  replace hbb := hbbn; clear hbbn
  have hzw2 := hU2.size
  replace ht := ht.upd1 hU2 (by omega)
  replace HU := HU.trans1 hU2 (by show (Bb = Bb ∨ Bb = pb) ∨ w.heap.size ≤ Bb; omega)
  replace hp1 := hp1.upd1 hU2 (by omega)
  refine Wl_v (r_as (v := .int .i64 0) rfl) ?_
  refine Wl_nil ?_
  refine W_seq ?_
  refine W_seq ?_
  refine W_region ?_
  refine Wl_v (r_mv (v := .int .i64 0) rfl) ?_
  refine Wl_v (v := .bool true) (r_eq (a := 0) (b := 0) rfl rfl) ?_
  refine Wl_v (r_mv (v := .bool true) rfl) ?_
  refine Wl_guard_t rfl ?_
  refine Wl_load (v := .int .u8 b) Try.isAgg5 rfl hbb rfl ?_
  refine Wl_guard_t rfl ?_
  refine Wl_v (r_ge rfl rfl) ?_
  refine Wl_v (r_pick_t (v := .bool (decide (8 ≤ b))) rfl rfl) ?_
  refine Wl_nil ?_
  have q1 : 8 ≤ b := (by omega)
  rw [decide_eq_true q1]
  refine W_cond_t rfl ?_
  refine W_region ?_
  refine Wl_v (r_as (v := .int .i64 7) rfl) ?_
  refine Wl_nil ?_
  refine W_seq ?_
  refine W_region ?_
  refine Wl_v (r_mv (v := .int .i64 7) rfl) ?_
  refine Wl_v (r_as (v := .int .i64 7) rfl) ?_
  refine Wl_nil ?_
  refine W_ret ?_
  refine ret_end (v := .int .i64 7) rfl (res1 Try.results44 rfl) ?_
  exact ⟨_, rfl, rfl, hbb, hp1, HU⟩

set_option maxRecDepth 100000 in
theorem get1_end {Bt Bb : Nat} {x : Int} {pb : Nat} {a : Option Addr} {n c p : Nat} {bs : List Int} (w : World) (ht : Blk w Bt [.pointer (some ⟨pb, 0, none⟩)]) (hbb : Blk w Bb [.int .u8 x]) (hp : Blk w pb [.slice a n c, .int .i64 ((p : Nat) : Int)]) (hs : Sl w (fun g => g < w.heap.size ∧ g ≠ pb) 1 (.slice a n c) n (ints .u8 bs)) (hb : Byt bs) (hpn : p ≤ n) (hn : n ≤ 140737488355328) (hd : Bt ≠ pb ∧ Bb ≠ pb ∧ Bb ≠ Bt) (hlt : ¬ p < n) :
    Calls Try.prog 44 #[.pointer (some ⟨Bt, 0, none⟩), .pointer (some ⟨Bb, 0, none⟩)] w (Ret fun v w' => v = .int .i64 3 ∧ Blk w' Bb [.int .u8 0] ∧ Blk w' pb [.slice a n c, .int .i64 ((p : Nat) : Int)] ∧ Upd (fun g => g = Bb ∨ g = pb) w w') := by
  have HU : Upd (fun b => b = Bb ∨ b = pb) w w := Upd.refl _ _
  have hbl_ht := ht.lt
  have hbl_hbb := hbb.lt
  have hbl_hp := hp.lt
  have hl_hs := ilen hs
  have hc_hs := hs.cap.1
  refine calls_of_W Try.func44 rfl Try.ntmps44 (by simp) ?_
  refine W_seq ?_
  refine W_region ?_
  refine Wl_v (r_as (v := .int .i64 0) rfl) ?_
  refine Wl_nil ?_
  refine W_seq ?_
  refine W_region ?_
  refine Wl_load (v := .pointer (some ⟨pb, 0, none⟩)) Try.isAgg41 rfl ht rfl ?_
  refine Wl_call (r_call1 rfl Try.call45 rfl) (byte_end _ hp (hs.cur (by intro h1; have h3 : (pb < w.heap.size ∧ pb ≠ pb) := h1; first | omega | simp at h3)) hb (by omega) (by omega) (by omega)) ?_
  rintro v w1 ⟨rfl, hp1, hU1⟩
  have hzw1 := hU1.size
  replace ht := ht.upd1 hU1 (by omega)
  replace hbb := hbb.upd1 hU1 (by omega)
  replace hs := hs.upd1 hU1 (by intro h1; have h3 : (pb < w.heap.size ∧ pb ≠ pb) := h1; omega)
  replace HU := HU.trans1 hU1 (by show (pb = Bb ∨ pb = pb) ∨ w.heap.size ≤ pb; omega)
  have hbl_hp1 := hp1.lt
  refine Wl_v (r_mv (v := .tuple #[.int .u8 0, .int .i64 3]) rfl) ?_
  refine Wl_v (r_ext (v := .int .u8 0) rfl rfl) ?_
  refine Wl_v (r_ext (v := .int .i64 3) rfl rfl) ?_
  refine Wl_store (v := .int .u8 0) (cs' := [.int .u8 0]) Try.sizeOf5 rfl rfl rfl rfl hbb rfl rfl ?_
  intro w2 hU2 hzz2 hbbn
  replace hbb := hbbn; clear hbbn
  have hzw2 := hU2.size
  replace ht := ht.upd1 hU2 (by omega)
  replace HU := HU.trans1 hU2 (by show (Bb = Bb ∨ Bb = pb) ∨ w.heap.size ≤ Bb; omega)
  replace hp1 := hp1.upd1 hU2 (by omega)
  refine Wl_v (r_as (v := .int .i64 3) rfl) ?_
  refine Wl_nil ?_
  refine W_seq ?_
  refine W_seq ?_
  refine W_region ?_
  refine Wl_v (r_mv (v := .int .i64 3) rfl) ?_
  refine Wl_v (v := .bool false) (r_eq (a := 3) (b := 0) rfl rfl) ?_
  refine Wl_v (r_mv (v := .bool false) rfl) ?_
  refine Wl_guard_f rfl ?_
  refine Wl_guard_f rfl ?_
  refine Wl_v (r_pick_f (v := .bool false) rfl rfl) ?_
  refine Wl_nil ?_
  refine W_cond_f rfl ?_
  refine W_skip ?_
  refine W_seq ?_
  refine W_region ?_
  refine Wl_v (r_mv (v := .int .i64 3) rfl) ?_
  refine Wl_v (r_as (v := .int .i64 3) rfl) ?_
  refine Wl_nil ?_
  refine W_ret ?_
  refine ret_end (v := .int .i64 3) rfl (res1 Try.results44 rfl) ?_
  exact ⟨_, rfl, rfl, hbb, hp1, HU⟩

set_option maxRecDepth 100000 in
theorem get2_ok {Bt Bh : Nat} {b : Int} {pb : Nat} {a : Option Addr} {n c p : Nat} {bs : List Int} (w : World) (ht : Blk w Bt [.pointer (some ⟨pb, 0, none⟩)]) (hh : Blk w Bh [.int .i64 0, .int .i64 (-1), .int .u32 0, .bool false]) (hp : Blk w pb [.slice a n c, .int .i64 ((p : Nat) : Int)]) (hs : Sl w (fun g => g < w.heap.size ∧ g ≠ pb) 1 (.slice a n c) n (ints .u8 bs)) (hb : Byt bs) (hpn : p ≤ n) (hn : n ≤ 140737488355328) (hd : Bt ≠ pb ∧ Bh ≠ pb ∧ Bh ≠ Bt) (hlt : p < n) (hx : bs.getD p 0 = b) (h8 : b ≤ 136) :
    Calls Try.prog 46 #[.pointer (some ⟨Bt, 0, none⟩), .pointer (some ⟨Bh, 0, none⟩)] w (Ret fun v w' => v = .int .i64 0 ∧ Blk w' Bh [.int .i64 (hw b), .int .i64 (-1), .int .u32 0, .bool false] ∧ Blk w' pb [.slice a n c, .int .i64 ((p + 1 : Nat) : Int)] ∧ Upd (fun g => g = Bh ∨ g = pb) w w') := by
  have HU : Upd (fun b => b = Bh ∨ b = pb) w w := Upd.refl _ _
  have hbl_ht := ht.lt
  have hbl_hh := hh.lt
  have hbl_hp := hp.lt
  have hl_hs := ilen hs
  have hc_hs := hs.cap.1
  have hgb := byt_gd hb p
  rw [hx] at hgb
  refine calls_of_W Try.func46 rfl Try.ntmps46 (by simp) ?_
  refine W_seq ?_
  refine W_region ?_
  refine Wl_v (r_as (v := .int .i64 0) rfl) ?_
  refine Wl_nil ?_
  refine W_seq ?_
  refine W_region ?_
  refine Wl_load (v := .pointer (some ⟨pb, 0, none⟩)) Try.isAgg41 rfl ht rfl ?_
  refine Wl_call (r_call1 rfl Try.call45 rfl) (byte_in _ hp (hs.cur (by intro h1; have h3 : (pb < w.heap.size ∧ pb ≠ pb) := h1; first | omega | simp at h3)) hb (by omega) (by omega) (by omega)) ?_
  rintro v w1 ⟨rfl, hp1, hU1⟩
  have hzw1 := hU1.size
  replace ht := ht.upd1 hU1 (by omega)
  replace hh := hh.upd1 hU1 (by omega)
  replace hs := hs.upd1 hU1 (by intro h1; have h3 : (pb < w.heap.size ∧ pb ≠ pb) := h1; omega)
  replace HU := HU.trans1 hU1 (by show (pb = Bh ∨ pb = pb) ∨ w.heap.size ≤ pb; omega)
  have hbl_hp1 := hp1.lt
  refine Wl_v (r_mv (v := .tuple #[.int .u8 (bs.getD p 0), .int .i64 0]) rfl) ?_
  refine Wl_v (r_ext (v := .int .u8 (bs.getD p 0)) rfl rfl) ?_
  rw [hx]
  refine Wl_v (r_ext (v := .int .i64 0) rfl rfl) ?_
  refine Wl_v (r_as (v := .int .u8 b) rfl) ?_
  refine Wl_v (r_as (v := .int .i64 0) rfl) ?_
  refine Wl_nil ?_
  refine W_seq ?_
  refine W_seq ?_
  refine W_region ?_
  refine Wl_v (r_mv (v := .int .i64 0) rfl) ?_
  refine Wl_v (v := .bool true) (r_eq (a := 0) (b := 0) rfl rfl) ?_
  refine Wl_nil ?_
  refine W_cond_t rfl ?_
  refine W_region ?_
  refine Wl_v (r_mv (v := .int .u8 b) rfl) ?_
  refine Wl_call (r_call1 rfl Try.call13 rfl) (window_ok _ (by omega)) ?_
  rintro v w2 ⟨rfl, hU2⟩
  have hzw2 := hU2.size
  replace ht := ht.upd0 hU2
  replace hh := hh.upd0 hU2
  replace HU := HU.trans0 hU2
  replace hp1 := hp1.upd0 hU2
  refine Wl_v (r_mv (v := .tuple #[.int .i64 (hw b), .int .i64 0]) rfl) ?_
  refine Wl_v (r_ext (v := .int .i64 (hw b)) rfl rfl) ?_
  refine Wl_v (r_ext (v := .int .i64 0) rfl rfl) ?_
  refine Wl_v (r_fld Try.underlying34 rfl Try.sizeOf3 rfl rfl) ?_
  refine Wl_store (v := .int .i64 (hw b)) (cs' := [.int .i64 (hw b), .int .i64 (-1), .int .u32 0, .bool false]) Try.sizeOf3 rfl rfl rfl rfl hh rfl rfl ?_
  intro w3 hU3 hzz3 hhn
  replace hh := hhn; clear hhn
  have hzw3 := hU3.size
  replace ht := ht.upd1 hU3 (by omega)
  replace HU := HU.trans1 hU3 (by show (Bh = Bh ∨ Bh = pb) ∨ w.heap.size ≤ Bh; omega)
  replace hp1 := hp1.upd1 hU3 (by omega)
  refine Wl_v (r_as (v := .int .i64 0) rfl) ?_
  refine Wl_nil ?_
  refine W_seq ?_
  refine W_region ?_
  refine Wl_v (r_mv (v := .int .i64 0) rfl) ?_
  refine Wl_v (r_as (v := .int .i64 0) rfl) ?_
  refine Wl_nil ?_
  refine W_ret ?_
  refine ret_end (v := .int .i64 0) rfl (res1 Try.results46 rfl) ?_
  exact ⟨_, rfl, rfl, hh, hp1, HU⟩

set_option maxRecDepth 100000 in
theorem get2_bad {Bt Bh : Nat} {b : Int} {pb : Nat} {a : Option Addr} {n c p : Nat} {bs : List Int} (w : World) (ht : Blk w Bt [.pointer (some ⟨pb, 0, none⟩)]) (hh : Blk w Bh [.int .i64 0, .int .i64 (-1), .int .u32 0, .bool false]) (hp : Blk w pb [.slice a n c, .int .i64 ((p : Nat) : Int)]) (hs : Sl w (fun g => g < w.heap.size ∧ g ≠ pb) 1 (.slice a n c) n (ints .u8 bs)) (hb : Byt bs) (hpn : p ≤ n) (hn : n ≤ 140737488355328) (hd : Bt ≠ pb ∧ Bh ≠ pb ∧ Bh ≠ Bt) (hlt : p < n) (hx : bs.getD p 0 = b) (h8 : 136 < b) :
    Calls Try.prog 46 #[.pointer (some ⟨Bt, 0, none⟩), .pointer (some ⟨Bh, 0, none⟩)] w (Ret fun v w' => v = .int .i64 7 ∧ Blk w' Bh [.int .i64 0, .int .i64 (-1), .int .u32 0, .bool false] ∧ Blk w' pb [.slice a n c, .int .i64 ((p + 1 : Nat) : Int)] ∧ Upd (fun g => g = Bh ∨ g = pb) w w') := by
  have HU : Upd (fun b => b = Bh ∨ b = pb) w w := Upd.refl _ _
  have hbl_ht := ht.lt
  have hbl_hh := hh.lt
  have hbl_hp := hp.lt
  have hl_hs := ilen hs
  have hc_hs := hs.cap.1
  have hgb := byt_gd hb p
  rw [hx] at hgb
  refine calls_of_W Try.func46 rfl Try.ntmps46 (by simp) ?_
  refine W_seq ?_
  refine W_region ?_
  refine Wl_v (r_as (v := .int .i64 0) rfl) ?_
  refine Wl_nil ?_
  refine W_seq ?_
  refine W_region ?_
  refine Wl_load (v := .pointer (some ⟨pb, 0, none⟩)) Try.isAgg41 rfl ht rfl ?_
  refine Wl_call (r_call1 rfl Try.call45 rfl) (byte_in _ hp (hs.cur (by intro h1; have h3 : (pb < w.heap.size ∧ pb ≠ pb) := h1; first | omega | simp at h3)) hb (by omega) (by omega) (by omega)) ?_
  rintro v w1 ⟨rfl, hp1, hU1⟩
  have hzw1 := hU1.size
  replace ht := ht.upd1 hU1 (by omega)
  replace hh := hh.upd1 hU1 (by omega)
  replace hs := hs.upd1 hU1 (by intro h1; have h3 : (pb < w.heap.size ∧ pb ≠ pb) := h1; omega)
  replace HU := HU.trans1 hU1 (by show (pb = Bh ∨ pb = pb) ∨ w.heap.size ≤ pb; omega)
  have hbl_hp1 := hp1.lt
  refine Wl_v (r_mv (v := .tuple #[.int .u8 (bs.getD p 0), .int .i64 0]) rfl) ?_
  refine Wl_v (r_ext (v := .int .u8 (bs.getD p 0)) rfl rfl) ?_
  rw [hx]
  refine Wl_v (r_ext (v := .int .i64 0) rfl rfl) ?_
  refine Wl_v (r_as (v := .int .u8 b) rfl) ?_
  refine Wl_v (r_as (v := .int .i64 0) rfl) ?_
  refine Wl_nil ?_
  refine W_seq ?_
  refine W_seq ?_
  refine W_region ?_
  refine Wl_v (r_mv (v := .int .i64 0) rfl) ?_
  refine Wl_v (v := .bool true) (r_eq (a := 0) (b := 0) rfl rfl) ?_
  refine Wl_nil ?_
  refine W_cond_t rfl ?_
  refine W_region ?_
  refine Wl_v (r_mv (v := .int .u8 b) rfl) ?_
  refine Wl_call (r_call1 rfl Try.call13 rfl) (window_no _ (by omega)) ?_
  rintro v w2 ⟨rfl, hU2⟩
  have hzw2 := hU2.size
  replace ht := ht.upd0 hU2
  replace hh := hh.upd0 hU2
  replace HU := HU.trans0 hU2
  replace hp1 := hp1.upd0 hU2
  refine Wl_v (r_mv (v := .tuple #[.int .i64 0, .int .i64 7]) rfl) ?_
  refine Wl_v (r_ext (v := .int .i64 0) rfl rfl) ?_
  refine Wl_v (r_ext (v := .int .i64 7) rfl rfl) ?_
  refine Wl_v (r_fld Try.underlying34 rfl Try.sizeOf3 rfl rfl) ?_
  refine Wl_store (v := .int .i64 0) (cs' := [.int .i64 0, .int .i64 (-1), .int .u32 0, .bool false]) Try.sizeOf3 rfl rfl rfl rfl hh rfl rfl ?_
  intro w3 hU3 hzz3 hhn
  replace hh := hhn; clear hhn
  have hzw3 := hU3.size
  replace ht := ht.upd1 hU3 (by omega)
  replace HU := HU.trans1 hU3 (by show (Bh = Bh ∨ Bh = pb) ∨ w.heap.size ≤ Bh; omega)
  replace hp1 := hp1.upd1 hU3 (by omega)
  refine Wl_v (r_as (v := .int .i64 7) rfl) ?_
  refine Wl_nil ?_
  refine W_seq ?_
  refine W_region ?_
  refine Wl_v (r_mv (v := .int .i64 7) rfl) ?_
  refine Wl_v (r_as (v := .int .i64 7) rfl) ?_
  refine Wl_nil ?_
  refine W_ret ?_
  refine ret_end (v := .int .i64 7) rfl (res1 Try.results46 rfl) ?_
  exact ⟨_, rfl, rfl, hh, hp1, HU⟩

set_option maxRecDepth 100000 in
theorem get2_end {Bt Bh : Nat} {pb : Nat} {a : Option Addr} {n c p : Nat} {bs : List Int} (w : World) (ht : Blk w Bt [.pointer (some ⟨pb, 0, none⟩)]) (hh : Blk w Bh [.int .i64 0, .int .i64 (-1), .int .u32 0, .bool false]) (hp : Blk w pb [.slice a n c, .int .i64 ((p : Nat) : Int)]) (hs : Sl w (fun g => g < w.heap.size ∧ g ≠ pb) 1 (.slice a n c) n (ints .u8 bs)) (hb : Byt bs) (hpn : p ≤ n) (hn : n ≤ 140737488355328) (hd : Bt ≠ pb ∧ Bh ≠ pb ∧ Bh ≠ Bt) (hlt : ¬ p < n) :
    Calls Try.prog 46 #[.pointer (some ⟨Bt, 0, none⟩), .pointer (some ⟨Bh, 0, none⟩)] w (Ret fun v w' => v = .int .i64 3 ∧ Blk w' Bh [.int .i64 0, .int .i64 (-1), .int .u32 0, .bool false] ∧ Blk w' pb [.slice a n c, .int .i64 ((p : Nat) : Int)] ∧ Upd (fun g => g = Bh ∨ g = pb) w w') := by
  have HU : Upd (fun b => b = Bh ∨ b = pb) w w := Upd.refl _ _
  have hbl_ht := ht.lt
  have hbl_hh := hh.lt
  have hbl_hp := hp.lt
  have hl_hs := ilen hs
  have hc_hs := hs.cap.1
  refine calls_of_W Try.func46 rfl Try.ntmps46 (by simp) ?_
  refine W_seq ?_
  refine W_region ?_
  refine Wl_v (r_as (v := .int .i64 0) rfl) ?_
  refine Wl_nil ?_
  refine W_seq ?_
  refine W_region ?_
  refine Wl_load (v := .pointer (some ⟨pb, 0, none⟩)) Try.isAgg41 rfl ht rfl ?_
  refine Wl_call (r_call1 rfl Try.call45 rfl) (byte_end _ hp (hs.cur (by intro h1; have h3 : (pb < w.heap.size ∧ pb ≠ pb) := h1; first | omega | simp at h3)) hb (by omega) (by omega) (by omega)) ?_
  rintro v w1 ⟨rfl, hp1, hU1⟩
  have hzw1 := hU1.size
  replace ht := ht.upd1 hU1 (by omega)
  replace hh := hh.upd1 hU1 (by omega)
  replace hs := hs.upd1 hU1 (by intro h1; have h3 : (pb < w.heap.size ∧ pb ≠ pb) := h1; omega)
  replace HU := HU.trans1 hU1 (by show (pb = Bh ∨ pb = pb) ∨ w.heap.size ≤ pb; omega)
  have hbl_hp1 := hp1.lt
  refine Wl_v (r_mv (v := .tuple #[.int .u8 0, .int .i64 3]) rfl) ?_
  refine Wl_v (r_ext (v := .int .u8 0) rfl rfl) ?_
  refine Wl_v (r_ext (v := .int .i64 3) rfl rfl) ?_
  refine Wl_v (r_as (v := .int .u8 0) rfl) ?_
  refine Wl_v (r_as (v := .int .i64 3) rfl) ?_
  refine Wl_nil ?_
  refine W_seq ?_
  refine W_seq ?_
  refine W_region ?_
  refine Wl_v (r_mv (v := .int .i64 3) rfl) ?_
  refine Wl_v (v := .bool false) (r_eq (a := 3) (b := 0) rfl rfl) ?_
  refine Wl_nil ?_
  refine W_cond_f rfl ?_
  refine W_skip ?_
  refine W_seq ?_
  refine W_region ?_
  refine Wl_v (r_mv (v := .int .i64 3) rfl) ?_
  refine Wl_v (r_as (v := .int .i64 3) rfl) ?_
  refine Wl_nil ?_
  refine W_ret ?_
  refine ret_end (v := .int .i64 3) rfl (res1 Try.results46 rfl) ?_
  exact ⟨_, rfl, rfl, hh, hp1, HU⟩

set_option maxRecDepth 100000 in
theorem get3_skip {Bt Bb Bh : Nat} {b wz : Int} {pb : Nat} {a : Option Addr} {n c p : Nat} {bs : List Int} (w : World) (ht : Blk w Bt [.pointer (some ⟨pb, 0, none⟩)]) (hbb : Blk w Bb [.int .u8 b]) (hh : Blk w Bh [.int .i64 wz, .int .i64 (-1), .int .u32 0, .bool false]) (hp : Blk w pb [.slice a n c, .int .i64 ((p : Nat) : Int)]) (hs : Sl w (fun g => g < w.heap.size ∧ g ≠ pb) 1 (.slice a n c) n (ints .u8 bs)) (hb : Byt bs) (hpn : p ≤ n) (hn : n ≤ 140737488355328) (hd : Bt ≠ pb ∧ Bh ≠ pb ∧ Bh ≠ Bt ∧ Bb ≠ pb ∧ Bb ≠ Bt ∧ Bh ≠ Bb) (hbr : 0 ≤ b ∧ b < 8) (h4 : ¬ b / 4 = 1) :
    Calls Try.prog 47 #[.pointer (some ⟨Bb, 0, none⟩), .pointer (some ⟨Bt, 0, none⟩), .pointer (some ⟨Bh, 0, none⟩)] w (Ret fun v w' => v = .int .i64 0 ∧ Upd No w w') := by
  have HU : Upd (fun b => False) w w := Upd.refl _ _
  have hbl_ht := ht.lt
  have hbl_hbb := hbb.lt
  have hbl_hh := hh.lt
  have hbl_hp := hp.lt
  have hl_hs := ilen hs
  have hc_hs := hs.cap.1
  refine calls_of_W Try.func47 rfl Try.ntmps47 (by simp) ?_
  refine W_seq ?_
  refine W_region ?_
  refine Wl_v (r_as (v := .int .i64 0) rfl) ?_
  refine Wl_nil ?_
  refine W_seq ?_
  refine W_seq ?_
  refine W_region ?_
  refine Wl_load (v := .int .u8 b) Try.isAgg5 rfl hbb rfl ?_
  refine Wl_v (r_and rfl rfl (and4 (by omega) (by omega))) ?_
  refine Wl_v (r_ne rfl rfl) ?_
  refine Wl_nil ?_
  have q1 : ¬ ((b / 4 % 2 * 4) ≠ 0) := (by omega)
  rw [decide_eq_false q1]
  refine W_cond_f rfl ?_
  refine W_skip ?_
  refine W_seq ?_
  refine W_region ?_
  refine Wl_v (r_mv (v := .int .i64 0) rfl) ?_
  refine Wl_v (r_as (v := .int .i64 0) rfl) ?_
  refine Wl_nil ?_
  refine W_ret ?_
  refine ret_end (v := .int .i64 0) rfl (res1 Try.results47 rfl) ?_
  exact ⟨_, rfl, rfl, HU⟩

set_option maxRecDepth 100000 in
theorem get3_err {Bt Bb Bh q : Nat} {b wz dv er : Int} {pb : Nat} {a : Option Addr} {n c p : Nat} {bs : List Int} (w : World) (ht : Blk w Bt [.pointer (some ⟨pb, 0, none⟩)]) (hbb : Blk w Bb [.int .u8 b]) (hh : Blk w Bh [.int .i64 wz, .int .i64 (-1), .int .u32 0, .bool false]) (hp : Blk w pb [.slice a n c, .int .i64 ((p : Nat) : Int)]) (hs : Sl w (fun g => g < w.heap.size ∧ g ≠ pb) 1 (.slice a n c) n (ints .u8 bs)) (hb : Byt bs) (hpn : p ≤ n) (hn : n ≤ 140737488355328) (hd : Bt ≠ pb ∧ Bh ≠ pb ∧ Bh ≠ Bt ∧ Bb ≠ pb ∧ Bb ≠ Bt ∧ Bh ≠ Bb) (hbr : 0 ≤ b ∧ b < 8) (h4 : b / 4 = 1) (hg : gword bs p = (dv, q, er)) (h8 : er ≠ 0) :
    Calls Try.prog 47 #[.pointer (some ⟨Bb, 0, none⟩), .pointer (some ⟨Bt, 0, none⟩), .pointer (some ⟨Bh, 0, none⟩)] w (Ret fun v w' => v = .int .i64 er ∧ Blk w' Bh [.int .i64 wz, .int .i64 (-1), .int .u32 dv, .bool false] ∧ Blk w' pb [.slice a n c, .int .i64 ((q : Nat) : Int)] ∧ Upd (fun g => g = Bh ∨ g = pb) w w') := by
  have HU : Upd (fun b => b = Bh ∨ b = pb) w w := Upd.refl _ _
  have hbl_ht := ht.lt
  have hbl_hbb := hbb.lt
  have hbl_hh := hh.lt
  have hbl_hp := hp.lt
  have hl_hs := ilen hs
  have hc_hs := hs.cap.1
  refine calls_of_W Try.func47 rfl Try.ntmps47 (by simp) ?_
  refine W_seq ?_
  refine W_region ?_
  refine Wl_v (r_as (v := .int .i64 0) rfl) ?_
  refine Wl_nil ?_
  refine W_seq ?_
  refine W_seq ?_
  refine W_region ?_
  refine Wl_load (v := .int .u8 b) Try.isAgg5 rfl hbb rfl ?_
  refine Wl_v (r_and rfl rfl (and4 (by omega) (by omega))) ?_
  refine Wl_v (r_ne rfl rfl) ?_
  refine Wl_nil ?_
  have q1 : (b / 4 % 2 * 4) ≠ 0 := (by omega)
  rw [decide_eq_true q1]
  refine W_cond_t rfl ?_
  refine W_seq ?_
  refine W_region ?_
  refine Wl_load (v := .pointer (some ⟨pb, 0, none⟩)) Try.isAgg41 rfl ht rfl ?_
  refine Wl_call (r_call1 rfl Try.call48 rfl) (cword_at (x := dv) (q := q) (er := er) _ hp (hs.cur (by intro h1; have h3 : (pb < w.heap.size ∧ pb ≠ pb) := h1; first | omega | simp at h3)) hb (by omega) (by omega) hg) ?_
  rintro v w1 ⟨rfl, hp1, hU1⟩
  have hzw1 := hU1.size
  replace ht := ht.upd1 hU1 (by omega)
  replace hbb := hbb.upd1 hU1 (by omega)
  replace hh := hh.upd1 hU1 (by omega)
  replace hs := hs.upd1 hU1 (by intro h1; have h3 : (pb < w.heap.size ∧ pb ≠ pb) := h1; omega)
  replace HU := HU.trans1 hU1 (by show (pb = Bh ∨ pb = pb) ∨ w.heap.size ≤ pb; omega)
  have hbl_hp1 := hp1.lt
  refine Wl_v (r_mv (v := .tuple #[.int .u32 dv, .int .i64 er]) rfl) ?_
  refine Wl_v (r_ext (v := .int .u32 dv) rfl rfl) ?_
  refine Wl_v (r_ext (v := .int .i64 er) rfl rfl) ?_
  refine Wl_v (r_fld Try.underlying34 rfl Try.sizeOf32 rfl rfl) ?_
  refine Wl_store (v := .int .u32 dv) (cs' := [.int .i64 wz, .int .i64 (-1), .int .u32 dv, .bool false]) Try.sizeOf32 rfl rfl rfl rfl hh rfl rfl ?_
  intro w2 hU2 hzz2 hhn
  replace hh := hhn; clear hhn
  have hzw2 := hU2.size
  replace ht := ht.upd1 hU2 (by omega)
  replace hbb := hbb.upd1 hU2 (by omega)
  replace HU := HU.trans1 hU2 (by show (Bh = Bh ∨ Bh = pb) ∨ w.heap.size ≤ Bh; omega)
  replace hp1 := hp1.upd1 hU2 (by omega)
  refine Wl_v (r_as (v := .int .i64 er) rfl) ?_
  refine Wl_nil ?_
  refine W_seq ?_
  refine W_region ?_
  refine Wl_v (r_mv (v := .int .i64 er) rfl) ?_
  refine Wl_v (r_eq rfl rfl) ?_
  refine Wl_v (r_mv (v := .bool (decide (er = 0))) rfl) ?_
  have q2 : ¬ (er = 0) := (by omega)
  rw [decide_eq_false q2]
  refine Wl_guard_f rfl ?_
  refine Wl_guard_f rfl ?_
  refine Wl_guard_f rfl ?_
  refine Wl_v (r_pick_f (v := .bool false) rfl rfl) ?_
  refine Wl_nil ?_
  refine W_cond_f rfl ?_
  refine W_skip ?_
  refine W_seq ?_
  refine W_region ?_
  refine Wl_v (r_mv (v := .int .i64 er) rfl) ?_
  refine Wl_v (r_as (v := .int .i64 er) rfl) ?_
  refine Wl_nil ?_
  refine W_ret ?_
  refine ret_end (v := .int .i64 er) rfl (res1 Try.results47 rfl) ?_
  exact ⟨_, rfl, rfl, hh, hp1, HU⟩

set_option maxRecDepth 100000 in
theorem get3_zero {Bt Bb Bh q : Nat} {b wz dv er : Int} {pb : Nat} {a : Option Addr} {n c p : Nat} {bs : List Int} (w : World) (ht : Blk w Bt [.pointer (some ⟨pb, 0, none⟩)]) (hbb : Blk w Bb [.int .u8 b]) (hh : Blk w Bh [.int .i64 wz, .int .i64 (-1), .int .u32 0, .bool false]) (hp : Blk w pb [.slice a n c, .int .i64 ((p : Nat) : Int)]) (hs : Sl w (fun g => g < w.heap.size ∧ g ≠ pb) 1 (.slice a n c) n (ints .u8 bs)) (hb : Byt bs) (hpn : p ≤ n) (hn : n ≤ 140737488355328) (hd : Bt ≠ pb ∧ Bh ≠ pb ∧ Bh ≠ Bt ∧ Bb ≠ pb ∧ Bb ≠ Bt ∧ Bh ≠ Bb) (hbr : 0 ≤ b ∧ b < 8) (h4 : b / 4 = 1) (hg : gword bs p = (dv, q, er)) (h8 : er = 0 ∧ dv = 0) :
    Calls Try.prog 47 #[.pointer (some ⟨Bb, 0, none⟩), .pointer (some ⟨Bt, 0, none⟩), .pointer (some ⟨Bh, 0, none⟩)] w (Ret fun v w' => v = .int .i64 7 ∧ Blk w' Bh [.int .i64 wz, .int .i64 (-1), .int .u32 dv, .bool false] ∧ Blk w' pb [.slice a n c, .int .i64 ((q : Nat) : Int)] ∧ Upd (fun g => g = Bh ∨ g = pb) w w') := by
  have HU : Upd (fun b => b = Bh ∨ b = pb) w w := Upd.refl _ _
  have hbl_ht := ht.lt
  have hbl_hbb := hbb.lt
  have hbl_hh := hh.lt
  have hbl_hp := hp.lt
  have hl_hs := ilen hs
  have hc_hs := hs.cap.1
  refine calls_of_W Try.func47 rfl Try.ntmps47 (by simp) ?_
  refine W_seq ?_
  refine W_region ?_
  refine Wl_v (r_as (v := .int .i64 0) rfl) ?_
  refine Wl_nil ?_
  refine W_seq ?_
  refine W_seq ?_
  refine W_region ?_
  refine Wl_load (v := .int .u8 b) Try.isAgg5 rfl hbb rfl ?_
  refine Wl_v (r_and rfl rfl (and4 (by omega) (by omega))) ?_
  refine Wl_v (r_ne rfl rfl) ?_
  refine Wl_nil ?_
  have q1 : (b / 4 % 2 * 4) ≠ 0 := (by omega)
  rw [decide_eq_true q1]
  refine W_cond_t rfl ?_
  refine W_seq ?_
  refine W_region ?_
  refine Wl_load (v := .pointer (some ⟨pb, 0, none⟩)) Try.isAgg41 rfl ht rfl ?_
  refine Wl_call (r_call1 rfl Try.call48 rfl) (cword_at (x := dv) (q := q) (er := er) _ hp (hs.cur (by intro h1; have h3 : (pb < w.heap.size ∧ pb ≠ pb) := h1; first | omega | simp at h3)) hb (by omega) (by omega) hg) ?_
  rintro v w1 ⟨rfl, hp1, hU1⟩
  have hzw1 := hU1.size
  replace ht := ht.upd1 hU1 (by omega)
  replace hbb := hbb.upd1 hU1 (by omega)
  replace hh := hh.upd1 hU1 (by omega)
  replace hs := hs.upd1 hU1 (by intro h1; have h3 : (pb < w.heap.size ∧ pb ≠ pb) := h1; omega)
  replace HU := HU.trans1 hU1 (by show (pb = Bh ∨ pb = pb) ∨ w.heap.size ≤ pb; omega)
  have hbl_hp1 := hp1.lt
  refine Wl_v (r_mv (v := .tuple #[.int .u32 dv, .int .i64 er]) rfl) ?_
  refine Wl_v (r_ext (v := .int .u32 dv) rfl rfl) ?_
  refine Wl_v (r_ext (v := .int .i64 er) rfl rfl) ?_
  refine Wl_v (r_fld Try.underlying34 rfl Try.sizeOf32 rfl rfl) ?_
  refine Wl_store (v := .int .u32 dv) (cs' := [.int .i64 wz, .int .i64 (-1), .int .u32 dv, .bool false]) Try.sizeOf32 rfl rfl rfl rfl hh rfl rfl ?_
  intro w2 hU2 hzz2 hhn
  replace hh := hhn; clear hhn
  have hzw2 := hU2.size
  replace ht := ht.upd1 hU2 (by omega)
  replace hbb := hbb.upd1 hU2 (by omega)
  replace HU := HU.trans1 hU2 (by show (Bh = Bh ∨ Bh = pb) ∨ w.heap.size ≤ Bh; omega)
  replace hp1 := hp1.upd1 hU2 (by omega)
  refine Wl_v (r_as (v := .int .i64 er) rfl) ?_
  refine Wl_nil ?_
  refine W_seq ?_
  refine W_region ?_
  refine Wl_v (r_mv (v := .int .i64 er) rfl) ?_
  refine Wl_v (r_eq rfl rfl) ?_
  refine Wl_v (r_mv (v := .bool (decide (er = 0))) rfl) ?_
  have q2 : er = 0 := h8.1
  rw [decide_eq_true q2]
  refine Wl_guard_t rfl ?_
  refine Wl_v (r_fld Try.underlying34 rfl Try.sizeOf32 rfl rfl) ?_
  refine Wl_guard_t rfl ?_
  refine Wl_load (v := .int .u32 dv) Try.isAgg32 rfl hh rfl ?_
  refine Wl_guard_t rfl ?_
  refine Wl_v (r_eq rfl rfl) ?_
  refine Wl_v (r_pick_t (v := .bool (decide (dv = 0))) rfl rfl) ?_
  refine Wl_nil ?_
  have q3 : dv = 0 := h8.2
  rw [decide_eq_true q3]
  refine W_cond_t rfl ?_
  refine W_region ?_
  refine Wl_v (r_as (v := .int .i64 7) rfl) ?_
  refine Wl_nil ?_
  refine W_seq ?_
  refine W_region ?_
  refine Wl_v (r_mv (v := .int .i64 7) rfl) ?_
  refine Wl_v (r_as (v := .int .i64 7) rfl) ?_
  refine Wl_nil ?_
  refine W_ret ?_
  refine ret_end (v := .int .i64 7) rfl (res1 Try.results47 rfl) ?_
  exact ⟨_, rfl, rfl, hh, hp1, HU⟩

set_option maxRecDepth 100000 in
theorem get3_ok {Bt Bb Bh q : Nat} {b wz dv er : Int} {pb : Nat} {a : Option Addr} {n c p : Nat} {bs : List Int} (w : World) (ht : Blk w Bt [.pointer (some ⟨pb, 0, none⟩)]) (hbb : Blk w Bb [.int .u8 b]) (hh : Blk w Bh [.int .i64 wz, .int .i64 (-1), .int .u32 0, .bool false]) (hp : Blk w pb [.slice a n c, .int .i64 ((p : Nat) : Int)]) (hs : Sl w (fun g => g < w.heap.size ∧ g ≠ pb) 1 (.slice a n c) n (ints .u8 bs)) (hb : Byt bs) (hpn : p ≤ n) (hn : n ≤ 140737488355328) (hd : Bt ≠ pb ∧ Bh ≠ pb ∧ Bh ≠ Bt ∧ Bb ≠ pb ∧ Bb ≠ Bt ∧ Bh ≠ Bb) (hbr : 0 ≤ b ∧ b < 8) (h4 : b / 4 = 1) (hg : gword bs p = (dv, q, er)) (h8 : er = 0 ∧ dv ≠ 0) :
    Calls Try.prog 47 #[.pointer (some ⟨Bb, 0, none⟩), .pointer (some ⟨Bt, 0, none⟩), .pointer (some ⟨Bh, 0, none⟩)] w (Ret fun v w' => v = .int .i64 0 ∧ Blk w' Bh [.int .i64 wz, .int .i64 (-1), .int .u32 dv, .bool false] ∧ Blk w' pb [.slice a n c, .int .i64 ((q : Nat) : Int)] ∧ Upd (fun g => g = Bh ∨ g = pb) w w') := by
  have HU : Upd (fun b => b = Bh ∨ b = pb) w w := Upd.refl _ _
  have hbl_ht := ht.lt
  have hbl_hbb := hbb.lt
  have hbl_hh := hh.lt
  have hbl_hp := hp.lt
  have hl_hs := ilen hs
  have hc_hs := hs.cap.1
  refine calls_of_W Try.func47 rfl Try.ntmps47 (by simp) ?_
  refine W_seq ?_
  refine W_region ?_
  refine Wl_v (r_as (v := .int .i64 0) rfl) ?_
  refine Wl_nil ?_
  refine W_seq ?_
  refine W_seq ?_
  refine W_region ?_
  refine Wl_load (v := .int .u8 b) Try.isAgg5 rfl hbb rfl ?_
  refine Wl_v (r_and rfl rfl (and4 (by omega) (by omega))) ?_
  refine Wl_v (r_ne rfl rfl) ?_
  refine Wl_nil ?_
  have q1 : (b / 4 % 2 * 4) ≠ 0 := (by omega)
  rw [decide_eq_true q1]
  refine W_cond_t rfl ?_
  refine W_seq ?_
  refine W_region ?_
  refine Wl_load (v := .pointer (some ⟨pb, 0, none⟩)) Try.isAgg41 rfl ht rfl ?_
  refine Wl_call (r_call1 rfl Try.call48 rfl) (cword_at (x := dv) (q := q) (er := er) _ hp (hs.cur (by intro h1; have h3 : (pb < w.heap.size ∧ pb ≠ pb) := h1; first | omega | simp at h3)) hb (by omega) (by omega) hg) ?_
  rintro v w1 ⟨rfl, hp1, hU1⟩
  have hzw1 := hU1.size
  replace ht := ht.upd1 hU1 (by omega)
  replace hbb := hbb.upd1 hU1 (by omega)
  replace hh := hh.upd1 hU1 (by omega)
  replace hs := hs.upd1 hU1 (by intro h1; have h3 : (pb < w.heap.size ∧ pb ≠ pb) := h1; omega)
  replace HU := HU.trans1 hU1 (by show (pb = Bh ∨ pb = pb) ∨ w.heap.size ≤ pb; omega)
  have hbl_hp1 := hp1.lt
  refine Wl_v (r_mv (v := .tuple #[.int .u32 dv, .int .i64 er]) rfl) ?_
  refine Wl_v (r_ext (v := .int .u32 dv) rfl rfl) ?_
  refine Wl_v (r_ext (v := .int .i64 er) rfl rfl) ?_
  refine Wl_v (r_fld Try.underlying34 rfl Try.sizeOf32 rfl rfl) ?_
  refine Wl_store (v := .int .u32 dv) (cs' := [.int .i64 wz, .int .i64 (-1), .int .u32 dv, .bool false]) Try.sizeOf32 rfl rfl rfl rfl hh rfl rfl ?_
  intro w2 hU2 hzz2 hhn
  replace hh := hhn; clear hhn
  have hzw2 := hU2.size
  replace ht := ht.upd1 hU2 (by omega)
  replace hbb := hbb.upd1 hU2 (by omega)
  replace HU := HU.trans1 hU2 (by show (Bh = Bh ∨ Bh = pb) ∨ w.heap.size ≤ Bh; omega)
  replace hp1 := hp1.upd1 hU2 (by omega)
  refine Wl_v (r_as (v := .int .i64 er) rfl) ?_
  refine Wl_nil ?_
  refine W_seq ?_
  refine W_region ?_
  refine Wl_v (r_mv (v := .int .i64 er) rfl) ?_
  refine Wl_v (r_eq rfl rfl) ?_
  refine Wl_v (r_mv (v := .bool (decide (er = 0))) rfl) ?_
  have q2 : er = 0 := h8.1
  rw [decide_eq_true q2]
  refine Wl_guard_t rfl ?_
  refine Wl_v (r_fld Try.underlying34 rfl Try.sizeOf32 rfl rfl) ?_
  refine Wl_guard_t rfl ?_
  refine Wl_load (v := .int .u32 dv) Try.isAgg32 rfl hh rfl ?_
  refine Wl_guard_t rfl ?_
  refine Wl_v (r_eq rfl rfl) ?_
  refine Wl_v (r_pick_t (v := .bool (decide (dv = 0))) rfl rfl) ?_
  refine Wl_nil ?_
  have q3 : ¬ (dv = 0) := h8.2
  rw [decide_eq_false q3]
  refine W_cond_f rfl ?_
  refine W_skip ?_
  refine W_seq ?_
  refine W_region ?_
  refine Wl_v (r_mv (v := .int .i64 er) rfl) ?_
  refine Wl_v (r_as (v := .int .i64 er) rfl) ?_
  refine Wl_nil ?_
  refine W_ret ?_
  refine ret_end (v := .int .i64 er) rfl (res1 Try.results47 rfl) ?_
  exact ⟨_, rfl, (by first | rfl | exact vint (by omega)), hh, hp1, HU⟩

set_option maxRecDepth 100000 in
theorem get4_skip {Bt Bb Bh : Nat} {b wz dv : Int} {pb : Nat} {a : Option Addr} {n c p : Nat} {bs : List Int} (w : World) (ht : Blk w Bt [.pointer (some ⟨pb, 0, none⟩)]) (hbb : Blk w Bb [.int .u8 b]) (hh : Blk w Bh [.int .i64 wz, .int .i64 (-1), .int .u32 dv, .bool false]) (hp : Blk w pb [.slice a n c, .int .i64 ((p : Nat) : Int)]) (hs : Sl w (fun g => g < w.heap.size ∧ g ≠ pb) 1 (.slice a n c) n (ints .u8 bs)) (hb : Byt bs) (hpn : p ≤ n) (hn : n ≤ 140737488355328) (hd : Bt ≠ pb ∧ Bh ≠ pb ∧ Bh ≠ Bt ∧ Bb ≠ pb ∧ Bb ≠ Bt ∧ Bh ≠ Bb) (hbr : 0 ≤ b ∧ b < 8) (h4 : ¬ b % 2 = 1) :
    Calls Try.prog 49 #[.pointer (some ⟨Bb, 0, none⟩), .pointer (some ⟨Bt, 0, none⟩), .pointer (some ⟨Bh, 0, none⟩)] w (Ret fun v w' => v = .int .i64 0 ∧ Upd No w w') := by
  have HU : Upd (fun b => False) w w := Upd.refl _ _
  have hbl_ht := ht.lt
  have hbl_hbb := hbb.lt
  have hbl_hh := hh.lt
  have hbl_hp := hp.lt
  have hl_hs := ilen hs
  have hc_hs := hs.cap.1
  refine calls_of_W Try.func49 rfl Try.ntmps49 (by simp) ?_
  refine W_seq ?_
  refine W_region ?_
  refine Wl_v (r_as (v := .int .i64 0) rfl) ?_
  refine Wl_nil ?_
  refine W_seq ?_
  refine W_seq ?_
  refine W_region ?_
  refine Wl_load (v := .int .u8 b) Try.isAgg5 rfl hbb rfl ?_
  refine Wl_v (r_and rfl rfl (and1 (by omega) (by omega))) ?_
  refine Wl_v (r_ne rfl rfl) ?_
  refine Wl_nil ?_
  have q1 : ¬ ((b % 2) ≠ 0) := (by omega)
  rw [decide_eq_false q1]
  refine W_cond_f rfl ?_
  refine W_skip ?_
  refine W_seq ?_
  refine W_region ?_
  refine Wl_v (r_mv (v := .int .i64 0) rfl) ?_
  refine Wl_v (r_as (v := .int .i64 0) rfl) ?_
  refine Wl_nil ?_
  refine W_ret ?_
  refine ret_end (v := .int .i64 0) rfl (res1 Try.results49 rfl) ?_
  exact ⟨_, rfl, rfl, HU⟩

set_option maxRecDepth 100000 in
theorem get4_do {Bt Bb Bh q : Nat} {b wz dv er : Int} {pb : Nat} {a : Option Addr} {n c p : Nat} {bs : List Int} {nv : Int} (w : World) (ht : Blk w Bt [.pointer (some ⟨pb, 0, none⟩)]) (hbb : Blk w Bb [.int .u8 b]) (hh : Blk w Bh [.int .i64 wz, .int .i64 (-1), .int .u32 dv, .bool false]) (hp : Blk w pb [.slice a n c, .int .i64 ((p : Nat) : Int)]) (hs : Sl w (fun g => g < w.heap.size ∧ g ≠ pb) 1 (.slice a n c) n (ints .u8 bs)) (hb : Byt bs) (hpn : p ≤ n) (hn : n ≤ 140737488355328) (hd : Bt ≠ pb ∧ Bh ≠ pb ∧ Bh ≠ Bt ∧ Bb ≠ pb ∧ Bb ≠ Bt ∧ Bh ≠ Bb) (hbr : 0 ≤ b ∧ b < 8) (h4 : b % 2 = 1) (hg : gvar bs p = (nv, q, er)) (hv : 0 ≤ nv ∧ nv ≤ 4611686018427387903) :
    Calls Try.prog 49 #[.pointer (some ⟨Bb, 0, none⟩), .pointer (some ⟨Bt, 0, none⟩), .pointer (some ⟨Bh, 0, none⟩)] w (Ret fun v w' => v = .int .i64 er ∧ Blk w' Bh [.int .i64 wz, .int .i64 nv, .int .u32 dv, .bool false] ∧ Blk w' pb [.slice a n c, .int .i64 ((q : Nat) : Int)] ∧ Upd (fun g => g = Bh ∨ g = pb) w w') := by
  have HU : Upd (fun b => b = Bh ∨ b = pb) w w := Upd.refl _ _
  have hbl_ht := ht.lt
  have hbl_hbb := hbb.lt
  have hbl_hh := hh.lt
  have hbl_hp := hp.lt
  have hl_hs := ilen hs
  have hc_hs := hs.cap.1
  refine calls_of_W Try.func49 rfl Try.ntmps49 (by simp) ?_
  refine W_seq ?_
  refine W_region ?_
  refine Wl_v (r_as (v := .int .i64 0) rfl) ?_
  refine Wl_nil ?_
  refine W_seq ?_
  refine W_seq ?_
  refine W_region ?_
  refine Wl_load (v := .int .u8 b) Try.isAgg5 rfl hbb rfl ?_
  refine Wl_v (r_and rfl rfl (and1 (by omega) (by omega))) ?_
  refine Wl_v (r_ne rfl rfl) ?_
  refine Wl_nil ?_
  have q1 : (b % 2) ≠ 0 := (by omega)
  rw [decide_eq_true q1]
  refine W_cond_t rfl ?_
  refine W_seq ?_
  refine W_region ?_
  refine Wl_v (r_as (v := .int .u64 0) rfl) ?_
  refine Wl_nil ?_
  refine W_seq ?_
  refine W_region ?_
  refine Wl_load (v := .pointer (some ⟨pb, 0, none⟩)) Try.isAgg41 rfl ht rfl ?_
  refine Wl_call (r_call1 rfl Try.call50 rfl) (cvarint_at (x := nv) (q := q) (er := er) _ hp (hs.cur (by intro h1; have h3 : (pb < w.heap.size ∧ pb ≠ pb) := h1; first | omega | simp at h3)) hb (by omega) (by omega) hg) ?_
  rintro v w1 ⟨rfl, hp1, hU1⟩
  have hzw1 := hU1.size
  replace ht := ht.upd1 hU1 (by omega)
  replace hbb := hbb.upd1 hU1 (by omega)
  replace hh := hh.upd1 hU1 (by omega)
  replace hs := hs.upd1 hU1 (by intro h1; have h3 : (pb < w.heap.size ∧ pb ≠ pb) := h1; omega)
  replace HU := HU.trans1 hU1 (by show (pb = Bh ∨ pb = pb) ∨ w.heap.size ≤ pb; omega)
  have hbl_hp1 := hp1.lt
  refine Wl_v (r_mv (v := .tuple #[.int .u64 nv, .int .i64 er]) rfl) ?_
  refine Wl_v (r_ext (v := .int .u64 nv) rfl rfl) ?_
  refine Wl_v (r_ext (v := .int .i64 er) rfl rfl) ?_
  refine Wl_v (r_as (v := .int .u64 nv) rfl) ?_
  refine Wl_v (r_as (v := .int .i64 er) rfl) ?_
  refine Wl_nil ?_
  refine W_region ?_
  refine Wl_v (r_mv (v := .int .u64 nv) rfl) ?_
  refine Wl_v (r_cvt Try.underlying68 Try.underlying3 rfl (wi64 (by omega) (by omega))) ?_
  refine Wl_v (r_fld Try.underlying34 rfl Try.sizeOf3 rfl rfl) ?_
  refine Wl_store (v := .int .i64 nv) (cs' := [.int .i64 wz, .int .i64 nv, .int .u32 dv, .bool false]) Try.sizeOf3 rfl rfl rfl rfl hh rfl rfl ?_
  intro w2 hU2 hzz2 hhn
  replace hh := hhn; clear hhn
  have hzw2 := hU2.size
  replace ht := ht.upd1 hU2 (by omega)
  replace hbb := hbb.upd1 hU2 (by omega)
  replace HU := HU.trans1 hU2 (by show (Bh = Bh ∨ Bh = pb) ∨ w.heap.size ≤ Bh; omega)
  replace hp1 := hp1.upd1 hU2 (by omega)
  refine Wl_nil ?_
  refine W_seq ?_
  refine W_region ?_
  refine Wl_v (r_mv (v := .int .i64 er) rfl) ?_
  refine Wl_v (r_as (v := .int .i64 er) rfl) ?_
  refine Wl_nil ?_
  refine W_ret ?_
  refine ret_end (v := .int .i64 er) rfl (res1 Try.results49 rfl) ?_
  exact ⟨_, rfl, rfl, hh, hp1, HU⟩

end Go.Proofs.Ytflmjdnhjbiobaa
