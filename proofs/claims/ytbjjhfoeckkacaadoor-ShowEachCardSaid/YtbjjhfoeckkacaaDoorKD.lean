/-
  Several texts of this project, put together.
-/
import Derived.Test.YtbjjhfoeckkacaaDoorKC
import Derived.Test.YtbjjhfoeckkacaaDoorFB
set_option linter.unusedVariables false
set_option linter.unusedSimpArgs false
set_option maxRecDepth 100000
namespace Go.Proofs.YtbjjhfoeckkacaaDoor
open Go.Fw _root_.Go.Proofs.Tryd
section
variable {bs r : List Int} {B W : Int}
end
def hD (dn : Int) : List Int := if dn = 0 then [] else word dn
def hV (sz : Int) : List Int := if 0 ≤ sz then vi sz else []
section
variable {wz sz dn : Int} {sm : Bool}
end
/-! ### what is decoded encodes to the same bytes -/
/-! ### skippable frames -/
def gskip (bs : List Int) (p : Nat) : List Int × Nat × Int :=
  if (hmk bs p).2 ≠ 0 then ([], p, (hmk bs p).2) else if (hmk bs p).1 = 1 then ([], p, 6) else if (gword bs (p + 4)).2.2 ≠ 0 then ([], p, (gword bs (p + 4)).2.2) else
  if (gbytes bs (p + 8) (gword bs (p + 4)).1).2.2 ≠ 0 then ([], p, (gbytes bs (p + 8) (gword bs (p + 4)).1).2.2) else gbytes bs (p + 8) (gword bs (p + 4)).1
theorem gs_mk {bs : List Int} {p : Nat} (h : (hmk bs p).2 ≠ 0) : gskip bs p = ([], p, (hmk bs p).2) := if_pos h
theorem gs_kind {bs : List Int} {p : Nat} (h : (hmk bs p).2 = 0) (h2 : (hmk bs p).1 = 1) : gskip bs p = ([], p, 6) := by unfold gskip; rw [if_neg (by omega), if_pos h2]
theorem gs_word {bs : List Int} {p : Nat} (h : (hmk bs p).2 = 0) (h2 : ¬ (hmk bs p).1 = 1) (h3 : (gword bs (p + 4)).2.2 ≠ 0) : gskip bs p = ([], p, (gword bs (p + 4)).2.2) := by unfold gskip; rw [if_neg (by omega), if_neg h2, if_pos h3]
theorem gs_err {bs : List Int} {p : Nat} (h : (hmk bs p).2 = 0) (h2 : ¬ (hmk bs p).1 = 1) (h3 : (gword bs (p + 4)).2.2 = 0) (h4 : (gbytes bs (p + 8) (gword bs (p + 4)).1).2.2 ≠ 0) : gskip bs p = ([], p, (gbytes bs (p + 8) (gword bs (p + 4)).1).2.2) := by
  unfold gskip; rw [if_neg (by omega), if_neg h2, if_neg (by omega), if_pos h4]
theorem gs_ok {bs : List Int} {p : Nat} (h : (hmk bs p).2 = 0) (h2 : ¬ (hmk bs p).1 = 1) (h3 : (gword bs (p + 4)).2.2 = 0) (h4 : (gbytes bs (p + 8) (gword bs (p + 4)).1).2.2 = 0) : gskip bs p = gbytes bs (p + 8) (gword bs (p + 4)).1 := by
  unfold gskip; rw [if_neg (by omega), if_neg h2, if_neg (by omega), if_neg (by omega)]
theorem hmk_12 {bs : List Int} {p : Nat} (h : (hmk bs p).2 = 0) : (hmk bs p).1 = 1 ∨ (hmk bs p).1 = 2 := by
  unfold hmk at h ⊢
  split
  · rename_i c; rw [if_pos c] at h; simp at h
  rename_i c; rw [if_neg c] at h
  split
  · simp
  rename_i c2; rw [if_neg c2] at h
  split
  · simp
  rename_i c3; rw [if_neg c3] at h; simp at h
theorem hmk_len {bs : List Int} {p : Nat} (h : (hmk bs p).2 = 0) : ¬ bs.length < p + 4 := fun h2 => by have := hmk_short h2; simp_all
open Go.Fw _root_.Go.Proofs.Tryd
set_option maxHeartbeats 2000000 in
theorem payload_spec {pb : Nat} {a : Option Addr} {n c p : Nat} {bs : List Int} (w : World) (hp : Blk w pb [.slice a n c, .int .i64 ((p : Nat) : Int)]) (hs : Sl w (fun g => g < w.heap.size ∧ g ≠ pb) 1 (.slice a n c) n (ints .u8 bs)) (hb : Byt bs) (hpn : p ≤ n) (hn : n ≤ 140737488355328) :
  Calls Tryd.prog 68 #[.pointer (some ⟨pb, 0, none⟩)] w (Ret fun v w' => ∃ (a' : Option Addr) (m' : Nat) (c' : Nat), v = .tuple #[.slice a' m' c', .int .i64 ((gskip bs p).2.2)] ∧ Blk w' pb [.slice a n c, .int .i64 (((gskip bs p).2.1 : Nat) : Int)] ∧ Own w' (fun g => w.heap.size ≤ g) 5 1 (.slice a' m' c') m' (ints .u8 ((gskip bs p).1)) ∧ (gskip bs p).1.length = m' ∧ Upd (Is pb) w w') := by
 have HU : Upd (fun b => b = pb) w w := Upd.refl _ _
 have hbl_hp := hp.lt
 have hl_hs := ilen hs
 have hc_hs := hs.cap.1
 obtain ⟨t, ht⟩ : ∃ t, t = min 8 (n - p) := ⟨_, rfl⟩
 refine calls_of_W func68 rfl ntmps68 (by simp) ?_
 refine W_seq (W_region ?_)
 refine Was (.slice none 0 0) ?_
 refine Was (.int .i64 0) ?_
 refine Wl_nil (W_seq (W_region ?_))
 refine Wmv (.pointer (some ⟨pb, 0, none⟩)) ?_
 refine Wl_call (r_call1 rfl call66 rfl) (isf_spec _ hp (hs.cur (by intro h1; have h3 : (pb < w.heap.size ∧ pb ≠ pb) := h1; first | omega | simp at h3)) hb (by omega) (by omega)) ?_
 rintro v w1 ⟨rfl, hU1⟩
 have hzw1 := hU1.size
 replace hp := hp.upd0 hU1
 replace hs := hs.upd0 hU1
 replace HU := HU.trans0 hU1
 refine Wmv (.tuple #[.bool (decide ((hmk bs p).1 = 1)), .int .i64 ((hmk bs p).2)]) ?_
 refine Wl_v (r_ext (v := .bool (decide ((hmk bs p).1 = 1))) rfl rfl) ?_
 refine Wl_v (r_ext (v := .int .i64 ((hmk bs p).2)) rfl rfl) ?_
 refine Was (.bool (decide ((hmk bs p).1 = 1))) ?_
 refine Was (.int .i64 ((hmk bs p).2)) ?_
 refine Wl_nil (W_seq (W_seq (W_region ?_)))
 refine Wmv (.int .i64 ((hmk bs p).2)) ?_
 refine Wl_v (r_eq rfl rfl) ?_
 refine Wmv (.bool (decide (((hmk bs p).2) = 0))) ?_
 by_cases q1 : ((hmk bs p).2) = 0
 ·have hml := hmk_len q1
  rw [decide_eq_true q1]
  refine Wl_guard_t rfl ?_
  refine Wmv (.bool (decide ((hmk bs p).1 = 1))) ?_
  refine Wl_v (r_pick_t (v := .bool (decide ((hmk bs p).1 = 1))) rfl rfl) ?_
  refine Wl_nil ?_
  by_cases q2 : (hmk bs p).1 = 1
  ·rw [decide_eq_true q2]
   refine W_cond_t rfl ?_
   refine W_region ?_
   refine Was (.int .i64 6) ?_
   refine Wl_nil (W_seq (W_seq (W_region ?_)))
   refine Wmv (.int .i64 6) ?_
   refine Wl_v (v := .bool true) (r_ne (a := 6) (b := 0) rfl rfl) ?_
   refine Wl_nil ?_
   refine W_cond_t rfl ?_
   refine W_seq (W_region ?_)
   refine Wmv (.int .i64 6) ?_
   refine Was (.slice none 0 0) ?_
   refine Was (.int .i64 6) ?_
   refine Wl_nil ?_
   refine W_ret ?_
   refine ret_end (v := .tuple #[.slice none 0 0, .int .i64 6]) rfl (res2 results68 rfl rfl) ?_
   have HG := gs_kind (bs := bs) (p := p) q1 q2
   exact ⟨_, rfl, none, 0, 0, vtup2 rfl (by rw [HG]; first | done | rfl | simp [HB]), (by rw [HG]; simpa using hp), (by rw [HG]; exact Own.nil _ _ _ _), (by rw [HG]; rfl), HU⟩
  rw [decide_eq_false q2]
  refine W_cond_f rfl ?_
  refine W_skip (W_seq (W_seq (W_region ?_)))
  refine Wmv (.int .i64 ((hmk bs p).2)) ?_
  refine Wl_v (r_ne rfl rfl) ?_
  refine Wl_nil ?_
  have q3 : ¬ (((hmk bs p).2) ≠ 0) := (fun h2 => h2 q1)
  rw [decide_eq_false q3]
  refine W_cond_f rfl ?_
  refine W_skip (W_seq (W_region ?_))
  refine Wmv (.pointer (some ⟨pb, 0, none⟩)) ?_
  refine Wl_call (r_call2 rfl call81 rfl rfl) (peek_k (t := t) (K := 8) _ hp (hs.cur (by intro h1; have h3 : (pb < w.heap.size ∧ pb ≠ pb) := h1; first | omega | simp at h3)) hb (by omega) (by omega) ht) ?_
  rintro v w2 ⟨a2, c2, rfl, hO2, hU2⟩
  have hzw2 := hU2.size
  replace hp := hp.upd0 hU2
  replace hs := hs.upd0 hU2
  replace HU := HU.trans0 hU2
  replace hO2 := hO2.tight
  have hl_hO2 := ilen hO2.sl
  have hc_hO2 := hO2.sl.cap.1
  refine Wl_call (r_call1 rfl call54 rfl) (new_spec _ hO2.sl.any (by omega)) ?_
  rintro v w3 ⟨pb3, a3, c3, rfl, hp3, hO3, hpg_3, hU3⟩
  have hzw3 := hU3.size
  replace hp := hp.upd0 hU3
  replace hs := hs.upd0 hU3
  replace HU := HU.trans0 hU3
  have hbl_hp3 := hp3.lt
  replace hO3 := hO3.tight
  have hl_hO3 := ilen hO3.sl
  have hc_hO3 := hO3.sl.cap.1
  refine Was (.pointer (some ⟨pb3, 0, none⟩)) ?_
  refine Wl_nil (W_seq (W_region ?_))
  refine Wmv (.pointer (some ⟨pb3, 0, none⟩)) ?_
  refine Wl_call (r_call2 rfl call82 rfl rfl) (cbytes_k (K := 4) (p := 0) _ hp3 (hO3.sl.cur (by intro h1; have h3 : ((w2.heap.size ≤ pb3 ∧ pb3 ≠ pb3) ∧ pb3 < w3.heap.size) := h1; first | omega | simp at h3)) (byt_take (byt_drop hb _) _) (by omega) (by omega) (by omega)) ?_
  rintro v w4 ⟨a4, c4, rfl, hp4, hO4, hU4⟩
  have hzw4 := hU4.size
  replace hp := hp.upd1 hU4 (by omega)
  replace hs := hs.upd1 hU4 (show ¬ ((pb3 < w.heap.size ∧ pb3 ≠ pb)) by omega)
  replace HU := HU.trans1 hU4 (by show (pb3 = pb) ∨ w.heap.size ≤ pb3; omega)
  replace hO3 := hO3.upd1 hU4 (show ¬ (((w2.heap.size ≤ pb3 ∧ pb3 ≠ pb3) ∧ pb3 < w3.heap.size)) by omega)
  have hbl_hp4 := hp4.lt
  replace hO4 := hO4.tight
  have hl_hO4 := ilen hO4.sl
  have hc_hO4 := hO4.sl.cap.1
  replace hp4 : Blk w4 pb3 [.slice a3 t c3, .int .i64 ((4 : Nat) : Int)] := hp4
  refine Wl_nil (W_seq (W_region ?_))
  refine Wmv (.pointer (some ⟨pb3, 0, none⟩)) ?_
  by_cases q4 : (gword bs (p + 4)).2.2 = 0
  ·have hgi := gword_in (bs := bs) q4
   have hgl := gword_le hb (p + 4)
   refine Wl_call (r_call1 rfl call73 rfl) (cword_at (x := (gword bs (p + 4)).1) (q := 8) (er := 0) _ hp4 (hO3.sl.cur (by intro h1; have h3 : ((w2.heap.size ≤ pb3 ∧ pb3 ≠ pb3) ∧ pb3 < w3.heap.size) := h1; first | omega | simp at h3)) (byt_take (byt_drop hb _) _) (by omega) (by omega) (gword_cut0 (by omega) q4 rfl)) ?_
   rintro v w5 ⟨rfl, hp5, hU5⟩
   have hzw5 := hU5.size
   replace hp := hp.upd1 hU5 (by omega)
   replace hs := hs.upd1 hU5 (show ¬ ((pb3 < w.heap.size ∧ pb3 ≠ pb)) by omega)
   replace HU := HU.trans1 hU5 (by show (pb3 = pb) ∨ w.heap.size ≤ pb3; omega)
   have hbl_hp5 := hp5.lt
   refine Wmv (.tuple #[.int .u32 ((gword bs (p + 4)).1), .int .i64 0]) ?_
   refine Wl_v (r_ext (v := .int .u32 ((gword bs (p + 4)).1)) rfl rfl) ?_
   refine Wl_v (r_ext (v := .int .i64 0) rfl rfl) ?_
   refine Was (.int .u32 ((gword bs (p + 4)).1)) ?_
   refine Was (.int .i64 0) ?_
   refine Wl_nil (W_seq (W_seq (W_region ?_)))
   refine Wmv (.int .i64 0) ?_
   refine Wl_v (v := .bool false) (r_ne (a := 0) (b := 0) rfl rfl) ?_
   refine Wl_nil ?_
   refine W_cond_f rfl ?_
   refine W_skip (W_seq (W_seq (W_region ?_)))
   refine Wmv (.int .u32 ((gword bs (p + 4)).1)) ?_
   refine Wl_v (r_cvt underlying39 underlying3 rfl (wi64 (by omega) (by omega))) ?_
   refine Wmv (.pointer (some ⟨pb, 0, none⟩)) ?_
   refine Wl_call (r_call1 rfl call55 rfl) (left_spec _ hp (by omega) (by omega) (by omega)) ?_
   rintro v w6 ⟨rfl, hU6⟩
   have hzw6 := hU6.size
   replace hp := hp.upd0 hU6
   replace hs := hs.upd0 hU6
   replace HU := HU.trans0 hU6
   refine Wl_v (r_sub rfl rfl (wi64 (by omega) (by omega))) ?_
   refine Wl_v (r_gt rfl rfl) ?_
   refine Wl_nil ?_
   by_cases q5 : ((((n : Nat) : Int) - ((p : Nat) : Int)) - 8) < ((gword bs (p + 4)).1)
   ·rw [decide_eq_true q5]
    refine W_cond_t rfl ?_
    refine W_seq (W_region ?_)
    refine Was (.slice none 0 0) ?_
    refine Was (.int .i64 3) ?_
    refine Wl_nil ?_
    refine W_ret ?_
    refine ret_end (v := .tuple #[.slice none 0 0, .int .i64 3]) rfl (res2 results68 rfl rfl) ?_
    have HB := gbytes_long (bs := bs) (p := p + 8) (k := (gword bs (p + 4)).1) (by omega) (by omega)
    have HG := gs_err q1 q2 q4 (by rw [HB]; show (3 : Int) ≠ 0; decide)
    rw [HB] at HG
    exact ⟨_, rfl, none, 0, 0, vtup2 rfl (by rw [HG]; first | done | rfl | simp [HB]), (by rw [HG]; simpa using hp), (by rw [HG]; exact Own.nil _ _ _ _), (by rw [HG]; rfl), HU⟩
   rw [decide_eq_false q5]
   refine W_cond_f rfl ?_
   refine W_skip (W_seq (W_region ?_))
   refine Wmv (.pointer (some ⟨pb, 0, none⟩)) ?_
   refine Wl_call (r_call2 rfl call82 rfl rfl) (cbytes_k (K := 8) _ hp (hs.cur (by intro h1; have h3 : (pb < w.heap.size ∧ pb ≠ pb) := h1; first | omega | simp at h3)) hb (by omega) (by omega) (by omega)) ?_
   rintro v w7 ⟨a7, c7, rfl, hp7, hO7, hU7⟩
   have hzw7 := hU7.size
   replace hs := hs.upd1 hU7 (show ¬ ((pb < w.heap.size ∧ pb ≠ pb)) by omega)
   replace HU := HU.trans1 hU7 (by show (pb = pb) ∨ w.heap.size ≤ pb; omega)
   have hbl_hp7 := hp7.lt
   replace hO7 := hO7.tight
   have hl_hO7 := ilen hO7.sl
   have hc_hO7 := hO7.sl.cap.1
   refine Wl_nil (W_seq (W_region ?_))
   refine Wmv (.pointer (some ⟨pb, 0, none⟩)) ?_
   refine Wmv (.int .u32 ((gword bs (p + 4)).1)) ?_
   refine Wl_v (r_cvt underlying39 underlying3 rfl (wi64 (by omega) (by omega))) ?_
   refine Wl_call (r_call2 rfl call82 rfl rfl) (bytes_spec _ hp7 (hs.cur (by intro h1; have h3 : (pb < w.heap.size ∧ pb ≠ pb) := h1; first | omega | simp at h3)) hb (by omega) (by omega)) ?_
   rintro v w8 ⟨a8, m8, c8, rfl, hp8, hO8, hm_8, hU8⟩
   have hzw8 := hU8.size
   replace HU := HU.trans1 hU8 (by show (pb = pb) ∨ w.heap.size ≤ pb; omega)
   have hbl_hp8 := hp8.lt
   replace hO8 := hO8.tight
   have hl_hO8 := ilen hO8.sl
   have hc_hO8 := hO8.sl.cap.1
   refine Wl_v (r_ext (v := .slice a8 m8 c8) rfl rfl) ?_
   refine Wl_v (r_ext (v := .int .i64 ((gbytes bs (p + 8) ((gword bs (p + 4)).1)).2.2)) rfl rfl) ?_
   refine Was (.slice a8 m8 c8) ?_
   refine Was (.int .i64 ((gbytes bs (p + 8) ((gword bs (p + 4)).1)).2.2)) ?_
   refine Wl_nil ?_
   refine W_ret ?_
   refine ret_end (v := .tuple #[.slice a8 m8 c8, .int .i64 ((gbytes bs (p + 8) ((gword bs (p + 4)).1)).2.2)]) rfl (res2 results68 rfl rfl) ?_
   have HB := gbytes_ok (bs := bs) (p := p + 8) (k := (gword bs (p + 4)).1) (by omega) (by omega)
   have HG := gs_ok q1 q2 q4 (by rw [HB])
   exact ⟨_, rfl, _, _, _, vtup2 rfl (by rw [HG]), (by rw [HG]; exact hp8), (by rw [HG]; exact hO8.weak (by intro g hg; have h3 : ((w7.heap.size ≤ g) ∧ g < w8.heap.size) := hg; show w.heap.size ≤ g; omega)), (by rw [HG]; exact hm_8), HU⟩
  refine Wl_call (r_call1 rfl call73 rfl) (cword_at (x := (gword bs (p + 4)).1) (q := 4) (er := (gword bs (p + 4)).2.2) _ hp4 (hO3.sl.cur (by intro h1; have h3 : ((w2.heap.size ≤ pb3 ∧ pb3 ≠ pb3) ∧ pb3 < w3.heap.size) := h1; first | omega | simp at h3)) (byt_take (byt_drop hb _) _) (by omega) (by omega) (gword_cutE (by omega) q4)) ?_
  rintro v w9 ⟨rfl, hp9, hU9⟩
  have hzw9 := hU9.size
  replace hp := hp.upd1 hU9 (by omega)
  replace HU := HU.trans1 hU9 (by show (pb3 = pb) ∨ w.heap.size ≤ pb3; omega)
  have hbl_hp9 := hp9.lt
  refine Wmv (.tuple #[.int .u32 ((gword bs (p + 4)).1), .int .i64 ((gword bs (p + 4)).2.2)]) ?_
  refine Wl_v (r_ext (v := .int .u32 ((gword bs (p + 4)).1)) rfl rfl) ?_
  refine Wl_v (r_ext (v := .int .i64 ((gword bs (p + 4)).2.2)) rfl rfl) ?_
  refine Was (.int .u32 ((gword bs (p + 4)).1)) ?_
  refine Was (.int .i64 ((gword bs (p + 4)).2.2)) ?_
  refine Wl_nil (W_seq (W_seq (W_region ?_)))
  refine Wmv (.int .i64 ((gword bs (p + 4)).2.2)) ?_
  refine Wl_v (r_ne rfl rfl) ?_
  refine Wl_nil ?_
  have q6 : ((gword bs (p + 4)).2.2) ≠ 0 := q4
  rw [decide_eq_true q6]
  refine W_cond_t rfl ?_
  refine W_seq (W_region ?_)
  refine Wmv (.int .i64 ((gword bs (p + 4)).2.2)) ?_
  refine Was (.slice none 0 0) ?_
  refine Was (.int .i64 ((gword bs (p + 4)).2.2)) ?_
  refine Wl_nil ?_
  refine W_ret ?_
  refine ret_end (v := .tuple #[.slice none 0 0, .int .i64 ((gword bs (p + 4)).2.2)]) rfl (res2 results68 rfl rfl) ?_
  have HG := gs_word q1 q2 q4
  exact ⟨_, rfl, none, 0, 0, vtup2 rfl (by rw [HG]; first | done | rfl | simp [HB]), (by rw [HG]; simpa using hp), (by rw [HG]; exact Own.nil _ _ _ _), (by rw [HG]; rfl), HU⟩
 rw [decide_eq_false q1]
 refine Wl_guard_f rfl ?_
 refine Wl_v (r_pick_f (v := .bool false) rfl rfl) ?_
 refine Wl_nil ?_
 refine W_cond_f rfl ?_
 refine W_skip (W_seq (W_seq (W_region ?_)))
 refine Wmv (.int .i64 ((hmk bs p).2)) ?_
 refine Wl_v (r_ne rfl rfl) ?_
 refine Wl_nil ?_
 have q7 : ((hmk bs p).2) ≠ 0 := q1
 rw [decide_eq_true q7]
 refine W_cond_t rfl ?_
 refine W_seq (W_region ?_)
 refine Wmv (.int .i64 ((hmk bs p).2)) ?_
 refine Was (.slice none 0 0) ?_
 refine Was (.int .i64 ((hmk bs p).2)) ?_
 refine Wl_nil ?_
 refine W_ret ?_
 refine ret_end (v := .tuple #[.slice none 0 0, .int .i64 ((hmk bs p).2)]) rfl (res2 results68 rfl rfl) ?_
 have HG := gs_mk (bs := bs) (p := p) q1
 exact ⟨_, rfl, none, 0, 0, vtup2 rfl (by rw [HG]; first | done | rfl | simp [HB]), (by rw [HG]; simpa using hp), (by rw [HG]; exact Own.nil _ _ _ _), (by rw [HG]; rfl), HU⟩
theorem rcontent {a : Option Addr} {n c p : Nat} {bs : List Int} {R : Nat → Prop} (w : World) (hs : Sl w R 1 (.slice a n c) n (ints .u8 bs)) (hb : Byt bs) (hpn : p ≤ n) (hn : n ≤ 140737488355328) :
  Calls Tryd.prog 26 #[.slice a n c, .int .i64 ((p : Nat) : Int)] w (Ret fun v w' => ∃ (a' : Option Addr) (m' : Nat) (c' : Nat), v = .tuple #[.slice a' m' c', .int .i64 (((gskip bs p).2.1 : Nat) : Int), .int .i64 ((gskip bs p).2.2)] ∧ Sl w' R 1 (.slice a' m' c') m' (ints .u8 ((gskip bs p).1)) ∧ (gskip bs p).1.length = m' ∧ Upd No w w') := by
 have HU := Upd.rno w
 have hl_hs := ilen hs
 have hc_hs := hs.cap.1
 replace hs := hs.tight
 refine calls_of_W func26 rfl ntmps26 (by simp) ?_
 refine W_seq (W_region ?_)
 refine Was (.slice none 0 0) ?_
 refine Was (.int .i64 0) ?_
 refine Was (.int .i64 0) ?_
 refine Wl_nil (W_seq (W_region ?_))
 refine Wmv (.slice a n c) ?_
 refine Wmv (.int .i64 ((p : Nat) : Int)) ?_
 refine Wl_call (r_call2 rfl call25 rfl rfl) (rmark _ hs.any hb (by omega) (by omega)) ?_
 rintro v w1 ⟨rfl, hU1⟩
 have hzw1 := hU1.size
 replace hs := hs.upd0 hU1
 replace HU := HU.trans0 hU1
 refine Wmv (.tuple #[.int .i64 ((hmk bs p).1), .int .i64 ((hmk bs p).2)]) ?_
 refine Wl_v (r_ext (v := .int .i64 ((hmk bs p).1)) rfl rfl) ?_
 refine Wl_v (r_ext (v := .int .i64 ((hmk bs p).2)) rfl rfl) ?_
 refine Was (.int .i64 ((hmk bs p).1)) ?_
 refine Was (.int .i64 ((hmk bs p).2)) ?_
 refine Wl_nil (W_seq (W_seq (W_region ?_)))
 refine Wmv (.int .i64 ((hmk bs p).2)) ?_
 refine Wl_v (r_ne rfl rfl) ?_
 refine Wl_nil ?_
 by_cases q1 : ((hmk bs p).2) ≠ 0
 ·rw [decide_eq_true q1]
  refine W_cond_t rfl ?_
  refine W_seq (W_region ?_)
  refine Wmv (.int .i64 ((p : Nat) : Int)) ?_
  refine Wmv (.int .i64 ((hmk bs p).2)) ?_
  refine Was (.slice none 0 0) ?_
  refine Was (.int .i64 ((p : Nat) : Int)) ?_
  refine Was (.int .i64 ((hmk bs p).2)) ?_
  refine Wl_nil ?_
  refine W_ret ?_
  refine ret_end (v := .tuple #[.slice none 0 0, .int .i64 ((p : Nat) : Int), .int .i64 ((hmk bs p).2)]) rfl (res3 results26 rfl rfl rfl) ?_
  have HG := gs_mk (bs := bs) (p := p) q1
  exact ⟨_, rfl, none, 0, 0, vtup3 rfl (vint (by rw [HG]; first | done | rfl | (simp [HB]; done) | (dsimp only; omega))) (by rw [HG]; first | done | rfl | simp [HB]), (by rw [HG]; exact Sl.nil _ _ _), (by rw [HG]; rfl), HU⟩
 have hml := hmk_len (Classical.not_not.1 q1)
 have h12 := hmk_12 (Classical.not_not.1 q1)
 rw [decide_eq_false q1]
 refine W_cond_f rfl ?_
 refine W_skip (W_seq (W_seq (W_region ?_)))
 refine Wmv (.int .i64 ((hmk bs p).1)) ?_
 refine Wl_v (r_ne rfl rfl) ?_
 refine Wl_nil ?_
 by_cases q2 : ((hmk bs p).1) ≠ 2
 ·rw [decide_eq_true q2]
  refine W_cond_t rfl ?_
  refine W_seq (W_region ?_)
  refine Wmv (.int .i64 ((p : Nat) : Int)) ?_
  refine Was (.slice none 0 0) ?_
  refine Was (.int .i64 ((p : Nat) : Int)) ?_
  refine Was (.int .i64 6) ?_
  refine Wl_nil ?_
  refine W_ret ?_
  refine ret_end (v := .tuple #[.slice none 0 0, .int .i64 ((p : Nat) : Int), .int .i64 6]) rfl (res3 results26 rfl rfl rfl) ?_
  have HG := gs_kind (bs := bs) (p := p) (Classical.not_not.1 q1) (by omega)
  exact ⟨_, rfl, none, 0, 0, vtup3 rfl (vint (by rw [HG]; first | done | rfl | (simp [HB]; done) | (dsimp only; omega))) (by rw [HG]; first | done | rfl | simp [HB]), (by rw [HG]; exact Sl.nil _ _ _), (by rw [HG]; rfl), HU⟩
 rw [decide_eq_false q2]
 refine W_cond_f rfl ?_
 refine W_skip (W_seq (W_region ?_))
 refine Wmv (.slice a n c) ?_
 refine Wmv (.int .i64 ((p : Nat) : Int)) ?_
 refine Wl_v (r_add rfl rfl (wi64 (by omega) (by omega))) ?_
 refine Wl_call (r_call2 rfl call39 (v1 := .int .i64 ((p + 4 : Nat) : Int)) rfl (Eq.trans (b := .int .i64 (((p : Nat) : Int) + 4)) rfl (vint (by omega)))) (rgetword_spec _ hs.any hb (by omega) (by omega)) ?_
 rintro v w2 ⟨rfl, hU2⟩
 have hzw2 := hU2.size
 replace hs := hs.upd0 hU2
 replace HU := HU.trans0 hU2
 refine Wmv (.tuple #[.int .u32 ((gword bs (p + 4)).1), .int .i64 (((gword bs (p + 4)).2.1 : Nat) : Int), .int .i64 ((gword bs (p + 4)).2.2)]) ?_
 refine Wl_v (r_ext (v := .int .u32 ((gword bs (p + 4)).1)) rfl rfl) ?_
 refine Wl_v (r_ext (v := .int .i64 (((gword bs (p + 4)).2.1 : Nat) : Int)) rfl rfl) ?_
 refine Wl_v (r_ext (v := .int .i64 ((gword bs (p + 4)).2.2)) rfl rfl) ?_
 refine Was (.int .u32 ((gword bs (p + 4)).1)) ?_
 refine Was (.int .i64 (((gword bs (p + 4)).2.1 : Nat) : Int)) ?_
 refine Was (.int .i64 ((gword bs (p + 4)).2.2)) ?_
 refine Wl_nil (W_seq (W_seq (W_region ?_)))
 refine Wmv (.int .i64 ((gword bs (p + 4)).2.2)) ?_
 refine Wl_v (r_ne rfl rfl) ?_
 refine Wl_nil ?_
 by_cases q3 : ((gword bs (p + 4)).2.2) ≠ 0
 ·rw [decide_eq_true q3]
  refine W_cond_t rfl ?_
  refine W_seq (W_region ?_)
  refine Wmv (.int .i64 ((p : Nat) : Int)) ?_
  refine Wmv (.int .i64 ((gword bs (p + 4)).2.2)) ?_
  refine Was (.slice none 0 0) ?_
  refine Was (.int .i64 ((p : Nat) : Int)) ?_
  refine Was (.int .i64 ((gword bs (p + 4)).2.2)) ?_
  refine Wl_nil ?_
  refine W_ret ?_
  refine ret_end (v := .tuple #[.slice none 0 0, .int .i64 ((p : Nat) : Int), .int .i64 ((gword bs (p + 4)).2.2)]) rfl (res3 results26 rfl rfl rfl) ?_
  have HG := gs_word (Classical.not_not.1 q1) (by omega) q3
  exact ⟨_, rfl, none, 0, 0, vtup3 rfl (vint (by rw [HG]; first | done | rfl | (simp [HB]; done) | (dsimp only; omega))) (by rw [HG]; first | done | rfl | simp [HB]), (by rw [HG]; exact Sl.nil _ _ _), (by rw [HG]; rfl), HU⟩
 have hgi := gword_in (bs := bs) (Classical.not_not.1 q3)
 have hgl := gword_le hb (p + 4)
 rw [decide_eq_false q3]
 refine W_cond_f rfl ?_
 refine W_skip (W_seq (W_region ?_))
 refine Wmv (.slice a n c) ?_
 refine Wmv (.int .i64 (((gword bs (p + 4)).2.1 : Nat) : Int)) ?_
 refine Wmv (.int .u32 ((gword bs (p + 4)).1)) ?_
 refine Wl_v (r_cvt underlying39 underlying3 rfl (wi64 (by omega) (by omega))) ?_
 by_cases q4 : (gword bs (p + 4)).1 ≤ ((n - (p + 8) : Nat) : Int)
 ·have HB := gbytes_ok (bs := bs) (p := p + 8) (k := (gword bs (p + 4)).1) (by omega) (by omega)
  refine Wl_call (r_call3 rfl call40 (v1 := .int .i64 ((p + 8 : Nat) : Int)) rfl (Eq.trans (b := .int .i64 (((gword bs (p + 4)).2.1 : Nat) : Int)) rfl (vint (by omega))) rfl) (rbytes_spec _ hs hb (by omega) (by omega)) ?_
  rintro v w3 ⟨a3, m3, c3, rfl, hB3, hm_3, hU3⟩
  have hzw3 := hU3.size
  replace HU := HU.trans0 hU3
  have hl_hB3 := ilen hB3
  have hc_hB3 := hB3.cap.1
  refine Wmv (.tuple #[.slice a3 m3 c3, .int .i64 (((gbytes bs (p + 8) ((gword bs (p + 4)).1)).2.1 : Nat) : Int), .int .i64 ((gbytes bs (p + 8) ((gword bs (p + 4)).1)).2.2)]) ?_
  refine Wl_v (r_ext (v := .slice a3 m3 c3) rfl rfl) ?_
  refine Wl_v (r_ext (v := .int .i64 (((gbytes bs (p + 8) ((gword bs (p + 4)).1)).2.1 : Nat) : Int)) rfl rfl) ?_
  refine Wl_v (r_ext (v := .int .i64 ((gbytes bs (p + 8) ((gword bs (p + 4)).1)).2.2)) rfl rfl) ?_
  refine Was (.slice a3 m3 c3) ?_
  refine Was (.int .i64 (((gbytes bs (p + 8) ((gword bs (p + 4)).1)).2.1 : Nat) : Int)) ?_
  refine Was (.int .i64 ((gbytes bs (p + 8) ((gword bs (p + 4)).1)).2.2)) ?_
  refine Wl_nil (W_seq (W_seq (W_region ?_)))
  refine Wmv (.int .i64 ((gbytes bs (p + 8) ((gword bs (p + 4)).1)).2.2)) ?_
  refine Wl_v (r_ne rfl rfl) ?_
  refine Wl_nil ?_
  have q5 : ¬ (((gbytes bs (p + 8) ((gword bs (p + 4)).1)).2.2) ≠ 0) := (by rw [HB]; simp)
  rw [decide_eq_false q5]
  refine W_cond_f rfl ?_
  refine W_skip (W_seq (W_region ?_))
  refine Wmv (.slice a3 m3 c3) ?_
  refine Wmv (.int .i64 (((gbytes bs (p + 8) ((gword bs (p + 4)).1)).2.1 : Nat) : Int)) ?_
  refine Was (.slice a3 m3 c3) ?_
  refine Was (.int .i64 (((gbytes bs (p + 8) ((gword bs (p + 4)).1)).2.1 : Nat) : Int)) ?_
  refine Was (.int .i64 0) ?_
  refine Wl_nil ?_
  refine W_ret ?_
  refine ret_end (v := .tuple #[.slice a3 m3 c3, .int .i64 (((gbytes bs (p + 8) ((gword bs (p + 4)).1)).2.1 : Nat) : Int), .int .i64 0]) rfl (res3 results26 rfl rfl rfl) ?_
  have HB := gbytes_ok (bs := bs) (p := p + 8) (k := (gword bs (p + 4)).1) (by omega) (by omega)
  have HG := gs_ok (Classical.not_not.1 q1) (by omega) (Classical.not_not.1 q3) (by rw [HB])
  exact ⟨_, rfl, _, _, _, vtup3 rfl (by rw [HG]) (by rw [HG, HB]), (by rw [HG]; exact hB3.weak (by intro g hg; have h3 : ((R g) ∧ g < w.heap.size) := hg; exact h3.1)), (by rw [HG]; exact hm_3), HU⟩
 have HB := gbytes_long (bs := bs) (p := p + 8) (k := (gword bs (p + 4)).1) (by omega) (by omega)
 refine Wl_call (r_call3 rfl call40 (v1 := .int .i64 ((p + 8 : Nat) : Int)) rfl (Eq.trans (b := .int .i64 (((gword bs (p + 4)).2.1 : Nat) : Int)) rfl (vint (by omega))) rfl) (rbytes_spec _ hs hb (by omega) (by omega)) ?_
 rintro v w4 ⟨a4, m4, c4, rfl, hB4, hm_4, hU4⟩
 have hzw4 := hU4.size
 replace HU := HU.trans0 hU4
 have hl_hB4 := ilen hB4
 have hc_hB4 := hB4.cap.1
 refine Wmv (.tuple #[.slice a4 m4 c4, .int .i64 (((gbytes bs (p + 8) ((gword bs (p + 4)).1)).2.1 : Nat) : Int), .int .i64 ((gbytes bs (p + 8) ((gword bs (p + 4)).1)).2.2)]) ?_
 refine Wl_v (r_ext (v := .slice a4 m4 c4) rfl rfl) ?_
 refine Wl_v (r_ext (v := .int .i64 (((gbytes bs (p + 8) ((gword bs (p + 4)).1)).2.1 : Nat) : Int)) rfl rfl) ?_
 refine Wl_v (r_ext (v := .int .i64 ((gbytes bs (p + 8) ((gword bs (p + 4)).1)).2.2)) rfl rfl) ?_
 refine Was (.slice a4 m4 c4) ?_
 refine Was (.int .i64 (((gbytes bs (p + 8) ((gword bs (p + 4)).1)).2.1 : Nat) : Int)) ?_
 refine Was (.int .i64 ((gbytes bs (p + 8) ((gword bs (p + 4)).1)).2.2)) ?_
 refine Wl_nil (W_seq (W_seq (W_region ?_)))
 refine Wmv (.int .i64 ((gbytes bs (p + 8) ((gword bs (p + 4)).1)).2.2)) ?_
 refine Wl_v (r_ne rfl rfl) ?_
 refine Wl_nil ?_
 have q6 : ((gbytes bs (p + 8) ((gword bs (p + 4)).1)).2.2) ≠ 0 := (by rw [HB]; show (3 : Int) ≠ 0; decide)
 rw [decide_eq_true q6]
 refine W_cond_t rfl ?_
 refine W_seq (W_region ?_)
 refine Wmv (.int .i64 ((p : Nat) : Int)) ?_
 refine Wmv (.int .i64 ((gbytes bs (p + 8) ((gword bs (p + 4)).1)).2.2)) ?_
 refine Was (.slice none 0 0) ?_
 refine Was (.int .i64 ((p : Nat) : Int)) ?_
 refine Was (.int .i64 ((gbytes bs (p + 8) ((gword bs (p + 4)).1)).2.2)) ?_
 refine Wl_nil ?_
 refine W_ret ?_
 refine ret_end (v := .tuple #[.slice none 0 0, .int .i64 ((p : Nat) : Int), .int .i64 ((gbytes bs (p + 8) ((gword bs (p + 4)).1)).2.2)]) rfl (res3 results26 rfl rfl rfl) ?_
 have HB := gbytes_long (bs := bs) (p := p + 8) (k := (gword bs (p + 4)).1) (by omega) (by omega)
 have HG := gs_err (Classical.not_not.1 q1) (by omega) (Classical.not_not.1 q3) (by rw [HB]; show (3 : Int) ≠ 0; decide)
 rw [HB] at HG
 exact ⟨_, rfl, none, 0, 0, vtup3 rfl (vint (by rw [HG]; first | done | rfl | (simp [HB]; done) | (dsimp only; omega))) (by rw [HG]; first | done | rfl | simp [HB]), (by rw [HG]; exact Sl.nil _ _ _), (by rw [HG]; rfl), HU⟩
end Go.Proofs.YtbjjhfoeckkacaaDoor
