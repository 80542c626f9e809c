/-
  Several texts of this project, put together.
-/
import Derived.Test.YtbjjhfoeckkacaaGreatDoorFZ
import Derived.Test.YtbjjhfoeckkacaaGreatDoorKC
import Derived.Test.YtbjjhfoeckkacaaGreatDoorFB
set_option linter.unusedVariables false
set_option linter.unusedSimpArgs false
set_option maxRecDepth 100000
set_option maxHeartbeats 16000000
namespace Go.Proofs.YtbjjhfoeckkacaaGreatDoor
open Go.Fw _root_.Go.Proofs.Tryz
section
variable {bs r : List Int} {B W : Int}
end
def hD (dn : Int) : List Int := if dn = 0 then [] else word dn
def hV (sz : Int) : List Int := if 0 ≤ sz then vi sz else []
section
variable {wz sz dn : Int} {sm : Bool}
end
/-! ### what is decoded encodes to the same bytes -/
theorem ghead_err {bs : List Int} {p : Nat} (h : (ZA bs p).2.2 ≠ 0) : (ZA bs p).2.1 = p := by
  by_cases c1 : (hmk bs p).2 ≠ 0
  · rw [gh_mk c1]
  have c1' := Classical.not_not.1 c1
  by_cases c2 : (hmk bs p).1 ≠ 1
  · rw [gh_kind c1' c2]
  have HM : Hm bs p := ⟨c1', Classical.not_not.1 c2⟩
  by_cases c3 : bs.length < p + 5
  · rw [gh_5 HM c3]
  by_cases c4 : 7 < bs.getD (p + 4) 0
  · rw [gh_bits HM c3 c4]
  by_cases c5 : bs.length < p + 6
  · rw [gh_6 HM c3 c4 c5]
  by_cases c6 : hw (bs.getD (p + 5) 0) = 0
  · rw [gh_win HM c3 c4 c5 c6]
  by_cases c7 : (ZV bs p).2.2 = 0
  · by_cases c8 : bs.getD (p + 4) 0 / 4 = 1 ∧ (ZV bs p).1 = 0
    · rw [gh_zero HM c4 c5 c6 c7 c8]
    by_cases c9 : (Yu bs p (ZV bs p).2.1).2.2 = 0
    · rw [gh_ok HM c4 c5 c6 c7 c8 c9] at h; exact absurd rfl h
    rw [gh_size HM c4 c5 c6 c7 c8 c9]
  rw [gh_dict HM c4 c5 c6 c7]
theorem ghead_le {bs : List Int} {p : Nat} (hp : p ≤ bs.length) : (ZA bs p).2.1 ≤ bs.length := by
  by_cases h : (ZA bs p).2.2 = 0
  · have hq : (ZV bs p).2.1 ≤ bs.length ∨ (ZA bs p).2.1 = p := by
      by_cases c : bs.length < p + 6
      · right
        by_cases c1 : (hmk bs p).2 ≠ 0
        · rw [gh_mk c1]
        have c1' := Classical.not_not.1 c1
        by_cases c2 : (hmk bs p).1 ≠ 1
        · rw [gh_kind c1' c2]
        have HM : Hm bs p := ⟨c1', Classical.not_not.1 c2⟩
        by_cases c3 : bs.length < p + 5
        · rw [gh_5 HM c3]
        by_cases c4 : 7 < bs.getD (p + 4) 0
        · rw [gh_bits HM c3 c4]
        rw [gh_6 HM c3 c4 c]
      by_cases d : bs.getD (p + 4) 0 / 4 = 1
      · rw [Y0 d]
        left
        unfold ZE
        split
        · show p + 6 ≤ _; omega
        show p + 6 + 4 ≤ _; omega
      rw [hdict_skip d]; left; show p + 6 ≤ _; omega
    rcases hq with hq | hq
    · have hs : (Yu bs p (ZV bs p).2.1).2.1 ≤ bs.length := by
        by_cases s : bs.getD (p + 4) 0 % 2 = 1
        · rw [hsize_do s]; exact (Yw bs _ hq).2.2.1
        rw [hsize_skip s]; exact hq
      unfold ZA
      repeat' split
      all_goals first | exact hp | exact hs
    omega
  rw [ghead_err h]; exact hp
/-! ### skippable frames -/
def Yc (bs : List Int) (p : Nat) : List Int × Nat × Int :=
  if (hmk bs p).2 ≠ 0 then ([], p, (hmk bs p).2) else if (hmk bs p).1 = 1 then ([], p, 6) else if (ZE bs (p + 4)).2.2 ≠ 0 then ([], p, (ZE bs (p + 4)).2.2) else
  if (ZW bs (p + 8) (ZE bs (p + 4)).1).2.2 ≠ 0 then ([], p, (ZW bs (p + 8) (ZE bs (p + 4)).1).2.2) else ZW bs (p + 8) (ZE bs (p + 4)).1
theorem gs_mk {bs : List Int} {p : Nat} (h : (hmk bs p).2 ≠ 0) : Yc bs p = ([], p, (hmk bs p).2) := if_pos h
theorem gs_kind {bs : List Int} {p : Nat} (h : (hmk bs p).2 = 0) (h2 : (hmk bs p).1 = 1) : Yc bs p = ([], p, 6) := by unfold Yc; rw [if_neg (by omega), if_pos h2]
theorem gs_word {bs : List Int} {p : Nat} (h : (hmk bs p).2 = 0) (h2 : ¬ (hmk bs p).1 = 1) (h3 : (ZE bs (p + 4)).2.2 ≠ 0) : Yc bs p = ([], p, (ZE bs (p + 4)).2.2) := by unfold Yc; rw [if_neg (by omega), if_neg h2, if_pos h3]
theorem gs_err {bs : List Int} {p : Nat} (h : (hmk bs p).2 = 0) (h2 : ¬ (hmk bs p).1 = 1) (h3 : (ZE bs (p + 4)).2.2 = 0) (h4 : (ZW bs (p + 8) (ZE bs (p + 4)).1).2.2 ≠ 0) : Yc bs p = ([], p, (ZW bs (p + 8) (ZE bs (p + 4)).1).2.2) := by
  unfold Yc; rw [if_neg (by omega), if_neg h2, if_neg (by omega), if_pos h4]
theorem gs_ok {bs : List Int} {p : Nat} (h : (hmk bs p).2 = 0) (h2 : ¬ (hmk bs p).1 = 1) (h3 : (ZE bs (p + 4)).2.2 = 0) (h4 : (ZW bs (p + 8) (ZE bs (p + 4)).1).2.2 = 0) : Yc bs p = ZW bs (p + 8) (ZE bs (p + 4)).1 := by
  unfold Yc; rw [if_neg (by omega), if_neg h2, if_neg (by omega), if_neg (by omega)]
theorem hmk_12 {bs : List Int} {p : Nat} (h : (hmk bs p).2 = 0) : (hmk bs p).1 = 1 ∨ (hmk bs p).1 = 2 := by
  unfold hmk at h ⊢
  split
  · rename_i c; rw [if_pos c] at h; simp at h
  rename_i c; rw [if_neg c] at h
  split
  · simp
  rename_i c2; rw [if_neg c2] at h
  split
  · simp
  rename_i c3; rw [if_neg c3] at h; simp at h
theorem hmk_len {bs : List Int} {p : Nat} (h : (hmk bs p).2 = 0) : ¬ bs.length < p + 4 := fun h2 => by have := hmk_short h2; simp_all
open Go.Fw _root_.Go.Proofs.Tryz
theorem payload_spec {pb : Nat} {a : Option Addr} {n c p : Nat} {bs : List Int} (w : World) (hp : Blk w pb [.slice a n c, .int .i64 p]) (hs : Sl w (fun g => g < w.heap.size ∧ g ≠ pb) 1 (.slice a n c) n (ints .u8 bs)) (hb : Byt bs) (hpn : p ≤ n) (hn : n ≤ 140737488355328) :
  Calls Tryz.prog 46 #[.pointer (some ⟨pb, 0, none⟩)] w (Ret fun v w' => ∃ (a' : Option Addr) (m' : Nat) (c' : Nat), v = .tuple #[.slice a' m' c', .int .i64 ((Yc bs p).2.2)] ∧ Blk w' pb [.slice a n c, .int .i64 (((Yc bs p).2.1 : Nat) : Int)] ∧ Own w' (fun g => w.heap.size ≤ g) 5 1 (.slice a' m' c') m' (ints .u8 ((Yc bs p).1)) ∧ (Yc bs p).1.length = m' ∧ Upd (Is pb) w w') := by
 have HU : Upd (fun b => b = pb) w w := Upd.refl _ _
 have hbl_hp := hp.lt
 have hl_hs := ZC hs
 have hc_hs := hs.cap.1
 obtain ⟨t, ht⟩ : ∃ t, t = min 8 (n - p) := ⟨_, rfl⟩
 refine Zq func46 rfl ntmps46 (by simp) (Sn (Qs 2 rfl (Za (Sn (Qs 1 rfl (Zj (Zv rfl call44 rfl) (isf_spec _ hp (hs.cur (by intro h1; have h3 : (pb < w.heap.size ∧ pb ≠ pb) := h1; first | omega | simp at h3)) hb (by omega) (by omega)) ?_))))))
 rintro v w1 ⟨rfl, hU1⟩
 have:=hU1.size
 refine Qs 5 rfl (Za (Sm (Qs 3 rfl ?_)))
 replace hp := hp.Zc hU1
 replace HU := HU.Zb hU1
 by_cases q1 : ((hmk bs p).2) = 0
 ·have hml := hmk_len q1
  rw [decide_eq_true q1]
  refine Gt (Qs 1 rfl (Zf (Zx (v := .bool (decide ((hmk bs p).1 = 1))) rfl rfl) (Za (W_if rfl (fun q2 => ?_) fun q2 => ?_))))
  ·refine Zl (Qs 1 rfl (Za (Sm (Qs 1 rfl (Zf (v := .bool true) (Yh (a := 6) (b := 0) rfl rfl) (Za (Ct (Sn (Qs 3 rfl (Za (Zn (Zg (v := .tuple #[.slice none 0 0, .int .i64 6]) rfl (Z2 results46 rfl rfl) ?_))))))))))))
   have HG := gs_kind (bs := bs) (p := p) q1 q2
   exact ⟨_, rfl, none, 0, 0, Yx rfl (by rw [HG]; first | done | rfl | simp [HB]), (by rw [HG]; simpa using hp), (by rw [HG]; exact Own.nil _ _ _ _), (by rw [HG]; rfl), HU⟩
  refine Zi (Sm (Qs 2 rfl (Za ?_)))
  have q3 : ¬ (((hmk bs p).2) ≠ 0) := (fun h2 => h2 q1)
  rw [decide_eq_false q3]
  refine Cf (Zi (Sn (Qs 1 rfl ?_)))
  replace hs := hs.Zc hU1
  refine Zj (Zy rfl call74 rfl rfl) (peek_k (t := t) (K := 8) _ hp (hs.cur (by intro h1; have h3 : (pb < w.heap.size ∧ pb ≠ pb) := h1; first | omega | simp at h3)) hb (by omega) (by omega) ht) ?_
  rintro v w2 ⟨a2, c2, rfl, hO2, hU2⟩
  have:=hU2.size
  replace hO2 := hO2.tight
  have hl_hO2 := ZC hO2.sl
  have hc_hO2 := hO2.sl.cap.1
  refine Zj (Zv rfl call21 rfl) (new_spec _ hO2.sl.any (by omega)) ?_
  rintro v w3 ⟨pb3, a3, c3, rfl, hp3, hO3, hpg_3, hU3⟩
  have:=hU3.size
  have hbl_hp3 := hp3.lt
  replace hO3 := hO3.tight
  have hl_hO3 := ZC hO3.sl
  have hc_hO3 := hO3.sl.cap.1
  refine Qs 1 rfl (Za (Sn (Qs 1 rfl (Zj (Zy rfl call75 rfl rfl) (cbytes_k (K := 4) (p := 0) _ hp3 (hO3.sl.cur (by intro h1; have h3 : ((w2.heap.size ≤ pb3 ∧ pb3 ≠ pb3) ∧ pb3 < w3.heap.size) := h1; first | omega | simp at h3)) (ZU (ZL hb _) _) (by omega) (by omega) (by omega)) ?_))))
  rintro v w4 ⟨a4, c4, rfl, hp4, hO4, hU4⟩
  have:=hU4.size
  have hbl_hp4 := hp4.lt
  replace hO4 := hO4.tight
  have hl_hO4 := ZC hO4.sl
  have hc_hO4 := hO4.sl.cap.1
  replace hp4 : Blk w4 pb3 [.slice a3 t c3, .int .i64 ((4 : Nat) : Int)] := hp4
  refine Za (Sn (Qs 1 rfl ?_))
  replace hp := ((hp.Zc hU2).Zc hU3).Zh hU4
  replace HU := ((HU.Zb hU2).Zb hU3).Zr hU4
  replace hO3 := hO3.Zh hU4
  by_cases q4 : (ZE bs (p + 4)).2.2 = 0
  ·have hgi := YD (bs := bs) q4
   have hgl := gword_le hb (p + 4)
   refine Zj (Zv rfl call51 rfl) (cword_at (x := (ZE bs (p + 4)).1) (q := 8) (er := 0) _ hp4 (hO3.sl.cur (by intro h1; have h3 : ((w2.heap.size ≤ pb3 ∧ pb3 ≠ pb3) ∧ pb3 < w3.heap.size) := h1; first | omega | simp at h3)) (ZU (ZL hb _) _) (by omega) (by omega) (gword_cut0 (by omega) q4 rfl)) ?_
   rintro v w5 ⟨rfl, hp5, hU5⟩
   have:=hU5.size
   have hbl_hp5 := hp5.lt
   refine Qs 5 rfl (Za (Sm (Qs 1 rfl (Zf (v := .bool false) (Yh (a := 0) (b := 0) rfl rfl) (Za (Cf (Zi (Sm (Qs 1 rfl (Zf (ZZ underlying32 underlying3 rfl ZY) (Qs 1 rfl ?_)))))))))))
   replace hp := hp.Zh hU5
   refine Zj (Zv rfl call22 rfl) (left_spec _ hp (by omega) (by omega) (by omega)) ?_
   rintro v w6 ⟨rfl, hU6⟩
   have:=hU6.size
   refine Xs rfl rfl (Qs 1 rfl (Za ?_))
   replace HU := (HU.Zr hU5).Zb hU6
   replace hp := hp.Zc hU6
   refine W_if rfl (fun q5 => ?_) fun q5 => ?_
   ·refine Sn (Qs 2 rfl (Za (Zn (Zg (v := .tuple #[.slice none 0 0, .int .i64 3]) rfl (Z2 results46 rfl rfl) ?_))))
    have HB := YP (bs := bs) (p := p + 8) (k := (ZE bs (p + 4)).1) (by omega) (by omega)
    have HG := gs_err q1 q2 q4 (by rw [HB]; show (3 : Int) ≠ 0; decide)
    rw [HB] at HG
    exact ⟨_, rfl, none, 0, 0, Yx rfl (by rw [HG]; first | done | rfl | simp [HB]), (by rw [HG]; simpa using hp), (by rw [HG]; exact Own.nil _ _ _ _), (by rw [HG]; rfl), HU⟩
   refine Zi (Sn (Qs 1 rfl ?_))
   replace hs := ((((hs.Zc hU2).Zc hU3).Zh hU4).Zh hU5).Zc hU6
   refine Zj (Zy rfl call75 rfl rfl) (cbytes_k (K := 8) _ hp (hs.cur (by intro h1; have h3 : (pb < w.heap.size ∧ pb ≠ pb) := h1; first | omega | simp at h3)) hb (by omega) (by omega) (by omega)) ?_
   rintro v w7 ⟨a7, c7, rfl, hp7, hO7, hU7⟩
   have:=hU7.size
   have hbl_hp7 := hp7.lt
   replace hO7 := hO7.tight
   have hl_hO7 := ZC hO7.sl
   have hc_hO7 := hO7.sl.cap.1
   refine Za (Sn (Qs 2 rfl (Zf (ZZ underlying32 underlying3 rfl ZY) ?_)))
   replace hs := hs.Zh hU7
   refine Zj (Zy rfl call75 rfl rfl) (bytes_spec _ hp7 (hs.cur (by intro h1; have h3 : (pb < w.heap.size ∧ pb ≠ pb) := h1; first | omega | simp at h3)) hb (by omega) (by omega)) ?_
   rintro v w8 ⟨a8, m8, c8, rfl, hp8, hO8, hm_8, hU8⟩
   have:=hU8.size
   have hbl_hp8 := hp8.lt
   replace hO8 := hO8.tight
   have hl_hO8 := ZC hO8.sl
   have hc_hO8 := hO8.sl.cap.1
   refine Qs 4 rfl (Za (Zn (Zg (v := .tuple #[.slice a8 m8 c8, .int .i64 ((ZW bs (p + 8) ((ZE bs (p + 4)).1)).2.2)]) rfl (Z2 results46 rfl rfl) ?_)))
   have HB := YR (bs := bs) (p := p + 8) (k := (ZE bs (p + 4)).1) (by omega) (by omega)
   have HG := gs_ok q1 q2 q4 (by rw [HB])
   exact ⟨_, rfl, _, _, _, Yx rfl (by rw [HG]), (by rw [HG]; exact hp8), (by rw [HG]; exact hO8.weak), (by rw [HG]; exact hm_8), ((HU.Zr hU7).Zr hU8)⟩
  refine Zj (Zv rfl call51 rfl) (cword_at (x := (ZE bs (p + 4)).1) (q := 4) (er := (ZE bs (p + 4)).2.2) _ hp4 (hO3.sl.cur (by intro h1; have h3 : ((w2.heap.size ≤ pb3 ∧ pb3 ≠ pb3) ∧ pb3 < w3.heap.size) := h1; first | omega | simp at h3)) (ZU (ZL hb _) _) (by omega) (by omega) (gword_cutE (by omega) q4)) ?_
  rintro v w9 ⟨rfl, hp9, hU9⟩
  have:=hU9.size
  have hbl_hp9 := hp9.lt
  refine Qs 5 rfl (Za (Sm (Qs 2 rfl (Za ?_))))
  have q6 : ((ZE bs (p + 4)).2.2) ≠ 0 := q4
  rw [decide_eq_true q6]
  refine Ct (Sn (Qs 3 rfl (Za (Zn (Zg (v := .tuple #[.slice none 0 0, .int .i64 ((ZE bs (p + 4)).2.2)]) rfl (Z2 results46 rfl rfl) ?_)))))
  have HG := gs_word q1 q2 q4
  exact ⟨_, rfl, none, 0, 0, Yx rfl (by rw [HG]; first | done | rfl | simp [HB]), (by rw [HG]; simpa using (hp.Zh hU9)), (by rw [HG]; exact Own.nil _ _ _ _), (by rw [HG]; rfl), (HU.Zr hU9)⟩
 rw [decide_eq_false q1]
 refine Gf (Zf (Zw (v := .bool false) rfl rfl) (Za (Cf (Zi (Sm (Qs 2 rfl (Za ?_)))))))
 have q7 : ((hmk bs p).2) ≠ 0 := q1
 rw [decide_eq_true q7]
 refine Ct (Sn (Qs 3 rfl (Za (Zn (Zg (v := .tuple #[.slice none 0 0, .int .i64 ((hmk bs p).2)]) rfl (Z2 results46 rfl rfl) ?_)))))
 have HG := gs_mk (bs := bs) (p := p) q1
 exact ⟨_, rfl, none, 0, 0, Yx rfl (by rw [HG]; first | done | rfl | simp [HB]), (by rw [HG]; simpa using hp), (by rw [HG]; exact Own.nil _ _ _ _), (by rw [HG]; rfl), HU⟩
theorem rcontent {a : Option Addr} {n c p : Nat} {bs : List Int} {R : Nat → Prop} (w : World) (hs : Sl w R 1 (.slice a n c) n (ints .u8 bs)) (hb : Byt bs) (hpn : p ≤ n) (hn : n ≤ 140737488355328) :
  Calls Tryz.prog 14 #[.slice a n c, .int .i64 p] w (Ret fun v w' => ∃ (a' : Option Addr) (m' : Nat) (c' : Nat), v = .tuple #[.slice a' m' c', .int .i64 (((Yc bs p).2.1 : Nat) : Int), .int .i64 ((Yc bs p).2.2)] ∧ Sl w' R 1 (.slice a' m' c') m' (ints .u8 ((Yc bs p).1)) ∧ (Yc bs p).1.length = m' ∧ Upd No w w') := by
 have HU := Upd.Yo w
 have hl_hs := ZC hs
 have hc_hs := hs.cap.1
 refine Zq func14 rfl ntmps14 (by simp) (Sn (Qs 3 rfl (Za (Sn (Qs 2 rfl ?_)))))
 replace hs := hs.tight
 refine Zj (Zy rfl call13 rfl rfl) (rmark _ hs.any hb (by omega) (by omega)) ?_
 rintro v w1 ⟨rfl, hU1⟩
 have:=hU1.size
 refine Qs 5 rfl (Za (Sm (Qs 2 rfl (Za ?_))))
 replace HU := HU.Zb hU1
 by_cases q1 : ((hmk bs p).2) ≠ 0
 ·rw [decide_eq_true q1]
  refine Ct (Sn (Qs 5 rfl (Za (Zn (Zg (v := .tuple #[.slice none 0 0, .int .i64 p, .int .i64 ((hmk bs p).2)]) rfl (Yr results14 rfl rfl rfl) ?_)))))
  have HG := gs_mk (bs := bs) (p := p) q1
  exact ⟨_, rfl, none, 0, 0, Y6 rfl (Zt (by rw [HG]; first | done | rfl | (simp [HB]; done) | (dsimp only; omega))) (by rw [HG]; first | done | rfl | simp [HB]), (by rw [HG]; exact Sl.nil _ _ _), (by rw [HG]; rfl), HU⟩
 have hml := hmk_len (Classical.not_not.1 q1)
 have h12 := hmk_12 (Classical.not_not.1 q1)
 rw [decide_eq_false q1]
 refine Cf (Zi (Sm (Qs 2 rfl (Za (W_if rfl (fun q2 => ?_) fun q2 => ?_)))))
 ·refine Sn (Qs 4 rfl (Za (Zn (Zg (v := .tuple #[.slice none 0 0, .int .i64 p, .int .i64 6]) rfl (Yr results14 rfl rfl rfl) ?_))))
  have HG := gs_kind (bs := bs) (p := p) (Classical.not_not.1 q1) (by omega)
  exact ⟨_, rfl, none, 0, 0, Y6 rfl (Zt (by rw [HG]; first | done | rfl | (simp [HB]; done) | (dsimp only; omega))) (by rw [HG]; first | done | rfl | simp [HB]), (by rw [HG]; exact Sl.nil _ _ _), (by rw [HG]; rfl), HU⟩
 refine Zi (Sn (Qs 2 rfl (Xd rfl rfl ?_)))
 replace hs := hs.Zc hU1
 refine Zj (Zy rfl call28 (v1 := .int .i64 ((p + 4 : Nat) : Int)) rfl Zt) (rgetword_spec _ hs.any hb (by omega) (by omega)) ?_
 rintro v w2 ⟨rfl, hU2⟩
 have:=hU2.size
 refine Qs 7 rfl (Za (Sm (Qs 2 rfl (Za ?_))))
 replace HU := HU.Zb hU2
 by_cases q3 : ((ZE bs (p + 4)).2.2) ≠ 0
 ·rw [decide_eq_true q3]
  refine Ct (Sn (Qs 5 rfl (Za (Zn (Zg (v := .tuple #[.slice none 0 0, .int .i64 p, .int .i64 ((ZE bs (p + 4)).2.2)]) rfl (Yr results14 rfl rfl rfl) ?_)))))
  have HG := gs_word (Classical.not_not.1 q1) (by omega) q3
  exact ⟨_, rfl, none, 0, 0, Y6 rfl (Zt (by rw [HG]; first | done | rfl | (simp [HB]; done) | (dsimp only; omega))) (by rw [HG]; first | done | rfl | simp [HB]), (by rw [HG]; exact Sl.nil _ _ _), (by rw [HG]; rfl), HU⟩
 have hgi := YD (bs := bs) (Classical.not_not.1 q3)
 have hgl := gword_le hb (p + 4)
 rw [decide_eq_false q3]
 refine Cf (Zi (Sn (Qs 3 rfl (Zf (ZZ underlying32 underlying3 rfl ZY) ?_))))
 replace hs := hs.Zc hU2
 by_cases q4 : (ZE bs (p + 4)).1 ≤ ((n - (p + 8) : Nat) : Int)
 ·have HB := YR (bs := bs) (p := p + 8) (k := (ZE bs (p + 4)).1) (by omega) (by omega)
  refine Zj (Z5 rfl call29 (v1 := .int .i64 ((p + 8 : Nat) : Int)) rfl Zt rfl) (rbytes_spec _ hs hb (by omega) (by omega)) ?_
  rintro v w3 ⟨a3, m3, c3, rfl, hB3, hm_3, hU3⟩
  have:=hU3.size
  have hl_hB3 := ZC hB3
  have hc_hB3 := hB3.cap.1
  refine Qs 7 rfl (Za (Sm (Qs 2 rfl (Za ?_))))
  have q5 : ¬ (((ZW bs (p + 8) ((ZE bs (p + 4)).1)).2.2) ≠ 0) := (by rw [HB]; simp)
  rw [decide_eq_false q5]
  refine Cf (Zi (Sn (Qs 5 rfl (Za (Zn (Zg (v := .tuple #[.slice a3 m3 c3, .int .i64 (((ZW bs (p + 8) ((ZE bs (p + 4)).1)).2.1 : Nat) : Int), .int .i64 0]) rfl (Yr results14 rfl rfl rfl) ?_))))))
  have HB := YR (bs := bs) (p := p + 8) (k := (ZE bs (p + 4)).1) (by omega) (by omega)
  have HG := gs_ok (Classical.not_not.1 q1) (by omega) (Classical.not_not.1 q3) (by rw [HB])
  exact ⟨_, rfl, _, _, _, Y6 rfl (by rw [HG]) (by rw [HG, HB]), (by rw [HG]; exact hB3.weak (by intro g hg; have h3 : ((R g) ∧ g < w.heap.size) := hg; exact h3.1)), (by rw [HG]; exact hm_3), (HU.Zb hU3)⟩
 have HB := YP (bs := bs) (p := p + 8) (k := (ZE bs (p + 4)).1) (by omega) (by omega)
 refine Zj (Z5 rfl call29 (v1 := .int .i64 ((p + 8 : Nat) : Int)) rfl Zt rfl) (rbytes_spec _ hs hb (by omega) (by omega)) ?_
 rintro v w4 ⟨a4, m4, c4, rfl, hB4, hm_4, hU4⟩
 have:=hU4.size
 have hl_hB4 := ZC hB4
 have hc_hB4 := hB4.cap.1
 refine Qs 7 rfl (Za (Sm (Qs 2 rfl (Za ?_))))
 have q6 : ((ZW bs (p + 8) ((ZE bs (p + 4)).1)).2.2) ≠ 0 := (by rw [HB]; show (3 : Int) ≠ 0; decide)
 rw [decide_eq_true q6]
 refine Ct (Sn (Qs 5 rfl (Za (Zn (Zg (v := .tuple #[.slice none 0 0, .int .i64 p, .int .i64 ((ZW bs (p + 8) ((ZE bs (p + 4)).1)).2.2)]) rfl (Yr results14 rfl rfl rfl) ?_)))))
 have HB := YP (bs := bs) (p := p + 8) (k := (ZE bs (p + 4)).1) (by omega) (by omega)
 have HG := gs_err (Classical.not_not.1 q1) (by omega) (Classical.not_not.1 q3) (by rw [HB]; show (3 : Int) ≠ 0; decide)
 rw [HB] at HG
 exact ⟨_, rfl, none, 0, 0, Y6 rfl (Zt (by rw [HG]; first | done | rfl | (simp [HB]; done) | (dsimp only; omega))) (by rw [HG]; first | done | rfl | simp [HB]), (by rw [HG]; exact Sl.nil _ _ _), (by rw [HG]; rfl), (HU.Zb hU4)⟩
end Go.Proofs.YtbjjhfoeckkacaaGreatDoor
