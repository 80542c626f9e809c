/-
 Walks, printed by a small program of this project (gen.py).
-/
import Derived.Test.YtdppageondgjkaaGreatVc
set_option linter.unusedVariables false
set_option linter.unusedSimpArgs false
set_option maxRecDepth 100000
namespace Go.Proofs.YtdppageondgjkaaGreat
open Go.Fw _root_.Go.Proofs.Tryz
open Nu
abbrev dz1 (l b : List Int) (n : Int) : List Int × Int := dcF l (y1 b).1 ((n + 3) / 4)
abbrev dz2 (l b : List Int) (n : Int) : List Int × Int := dcF l (y2 b).1 ((n + 3) / 4)
abbrev dz3 (l b : List Int) (n : Int) : List Int × Int := dcF l (y3 b).1 ((n + 3) / 4)
abbrev dz4 (l b : List Int) (n : Int) : List Int × Int := dcF l (y4 b) (n - 3 * ((n + 3) / 4))
def hdF (l b : List Int) (n : Int) : Int := if ¬ Rt l then 12 else if paF n ≠ 0 then paF n else e4 b
def d4F (l b : List Int) (n : Int) : List Int × Int := if hdF l b n ≠ 0 then ([], hdF l b n) else if (dz1 l b n).2 ≠ 0 then ([], (dz1 l b n).2) else if (dz2 l b n).2 ≠ 0 then ([], (dz2 l b n).2) else
 if (dz3 l b n).2 ≠ 0 then ([], (dz3 l b n).2) else if (dz4 l b n).2 ≠ 0 then ([], (dz4 l b n).2) else ((dz1 l b n).1 ++ ((dz2 l b n).1 ++ ((dz3 l b n).1 ++ (dz4 l b n).1)), 0)
theorem hdF_r {l b : List Int} {n : Int} (h : ¬ Rt l) : hdF l b n = 12 := by rw [hdF, if_pos h]
theorem hdF_p {l b : List Int} {n : Int} (hr : Rt l) (h : ¬ paF n = 0) : hdF l b n = paF n := by rw [hdF, if_neg (not_not_intro hr), if_pos h]
theorem hdF_e {l b : List Int} {n : Int} (hr : Rt l) (h : paF n = 0) : hdF l b n = e4 b := by rw [hdF, if_neg (not_not_intro hr), if_neg (not_not_intro h)]
theorem d4F_h {l b : List Int} {n : Int} (h : ¬ hdF l b n = 0) : d4F l b n = ([], hdF l b n) := by rw [d4F, if_pos h]
theorem d4F_1 {l b : List Int} {n : Int} (h0 : hdF l b n = 0) (h : ¬ (dz1 l b n).2 = 0) : d4F l b n = ([], (dz1 l b n).2) := by rw [d4F, if_neg (not_not_intro h0), if_pos h]
theorem d4F_2 {l b : List Int} {n : Int} (h0 : hdF l b n = 0) (h1 : (dz1 l b n).2 = 0) (h : ¬ (dz2 l b n).2 = 0) : d4F l b n = ([], (dz2 l b n).2) := by rw [d4F, if_neg (not_not_intro h0), if_neg (not_not_intro h1), if_pos h]
theorem d4F_3 {l b : List Int} {n : Int} (h0 : hdF l b n = 0) (h1 : (dz1 l b n).2 = 0) (h2 : (dz2 l b n).2 = 0) (h : ¬ (dz3 l b n).2 = 0) : d4F l b n = ([], (dz3 l b n).2) := by rw [d4F, if_neg (not_not_intro h0), if_neg (not_not_intro h1), if_neg (not_not_intro h2), if_pos h]
theorem d4F_4 {l b : List Int} {n : Int} (h0 : hdF l b n = 0) (h1 : (dz1 l b n).2 = 0) (h2 : (dz2 l b n).2 = 0) (h3 : (dz3 l b n).2 = 0) (h : ¬ (dz4 l b n).2 = 0) : d4F l b n = ([], (dz4 l b n).2) := by
 rw [d4F, if_neg (not_not_intro h0), if_neg (not_not_intro h1), if_neg (not_not_intro h2), if_neg (not_not_intro h3), if_pos h]
theorem d4F_ok {l b : List Int} {n : Int} (h0 : hdF l b n = 0) (h1 : (dz1 l b n).2 = 0) (h2 : (dz2 l b n).2 = 0) (h3 : (dz3 l b n).2 = 0) (h4 : (dz4 l b n).2 = 0) : d4F l b n = ((dz1 l b n).1 ++ ((dz2 l b n).1 ++ ((dz3 l b n).1 ++ (dz4 l b n).1)), 0) := by
 rw [d4F, if_neg (not_not_intro h0), if_neg (not_not_intro h1), if_neg (not_not_intro h2), if_neg (not_not_intro h3), if_neg (not_not_intro h4)]
theorem d4F_inv {l b : List Int} {n : Int} (h : (d4F l b n).2 = 0) : hdF l b n = 0 ∧ (dz1 l b n).2 = 0 ∧ (dz2 l b n).2 = 0 ∧ (dz3 l b n).2 = 0 ∧ (dz4 l b n).2 = 0 := by
 have h0 : hdF l b n = 0 := Classical.byContradiction fun hn => by rw [d4F_h hn] at h; exact hn h
 have h1 : (dz1 l b n).2 = 0 := Classical.byContradiction fun hn => by rw [d4F_1 h0 hn] at h; exact hn h
 have h2 : (dz2 l b n).2 = 0 := Classical.byContradiction fun hn => by rw [d4F_2 h0 h1 hn] at h; exact hn h
 have h3 : (dz3 l b n).2 = 0 := Classical.byContradiction fun hn => by rw [d4F_3 h0 h1 h2 hn] at h; exact hn h
 have h4 : (dz4 l b n).2 = 0 := Classical.byContradiction fun hn => by rw [d4F_4 h0 h1 h2 h3 hn] at h; exact hn h
 exact ⟨h0, h1, h2, h3, h4⟩
theorem pa_rng {n : Int} (h : paF n = 0) : 0 ≤ (n + 3) / 4 ∧ (n + 3) / 4 ≤ 131072 ∧ 0 ≤ n - 3 * ((n + 3) / 4) ∧ n - 3 * ((n + 3) / 4) ≤ 131072 := by
 have := paF_inv h; omega
theorem gbl_le {b : List Int} (p : Nat) (k : Int) : (gbytes b p k).1.length ≤ b.length := gbytes_len2
theorem gby_byt {b : List Int} (h : Byt b) (p : Nat) (k : Int) : Byt (gbytes b p k).1 := by
 unfold gbytes
 split
 ·exact byt_nil
 split
 ·exact byt_nil
 exact (h.drop _).take _
theorem dcF_len {l b : List Int} (hb : Byt b) (n : Int) : (dcF l b n).1.length ≤ 8 * b.length := by
 unfold dcF
 split
 ·simp
 next hr =>
 split
 ·simp
 split
 ·simp
 next hc =>
 have h1 := (nb_spec (Classical.not_not.1 hr) (wn b) (tbt b)).2.2
 have h2 := (cl_bd hb (Classical.not_not.1 hc)).2.2.2
 split
 ·next h =>
  have h3 := (gd_le (Classical.not_not.1 hr)).1 h.1
  show (yms l (wn b) (tbt b) n.toNat).length ≤ _
  rw [yms_len]; omega
 simp
theorem dcF_byt (l b : List Int) (n : Int) : Byt (dcF l b n).1 := by
 unfold dcF
 split
 ·exact byt_nil
 next hr =>
 split
 ·exact byt_nil
 split
 ·exact byt_nil
 split
 ·next h => exact yms_byt (Classical.not_not.1 hr) h.1
 exact byt_nil
theorem dcl_0 {bo : Nat} {a : Option Addr} {n c : Nat} {x : List Int} {ix : Int} (w : World) (hBo : Blk w bo [.slice none 0 0]) (hs : Sl w (fun g => g < w.heap.size) 1 (.slice a n c) n (ints .u8 x)) (hn : n ≤ 100000000) :
  Calls Tryz.prog 50 #[.int .i64 ix, .slice a n c, .pointer (some ⟨bo, 0, none⟩)] w (Ret fun v w' => ∃ (a' : Option Addr) (c' : Nat), v = .bool true ∧ Blk w' bo [.slice a' n c'] ∧ Own w' (fun g => w.heap.size ≤ g) 5 1 (.slice a' n c') n (ints .u8 x) ∧ Upd (Is bo) w w') := by
 have HU : Upd (fun b => b = bo) w w := Upd.refl _ _
 have hbl_hBo := hBo.lt
 have hl_hs := ilen hs
 have hc_hs := hs.cap.1
 refine calls_of_W func50 rfl ntmps50 (by simp) ?_
 refine W_seq (W_region ?_)
 refine Was (.bool false) ?_
 refine Wl_nil (W_seq (W_region ?_))
 refine Wl_load (v := .slice none 0 0) isAgg32 rfl hBo rfl ?_
 refine Wmv (.slice a n c) ?_
 refine Wl_appendi (xs := []) (ys := x) (zs := x) (k' := .u8) (tot := n) (by first | rfl | exact (rows_app _ _).symm | simp) underlying32 (ti := Tryz.t5) (z := .int .u8 0) (sz := 1) (by' := 1) rfl rfl rfl rfl rfl (by decide) rfl (Own.nil _ No _ _) rfl hs  (by omega) (by simp only [maxLen]; omega) (by omega) ?_
 intro a1 c1 w1 hU1 hzz1 hO1
 have hzw1 := hU1.size
 replace hBo := hBo.upd0 hU1
 replace HU := HU.trans0 hU1
 replace hO1 := hO1.weak (R' := fun g => g = w.heap.size) (fun g h => h.elim (fun x => x.elim) id)
 replace hO1 := hO1.tight
 have hl_hO1 := ilen hO1.sl
 have hc_hO1 := hO1.sl.cap.1
 refine Wl_store (v := .slice a1 n c1) (cs' := [.slice a1 n c1]) sizeOf32 rfl rfl rfl rfl hBo rfl rfl ?_
 intro w2 hU2 hzz2 hBon
 replace hBo := hBon; clear hBon
 have hzw2 := hU2.size
 replace HU := HU.trans1 hU2 (by show (bo = bo) ∨ w.heap.size ≤ bo; omega)
 replace hO1 := hO1.upd1 hU2 (by intro h1; have h3 : ((bo = w.heap.size) ∧ bo < w1.heap.size) := h1; omega)
 refine Wl_nil (W_seq (W_region ?_))
 refine Was (.bool true) ?_
 refine Wl_nil ?_
 refine W_ret ?_
 refine ret_end (v := .bool true) rfl (res1 results50 rfl) ?_
 exact ⟨_, rfl, a1, c1, rfl, hBo, (hO1.weak (by intro g hg; have h3 : ((g = w.heap.size) ∧ g < w1.heap.size) := hg; show w.heap.size ≤ g; omega)), HU⟩
theorem dcl_1 {bo : Nat} {a a2 : Option Addr} {n c m d G0 : Nat} {x y : List Int} {ix : Int} {R : Nat → Prop} (w : World) (hBo : Blk w bo [.slice a2 m d]) (hO : Own w (fun g => G0 ≤ g ∧ g < w.heap.size) 5 1 (.slice a2 m d) m (ints .u8 y)) (hs : Sl w R 1 (.slice a n c) n (ints .u8 x)) (hn : n ≤ 100000000 ∧ m ≤ 1000000000) (hbo : bo < G0 ∧ G0 ≤ w.heap.size) :
  Calls Tryz.prog 50 #[.int .i64 ix, .slice a n c, .pointer (some ⟨bo, 0, none⟩)] w (Ret fun v w' => ∃ (a' : Option Addr) (c' : Nat), v = .bool true ∧ Blk w' bo [.slice a' (m + n) c'] ∧ Own w' (fun g => G0 ≤ g) 5 1 (.slice a' (m + n) c') (m + n) (ints .u8 (y ++ x)) ∧ Upd (fun g => g = bo ∨ G0 ≤ g) w w') := by
 have HU : Upd (fun b => b = bo ∨ G0 ≤ b) w w := Upd.refl _ _
 have hbl_hBo := hBo.lt
 have hl_hO := ilen hO.sl
 have hc_hO := hO.sl.cap.1
 have hl_hs := ilen hs
 have hc_hs := hs.cap.1
 replace hs := hs.tight
 refine calls_of_W func50 rfl ntmps50 (by simp) ?_
 refine W_seq (W_region ?_)
 refine Was (.bool false) ?_
 refine Wl_nil (W_seq (W_region ?_))
 refine Wl_load (v := .slice a2 m d) isAgg32 rfl hBo rfl ?_
 refine Wmv (.slice a n c) ?_
 refine Wl_appendi (xs := y) (ys := x) (zs := y ++ x) (k' := .u8) (tot := m + n) (by first | rfl | exact (rows_app _ _).symm | simp) underlying32 (ti := Tryz.t5) (z := .int .u8 0) (sz := 1) (by' := 1) rfl rfl rfl rfl rfl (by decide) rfl hO rfl hs  (by omega) (by simp only [maxLen]; omega) (by omega) ?_
 intro a1 c1 w1 hU1 hzz1 hO1
 clear hO
 have hzw1 := hU1.size
 replace hBo := hBo.upd hU1 (by intro hx; have hx2 : G0 ≤ bo ∧ bo < w.heap.size := hx; omega)
 replace HU := HU.trans hU1 (by intro x hx; have hx2 : G0 ≤ x ∧ x < w.heap.size := hx; show (x = bo ∨ G0 ≤ x) ∨ w.heap.size ≤ x; omega)
 replace hO1 := hO1.tight
 have hl_hO1 := ilen hO1.sl
 have hc_hO1 := hO1.sl.cap.1
 refine Wl_store (v := .slice a1 (m + n) c1) (cs' := [.slice a1 (m + n) c1]) sizeOf32 rfl rfl rfl rfl hBo rfl rfl ?_
 intro w2 hU2 hzz2 hBon
 replace hBo := hBon; clear hBon
 have hzw2 := hU2.size
 replace HU := HU.trans1 hU2 (by show (bo = bo ∨ G0 ≤ bo) ∨ w.heap.size ≤ bo; omega)
 replace hO1 := hO1.upd1 hU2 (by intro h1; have h3 : ((((G0 ≤ bo ∧ bo < w.heap.size) ∨ bo = w.heap.size)) ∧ bo < w1.heap.size) := h1; omega)
 refine Wl_nil (W_seq (W_region ?_))
 refine Was (.bool true) ?_
 refine Wl_nil ?_
 refine W_ret ?_
 refine ret_end (v := .bool true) rfl (res1 results50 rfl) ?_
 exact ⟨_, rfl, a1, c1, rfl, hBo, (hO1.weak (by intro g hg; have h3 : ((((G0 ≤ g ∧ g < w.heap.size) ∨ g = w.heap.size)) ∧ g < w1.heap.size) := hg; show G0 ≤ g; omega)), HU⟩
theorem d4F_err {l b : List Int} {n : Int} (h : ¬ (d4F l b n).2 = 0) : (d4F l b n).1 = [] := by
 by_cases h0 : hdF l b n = 0
 ·by_cases h1 : (dz1 l b n).2 = 0
  ·by_cases h2 : (dz2 l b n).2 = 0
   ·by_cases h3 : (dz3 l b n).2 = 0
    ·by_cases h4 : (dz4 l b n).2 = 0
     ·rw [d4F_ok h0 h1 h2 h3 h4] at h; exact absurd rfl h
     rw [d4F_4 h0 h1 h2 h3 h4]
    rw [d4F_3 h0 h1 h2 h3]
   rw [d4F_2 h0 h1 h2]
  rw [d4F_1 h0 h1]
 rw [d4F_h h0]
def zL (l b : List Int) (n : Int) : List (List Int) := [(dz1 l b n).1, (dz2 l b n).1, (dz3 l b n).1, (dz4 l b n).1]
def nE (l b : List Int) (n : Int) : Nat := if hdF l b n ≠ 0 then 0 else if (dz1 l b n).2 ≠ 0 then 0 else if (dz2 l b n).2 ≠ 0 then 1 else if (dz3 l b n).2 ≠ 0 then 2 else if (dz4 l b n).2 ≠ 0 then 3 else 4
theorem nE_h {l b : List Int} {n : Int} (h : ¬ hdF l b n = 0) : nE l b n = 0 := by rw [nE, if_pos h]
theorem nE_1 {l b : List Int} {n : Int} (h0 : hdF l b n = 0) (h : ¬ (dz1 l b n).2 = 0) : nE l b n = 0 := by rw [nE, if_neg (not_not_intro h0), if_pos h]
theorem nE_2 {l b : List Int} {n : Int} (h0 : hdF l b n = 0) (h1 : (dz1 l b n).2 = 0) (h : ¬ (dz2 l b n).2 = 0) : nE l b n = 1 := by rw [nE, if_neg (not_not_intro h0), if_neg (not_not_intro h1), if_pos h]
theorem nE_3 {l b : List Int} {n : Int} (h0 : hdF l b n = 0) (h1 : (dz1 l b n).2 = 0) (h2 : (dz2 l b n).2 = 0) (h : ¬ (dz3 l b n).2 = 0) : nE l b n = 2 := by rw [nE, if_neg (not_not_intro h0), if_neg (not_not_intro h1), if_neg (not_not_intro h2), if_pos h]
theorem nE_4 {l b : List Int} {n : Int} (h0 : hdF l b n = 0) (h1 : (dz1 l b n).2 = 0) (h2 : (dz2 l b n).2 = 0) (h3 : (dz3 l b n).2 = 0) (h : ¬ (dz4 l b n).2 = 0) : nE l b n = 3 := by
 rw [nE, if_neg (not_not_intro h0), if_neg (not_not_intro h1), if_neg (not_not_intro h2), if_neg (not_not_intro h3), if_pos h]
theorem nE_ok {l b : List Int} {n : Int} (h0 : hdF l b n = 0) (h1 : (dz1 l b n).2 = 0) (h2 : (dz2 l b n).2 = 0) (h3 : (dz3 l b n).2 = 0) (h4 : (dz4 l b n).2 = 0) : nE l b n = 4 := by
 rw [nE, if_neg (not_not_intro h0), if_neg (not_not_intro h1), if_neg (not_not_intro h2), if_neg (not_not_intro h3), if_neg (not_not_intro h4)]
def accF (l b : List Int) (n : Int) : List Int := ((zL l b n).take (nE l b n)).flatten
theorem accF_ok {l b : List Int} {n : Int} (h : (d4F l b n).2 = 0) : accF l b n = (d4F l b n).1 := by
 obtain ⟨h0, h1, h2, h3, h4⟩ := d4F_inv h
 rw [accF, nE_ok h0 h1 h2 h3 h4, d4F_ok h0 h1 h2 h3 h4]
 simp [zL]
set_option maxHeartbeats 2000000 in
theorem goes_all {bo : Nat} {a a2 : Option Addr} {n c m d : Nat} {l b : List Int} {nn : Int} (w : World) (hs : Sl w (fun g => g < bo) 1 (.slice a n c) n (ints .i64 l)) (hn : n ≤ 1000) (hsb : Sl w (fun g => g < bo) 1 (.slice a2 m d) m (ints .u8 b)) (hb : Byt b) (hm : m ≤ 100000) (hni : -9223372036854775808 ≤ nn ∧ nn ≤ 9223372036854775807) (hBo : Blk w bo [.slice none 0 0]) :
  Calls Tryz.prog 49 #[.slice a n c, .slice a2 m d, .int .i64 nn, .func (.func 50) #[] #[.pointer (some ⟨bo, 0, none⟩)]] w (Ret fun v w' => ∃ (a' : Option Addr) (m' : Nat) (c' : Nat), v = .int .i64 ((d4F l b nn).2) ∧ Blk w' bo [.slice a' m' c'] ∧ Own w' (fun g => w.heap.size ≤ g) 5 1 (.slice a' m' c') m' (ints .u8 (accF l b nn)) ∧ Upd (Is bo) w w') := by
 have HU : Upd (fun b => b = bo) w w := Upd.refl _ _
 have hl_hs := ilen hs
 have hc_hs := hs.cap.1
 replace hs := hs.tight
 have hl_hsb := ilen hsb
 have hc_hsb := hsb.cap.1
 replace hsb := hsb.tight
 have hbl_hBo := hBo.lt
 refine calls_of_W func49 rfl ntmps49 (by simp) ?_
 refine W_seq (W_region ?_)
 refine Wl_alloc (cs := [.int .i64 0]) zeroValue23 rfl ?_
 intro B1 w1 hB1 hU1 hzz1 hb1
 have hzw1 := hU1.size
 replace hs := hs.upd0 hU1
 replace hsb := hsb.upd0 hU1
 replace hBo := hBo.upd0 hU1
 replace HU := HU.trans0 hU1
 refine Wl_nil (W_seq (W_region ?_))
 refine Wl_defer2 rfl rfl ?_
 refine Wl_nil (W_seq (W_region ?_))
 refine Wmv (.slice a n c) ?_
 by_cases q1 : Rt l
 ·refine Wl_call (r_call1 rfl call56 rfl) (check_ok _ hs (by omega) q1) ?_
  rintro v w2 ⟨rfl, hU2⟩
  have hzw2 := hU2.size
  replace hs := hs.upd0 hU2
  replace hsb := hsb.upd0 hU2
  replace hBo := hBo.upd0 hU2
  replace HU := HU.trans0 hU2
  replace hb1 := hb1.upd0 hU2
  refine Wl_lit (pv := [(0, .int .i64 0)]) (cs := [.int .i64 0]) underlying112 sizeOf23 zeroValue23 (by decide) (by decide) (by simp only [List.map_toArray, List.map_cons, List.map_nil] <;> rfl) (by kernel_rfl) rfl (by decide) ?_
  intro B3 w3 hB3 hU3 hzz3 hs3
  have hzw3 := hU3.size
  replace hs := hs.upd0 hU3
  replace hsb := hsb.upd0 hU3
  replace hBo := hBo.upd0 hU3
  replace HU := HU.trans0 hU3
  replace hb1 := hb1.upd0 hU3
  replace hs3 : Own w3 (Is B3) 23 1 (.slice (some ⟨B3, 0, none⟩) 1 1) 1 (ints .i64 [0]) := hs3
  refine Wl_call (r_call1 rfl call38 rfl) (fmust_ok (er := 0) _ hs3.sl.any (by decide)) ?_
  rintro v w4 ⟨rfl, hU4⟩
  have hzw4 := hU4.size
  replace hs := hs.upd0 hU4
  replace hsb := hsb.upd0 hU4
  replace hBo := hBo.upd0 hU4
  replace HU := HU.trans0 hU4
  replace hb1 := hb1.upd0 hU4
  refine Wl_nil (W_seq (W_region ?_))
  refine Wmv (.int .i64 nn) ?_
  by_cases q2 : paF nn = 0
  ·have hpr := pa_rng q2
   refine Wl_call (r_call1 rfl call35 rfl) (parted_ok (n := nn) _ q2) ?_
   rintro v w5 ⟨rfl, hU5⟩
   have hzw5 := hU5.size
   replace hs := hs.upd0 hU5
   replace hsb := hsb.upd0 hU5
   replace hBo := hBo.upd0 hU5
   replace HU := HU.trans0 hU5
   replace hb1 := hb1.upd0 hU5
   refine Wl_alloc (cs := [.int .i64 0, .int .i64 0, .int .i64 0, .int .i64 0]) zeroValue65 rfl ?_
   intro B6 w6 hB6 hU6 hzz6 hb6
   have hzw6 := hU6.size
   replace hs := hs.upd0 hU6
   replace hsb := hsb.upd0 hU6
   replace hBo := hBo.upd0 hU6
   replace HU := HU.trans0 hU6
   replace hb1 := hb1.upd0 hU6
   refine Wl_storea (off := 0) (vs := [.int .i64 ((nn + 3) / 4), .int .i64 ((nn + 3) / 4), .int .i64 ((nn + 3) / 4), .int .i64 (nn - 3 * ((nn + 3) / 4))]) (cs' := [.int .i64 ((nn + 3) / 4), .int .i64 ((nn + 3) / 4), .int .i64 ((nn + 3) / 4), .int .i64 (nn - 3 * ((nn + 3) / 4))]) sizeOf65 rfl rfl rfl (by simp only [List.mem_cons, List.not_mem_nil, or_false, forall_eq_or_imp, forall_eq]; exact ⟨rfl, rfl, rfl, rfl⟩) hb6 (by simp) rfl ?_
   intro w7 hU7 hzz7 hb6n
   replace hb6 := hb6n; clear hb6n
   have hzw7 := hU7.size
   replace hs := hs.upd1 hU7 (show ¬ (((B6 < bo) ∧ B6 < w.heap.size)) by omega)
   replace hsb := hsb.upd1 hU7 (show ¬ (((B6 < bo) ∧ B6 < w.heap.size)) by omega)
   replace hBo := hBo.upd1 hU7 (by omega)
   replace HU := HU.trans1 hU7 (by show (B6 = bo) ∨ w.heap.size ≤ B6; omega)
   replace hb1 := hb1.upd1 hU7 (by omega)
   refine Wl_nil (W_seq (W_seq (W_region ?_)))
   refine Wmv (.slice a2 m d) ?_
   refine Wl_call (r_call1 rfl call52 rfl) (Nu.new_spec _ hsb.any (by omega)) ?_
   rintro v w8 ⟨pb8, a8, c8, rfl, hp8, hO8, hpg_8, hU8⟩
   have hzw8 := hU8.size
   replace hs := hs.upd0 hU8
   replace hBo := hBo.upd0 hU8
   replace HU := HU.trans0 hU8
   replace hb1 := hb1.upd0 hU8
   replace hb6 := hb6.upd0 hU8
   have hbl_hp8 := hp8.lt
   replace hO8 := hO8.tight
   have hl_hO8 := ilen hO8.sl
   have hc_hO8 := hO8.sl.cap.1
   refine Wl_v (r_build (pl := #[(0, 1)]) (pv := [(0, .pointer (some ⟨pb8, 0, none⟩))]) (cs := #[.pointer (some ⟨pb8, 0, none⟩)]) zeroValue82 underlying82 (fun w => by kernel_rfl) (by simp only [List.map_toArray, List.map_cons, List.map_nil] <;> rfl) (by kernel_rfl)) ?_
   by_cases q3 : e4 b = 0
   ·refine Wl_call (r_call1 rfl call53 rfl) (strm_ok _ hp8 (hO8.sl.cur (by intro h1; have h3 : ((w7.heap.size ≤ pb8 ∧ pb8 ≠ pb8) ∧ pb8 < w8.heap.size) := h1; first | omega | simp at h3)) hb (by omega) q3) ?_
    rintro v w9 ⟨a9, c9, ja9, ka9, qa9, jb9, kb9, qb9, jc9, kc9, qc9, jd9, kd9, qd9, rfl, hS9, hOa9, hOb9, hOc9, hOd9, hU9⟩
    have hzw9 := hU9.size
    replace hs := hs.upd1 hU9 (show ¬ (((pb8 < bo) ∧ pb8 < w.heap.size)) by omega)
    replace hBo := hBo.upd1 hU9 (by omega)
    replace HU := HU.trans1 hU9 (by show (pb8 = bo) ∨ w.heap.size ≤ pb8; omega)
    replace hb1 := hb1.upd1 hU9 (by omega)
    replace hb6 := hb6.upd1 hU9 (by omega)
    replace hS9 := hS9.tight
    have hl_hS9 := hS9.sl.len
    have hc_hS9 := hS9.sl.cap.1
    replace hOa9 := hOa9.tight
    have hl_hOa9 := ilen hOa9.sl
    have hc_hOa9 := hOa9.sl.cap.1
    replace hOb9 := hOb9.tight
    have hl_hOb9 := ilen hOb9.sl
    have hc_hOb9 := hOb9.sl.cap.1
    replace hOc9 := hOc9.tight
    have hl_hOc9 := ilen hOc9.sl
    have hc_hOc9 := hOc9.sl.cap.1
    replace hOd9 := hOd9.tight
    have hl_hOd9 := ilen hOd9.sl
    have hc_hOd9 := hOd9.sl.cap.1
    have hgl9d := List.length_drop (i := (gbytes b (gbytes b (gbytes b (gnum b (gnum b (gnum b 0 131072).2.1 131072).2.1 131072).2.1 (gnum b 0 131072).1).2.1 (gnum b (gnum b 0 131072).2.1 131072).1).2.1 (gnum b (gnum b (gnum b 0 131072).2.1 131072).2.1 131072).1).2.1) (l := b)
    have hgl9a := gbl_le (b := b) ((gnum b (gnum b (gnum b 0 131072).2.1 131072).2.1 131072).2.1) ((gnum b 0 131072).1)
    have hgl9b := gbl_le (b := b) ((gbytes b (gnum b (gnum b (gnum b 0 131072).2.1 131072).2.1 131072).2.1 (gnum b 0 131072).1).2.1) ((gnum b (gnum b 0 131072).2.1 131072).1)
    have hgl9c := gbl_le (b := b) ((gbytes b (gbytes b (gnum b (gnum b (gnum b 0 131072).2.1 131072).2.1 131072).2.1 (gnum b 0 131072).1).2.1 (gnum b (gnum b 0 131072).2.1 131072).1).2.1) ((gnum b (gnum b (gnum b 0 131072).2.1 131072).2.1 131072).1)
    refine Wl_v (r_len underlying41 rfl) ?_
    refine Wmv (.int .i64 0) ?_
    refine Wl_nil (W_block ?_)
    refine W_unroll 5 ?_
    refine unrK_succ ?_
    refine W_seq (W_region ?_)
    refine Wl_v (v := .bool true) (r_lt (a := 0) (b := 4) rfl rfl) ?_
    refine Wl_nil (W_seq ?_)
    refine W_cond_t rfl ?_
    refine W_skip (W_seq (W_block (W_seq (W_region ?_))))
    refine Wmv (.int .i64 0) ?_
    refine Wl_idxc (i' := 0) (v := .slice ja9 ka9 qa9) underlying41 sizeOf32 rfl rfl (by first | rfl | omega) hS9.sl (by decide) rfl ?_
    intro ib10 io10 hc10
    refine Wl_loadc isAgg32 rfl hc10 ?_
    refine Was (.int .i64 0) ?_
    refine Was (.slice ja9 ka9 qa9) ?_
    refine Wl_nil (W_seq (W_region ?_))
    refine Wmv (.slice a n c) ?_
    refine Wmv (.slice ja9 ka9 qa9) ?_
    refine Wmv (.int .i64 0) ?_
    refine Wl_v (r_idxa (len := 4) (i' := 0) (o' := 0) underlying65 sizeOf3 rfl rfl (by omega) (by omega) (by omega)) ?_
    refine Wl_load (v := .int .i64 ((nn + 3) / 4)) isAgg3 rfl hb6 rfl ?_
    refine Wl_call (r_call3 rfl call80 rfl rfl rfl) (odec _ hs (by omega) hOa9.sl.any (gby_byt hb _ _) (by omega) (by omega)) ?_
    rintro v w11 ⟨a11, m11, c11, rfl, hO11, hU11⟩
    have hzw11 := hU11.size
    replace hs := hs.upd0 hU11
    replace hBo := hBo.upd0 hU11
    replace HU := HU.trans0 hU11
    replace hb1 := hb1.upd0 hU11
    replace hb6 := hb6.upd0 hU11
    replace hS9 := hS9.upd0 hU11
    replace hOb9 := hOb9.upd0 hU11
    replace hOc9 := hOc9.upd0 hU11
    replace hOd9 := hOd9.upd0 hU11
    replace hO11 := hO11.tight
    have hl_hO11 := ilen hO11.sl
    have hc_hO11 := hO11.sl.cap.1
    have hdl11 := dcF_len (l := l) (b := (gbytes b (gnum b (gnum b (gnum b 0 131072).2.1 131072).2.1 131072).2.1 (gnum b 0 131072).1).1) (gby_byt hb _ _) ((nn + 3) / 4)
    refine Wmv (.tuple #[.slice a11 m11 c11, .int .i64 ((dcF l ((gbytes b (gnum b (gnum b (gnum b 0 131072).2.1 131072).2.1 131072).2.1 (gnum b 0 131072).1).1) ((nn + 3) / 4)).2)]) ?_
    refine Wl_v (r_ext (v := .slice a11 m11 c11) rfl rfl) ?_
    refine Wl_v (r_ext (v := .int .i64 ((dcF l ((gbytes b (gnum b (gnum b (gnum b 0 131072).2.1 131072).2.1 131072).2.1 (gnum b 0 131072).1).1) ((nn + 3) / 4)).2)) rfl rfl) ?_
    refine Was (.slice a11 m11 c11) ?_
    refine Was (.int .i64 ((dcF l ((gbytes b (gnum b (gnum b (gnum b 0 131072).2.1 131072).2.1 131072).2.1 (gnum b 0 131072).1).1) ((nn + 3) / 4)).2)) ?_
    refine Wl_nil (W_seq (W_region ?_))
    refine Wmv (.int .i64 ((dcF l ((gbytes b (gnum b (gnum b (gnum b 0 131072).2.1 131072).2.1 131072).2.1 (gnum b 0 131072).1).1) ((nn + 3) / 4)).2)) ?_
    refine Wl_lit (pv := [(0, .int .i64 ((dcF l ((gbytes b (gnum b (gnum b (gnum b 0 131072).2.1 131072).2.1 131072).2.1 (gnum b 0 131072).1).1) ((nn + 3) / 4)).2))]) (cs := [.int .i64 ((dcF l ((gbytes b (gnum b (gnum b (gnum b 0 131072).2.1 131072).2.1 131072).2.1 (gnum b 0 131072).1).1) ((nn + 3) / 4)).2)]) underlying112 sizeOf23 zeroValue23 (by decide) (by decide) (by simp only [List.map_toArray, List.map_cons, List.map_nil] <;> rfl) (by kernel_rfl) rfl (by decide) ?_
    intro B12 w12 hB12 hU12 hzz12 hs12
    have hzw12 := hU12.size
    replace hs := hs.upd0 hU12
    replace hBo := hBo.upd0 hU12
    replace HU := HU.trans0 hU12
    replace hb1 := hb1.upd0 hU12
    replace hb6 := hb6.upd0 hU12
    replace hS9 := hS9.upd0 hU12
    replace hOb9 := hOb9.upd0 hU12
    replace hOc9 := hOc9.upd0 hU12
    replace hOd9 := hOd9.upd0 hU12
    replace hO11 := hO11.upd0 hU12
    replace hs12 : Own w12 (Is B12) 23 1 (.slice (some ⟨B12, 0, none⟩) 1 1) 1 (ints .i64 [(dcF l ((gbytes b (gnum b (gnum b (gnum b 0 131072).2.1 131072).2.1 131072).2.1 (gnum b 0 131072).1).1) ((nn + 3) / 4)).2]) := hs12
    by_cases q4 : ((dcF l ((gbytes b (gnum b (gnum b (gnum b 0 131072).2.1 131072).2.1 131072).2.1 (gnum b 0 131072).1).1) ((nn + 3) / 4)).2) = 0
    ·refine Wl_call (r_call1 rfl call38 rfl) (fmust_ok (er := (dcF l ((gbytes b (gnum b (gnum b (gnum b 0 131072).2.1 131072).2.1 131072).2.1 (gnum b 0 131072).1).1) ((nn + 3) / 4)).2) _ hs12.sl.any q4) ?_
     rintro v w13 ⟨rfl, hU13⟩
     have hzw13 := hU13.size
     replace hs := hs.upd0 hU13
     replace hBo := hBo.upd0 hU13
     replace HU := HU.trans0 hU13
     replace hb1 := hb1.upd0 hU13
     replace hb6 := hb6.upd0 hU13
     replace hS9 := hS9.upd0 hU13
     replace hOb9 := hOb9.upd0 hU13
     replace hOc9 := hOc9.upd0 hU13
     replace hOd9 := hOd9.upd0 hU13
     replace hO11 := hO11.upd0 hU13
     refine Wl_nil (W_seq (W_region ?_))
     refine Wmv (.func (.func 50) #[] #[.pointer (some ⟨bo, 0, none⟩)]) ?_
     refine Wmv (.int .i64 0) ?_
     refine Wmv (.slice a11 m11 c11) ?_
     refine Wl_call (r_clos2 (v0 := .int .i64 0) (v1 := .slice a11 m11 c11) call50 rfl rfl rfl (by first | rfl | (simp; done) | (simp; rfl))) (dcl_0 _ hBo hO11.sl.any (by omega)) ?_
     rintro v w14 ⟨a14, c14, rfl, hBo214, hO14, hU14⟩
     have hzw14 := hU14.size
     replace hs := hs.upd1 hU14 (show ¬ (((bo < bo) ∧ bo < w.heap.size)) by omega)
     replace HU := HU.trans1 hU14 (by show (bo = bo) ∨ w.heap.size ≤ bo; omega)
     replace hb1 := hb1.upd1 hU14 (by omega)
     replace hb6 := hb6.upd1 hU14 (by omega)
     replace hS9 := hS9.upd1 hU14 (show ¬ (((w8.heap.size ≤ bo) ∧ bo < w9.heap.size)) by omega)
     replace hOb9 := hOb9.upd1 hU14 (show ¬ (((w8.heap.size ≤ bo) ∧ bo < w9.heap.size)) by omega)
     replace hOc9 := hOc9.upd1 hU14 (show ¬ (((w8.heap.size ≤ bo) ∧ bo < w9.heap.size)) by omega)
     replace hOd9 := hOd9.upd1 hU14 (show ¬ (((w8.heap.size ≤ bo) ∧ bo < w9.heap.size)) by omega)
     have hbl_hBo214 := hBo214.lt
     replace hO14 := hO14.tight
     have hl_hO14 := ilen hO14.sl
     have hc_hO14 := hO14.sl.cap.1
     refine Wl_v (r_not (b := true) rfl) ?_
     refine Wl_nil ?_
     refine W_cond_f rfl ?_
     refine W_skip (W_region ?_)
     refine Wl_v (r_add rfl rfl (show _ = (1 : Int) from by decide)) ?_
     refine Wmv (.int .i64 1) ?_
     refine Wl_nil ?_
     refine unrK_succ ?_
     refine W_seq (W_region ?_)
     refine Wl_v (v := .bool true) (r_lt (a := 1) (b := 4) rfl rfl) ?_
     refine Wl_nil (W_seq ?_)
     refine W_cond_t rfl ?_
     refine W_skip (W_seq (W_block (W_seq (W_region ?_))))
     refine Wmv (.int .i64 1) ?_
     refine Wl_idxc (i' := 1) (v := .slice jb9 kb9 qb9) underlying41 sizeOf32 rfl rfl (by first | rfl | omega) hS9.sl (by decide) rfl ?_
     intro ib15 io15 hc15
     refine Wl_loadc isAgg32 rfl hc15 ?_
     refine Was (.int .i64 1) ?_
     refine Was (.slice jb9 kb9 qb9) ?_
     refine Wl_nil (W_seq (W_region ?_))
     refine Wmv (.slice a n c) ?_
     refine Wmv (.slice jb9 kb9 qb9) ?_
     refine Wmv (.int .i64 1) ?_
     refine Wl_v (r_idxa (len := 4) (i' := 1) (o' := 1) underlying65 sizeOf3 rfl rfl (by omega) (by omega) (by omega)) ?_
     refine Wl_load (v := .int .i64 ((nn + 3) / 4)) isAgg3 rfl hb6 rfl ?_
     refine Wl_call (r_call3 rfl call80 rfl rfl rfl) (odec _ hs (by omega) hOb9.sl.any (gby_byt hb _ _) (by omega) (by omega)) ?_
     rintro v w16 ⟨a16, m16, c16, rfl, hO16, hU16⟩
     have hzw16 := hU16.size
     replace hs := hs.upd0 hU16
     replace HU := HU.trans0 hU16
     replace hb1 := hb1.upd0 hU16
     replace hb6 := hb6.upd0 hU16
     replace hS9 := hS9.upd0 hU16
     replace hOc9 := hOc9.upd0 hU16
     replace hOd9 := hOd9.upd0 hU16
     replace hBo214 := hBo214.upd0 hU16
     replace hO14 := hO14.upd0 hU16
     replace hO16 := hO16.tight
     have hl_hO16 := ilen hO16.sl
     have hc_hO16 := hO16.sl.cap.1
     have hdl16 := dcF_len (l := l) (b := (gbytes b (gbytes b (gnum b (gnum b (gnum b 0 131072).2.1 131072).2.1 131072).2.1 (gnum b 0 131072).1).2.1 (gnum b (gnum b 0 131072).2.1 131072).1).1) (gby_byt hb _ _) ((nn + 3) / 4)
     refine Wmv (.tuple #[.slice a16 m16 c16, .int .i64 ((dcF l ((gbytes b (gbytes b (gnum b (gnum b (gnum b 0 131072).2.1 131072).2.1 131072).2.1 (gnum b 0 131072).1).2.1 (gnum b (gnum b 0 131072).2.1 131072).1).1) ((nn + 3) / 4)).2)]) ?_
     refine Wl_v (r_ext (v := .slice a16 m16 c16) rfl rfl) ?_
     refine Wl_v (r_ext (v := .int .i64 ((dcF l ((gbytes b (gbytes b (gnum b (gnum b (gnum b 0 131072).2.1 131072).2.1 131072).2.1 (gnum b 0 131072).1).2.1 (gnum b (gnum b 0 131072).2.1 131072).1).1) ((nn + 3) / 4)).2)) rfl rfl) ?_
     refine Was (.slice a16 m16 c16) ?_
     refine Was (.int .i64 ((dcF l ((gbytes b (gbytes b (gnum b (gnum b (gnum b 0 131072).2.1 131072).2.1 131072).2.1 (gnum b 0 131072).1).2.1 (gnum b (gnum b 0 131072).2.1 131072).1).1) ((nn + 3) / 4)).2)) ?_
     refine Wl_nil (W_seq (W_region ?_))
     refine Wmv (.int .i64 ((dcF l ((gbytes b (gbytes b (gnum b (gnum b (gnum b 0 131072).2.1 131072).2.1 131072).2.1 (gnum b 0 131072).1).2.1 (gnum b (gnum b 0 131072).2.1 131072).1).1) ((nn + 3) / 4)).2)) ?_
     refine Wl_lit (pv := [(0, .int .i64 ((dcF l ((gbytes b (gbytes b (gnum b (gnum b (gnum b 0 131072).2.1 131072).2.1 131072).2.1 (gnum b 0 131072).1).2.1 (gnum b (gnum b 0 131072).2.1 131072).1).1) ((nn + 3) / 4)).2))]) (cs := [.int .i64 ((dcF l ((gbytes b (gbytes b (gnum b (gnum b (gnum b 0 131072).2.1 131072).2.1 131072).2.1 (gnum b 0 131072).1).2.1 (gnum b (gnum b 0 131072).2.1 131072).1).1) ((nn + 3) / 4)).2)]) underlying112 sizeOf23 zeroValue23 (by decide) (by decide) (by simp only [List.map_toArray, List.map_cons, List.map_nil] <;> rfl) (by kernel_rfl) rfl (by decide) ?_
     intro B17 w17 hB17 hU17 hzz17 hs17
     have hzw17 := hU17.size
     replace hs := hs.upd0 hU17
     replace HU := HU.trans0 hU17
     replace hb1 := hb1.upd0 hU17
     replace hb6 := hb6.upd0 hU17
     replace hS9 := hS9.upd0 hU17
     replace hOc9 := hOc9.upd0 hU17
     replace hOd9 := hOd9.upd0 hU17
     replace hBo214 := hBo214.upd0 hU17
     replace hO14 := hO14.upd0 hU17
     replace hO16 := hO16.upd0 hU17
     replace hs17 : Own w17 (Is B17) 23 1 (.slice (some ⟨B17, 0, none⟩) 1 1) 1 (ints .i64 [(dcF l ((gbytes b (gbytes b (gnum b (gnum b (gnum b 0 131072).2.1 131072).2.1 131072).2.1 (gnum b 0 131072).1).2.1 (gnum b (gnum b 0 131072).2.1 131072).1).1) ((nn + 3) / 4)).2]) := hs17
     by_cases q5 : ((dcF l ((gbytes b (gbytes b (gnum b (gnum b (gnum b 0 131072).2.1 131072).2.1 131072).2.1 (gnum b 0 131072).1).2.1 (gnum b (gnum b 0 131072).2.1 131072).1).1) ((nn + 3) / 4)).2) = 0
     ·refine Wl_call (r_call1 rfl call38 rfl) (fmust_ok (er := (dcF l ((gbytes b (gbytes b (gnum b (gnum b (gnum b 0 131072).2.1 131072).2.1 131072).2.1 (gnum b 0 131072).1).2.1 (gnum b (gnum b 0 131072).2.1 131072).1).1) ((nn + 3) / 4)).2) _ hs17.sl.any q5) ?_
      rintro v w18 ⟨rfl, hU18⟩
      have hzw18 := hU18.size
      replace hs := hs.upd0 hU18
      replace HU := HU.trans0 hU18
      replace hb1 := hb1.upd0 hU18
      replace hb6 := hb6.upd0 hU18
      replace hS9 := hS9.upd0 hU18
      replace hOc9 := hOc9.upd0 hU18
      replace hOd9 := hOd9.upd0 hU18
      replace hBo214 := hBo214.upd0 hU18
      replace hO14 := hO14.upd0 hU18
      replace hO16 := hO16.upd0 hU18
      refine Wl_nil (W_seq (W_region ?_))
      refine Wmv (.func (.func 50) #[] #[.pointer (some ⟨bo, 0, none⟩)]) ?_
      refine Wmv (.int .i64 1) ?_
      refine Wmv (.slice a16 m16 c16) ?_
      refine Wl_call (r_clos2 (v0 := .int .i64 1) (v1 := .slice a16 m16 c16) call50 rfl rfl rfl (by first | rfl | (simp; done) | (simp; rfl))) (dcl_1 (G0 := w13.heap.size) (y := (dcF l ((gbytes b (gnum b (gnum b (gnum b 0 131072).2.1 131072).2.1 131072).2.1 (gnum b 0 131072).1).1) ((nn + 3) / 4)).1) (m := m11) _ hBo214 ((hO14.weak (by intro g hg; have h3 : ((w13.heap.size ≤ g) ∧ g < w14.heap.size) := hg; show w13.heap.size ≤ g ∧ g < w18.heap.size; omega))) hO16.sl (by omega) (by omega)) ?_
      rintro v w19 ⟨a19, c19, rfl, hBo219, hO219, hU19⟩
      have hzw19 := hU19.size
      replace hs := hs.upd hU19 (by intro x h1 h2; have h3 : ((x < bo) ∧ x < w.heap.size) := h1; have h4 : x = bo ∨ w13.heap.size ≤ x := h2; omega)
      replace HU := HU.trans hU19 (by intro x hx; have hx2 : x = bo ∨ w13.heap.size ≤ x := hx; show (x = bo) ∨ w.heap.size ≤ x; omega)
      replace hb1 := hb1.upd hU19 (by intro hx; have hx2 : B1 = bo ∨ w13.heap.size ≤ B1 := hx; omega)
      replace hb6 := hb6.upd hU19 (by intro hx; have hx2 : B6 = bo ∨ w13.heap.size ≤ B6 := hx; omega)
      replace hS9 := hS9.upd hU19 (by intro x h1 h2; have h3 : ((w8.heap.size ≤ x) ∧ x < w9.heap.size) := h1; have h4 : x = bo ∨ w13.heap.size ≤ x := h2; omega)
      replace hOc9 := hOc9.upd hU19 (by intro x h1 h2; have h3 : ((w8.heap.size ≤ x) ∧ x < w9.heap.size) := h1; have h4 : x = bo ∨ w13.heap.size ≤ x := h2; omega)
      replace hOd9 := hOd9.upd hU19 (by intro x h1 h2; have h3 : ((w8.heap.size ≤ x) ∧ x < w9.heap.size) := h1; have h4 : x = bo ∨ w13.heap.size ≤ x := h2; omega)
      have hbl_hBo219 := hBo219.lt
      replace hO219 := hO219.tight
      have hl_hO219 := ilen hO219.sl
      have hc_hO219 := hO219.sl.cap.1
      refine Wl_v (r_not (b := true) rfl) ?_
      refine Wl_nil ?_
      refine W_cond_f rfl ?_
      refine W_skip (W_region ?_)
      refine Wl_v (r_add rfl rfl (show _ = (2 : Int) from by decide)) ?_
      refine Wmv (.int .i64 2) ?_
      refine Wl_nil ?_
      refine unrK_succ ?_
      refine W_seq (W_region ?_)
      refine Wl_v (v := .bool true) (r_lt (a := 2) (b := 4) rfl rfl) ?_
      refine Wl_nil (W_seq ?_)
      refine W_cond_t rfl ?_
      refine W_skip (W_seq (W_block (W_seq (W_region ?_))))
      refine Wmv (.int .i64 2) ?_
      refine Wl_idxc (i' := 2) (v := .slice jc9 kc9 qc9) underlying41 sizeOf32 rfl rfl (by first | rfl | omega) hS9.sl (by decide) rfl ?_
      intro ib20 io20 hc20
      refine Wl_loadc isAgg32 rfl hc20 ?_
      refine Was (.int .i64 2) ?_
      refine Was (.slice jc9 kc9 qc9) ?_
      refine Wl_nil (W_seq (W_region ?_))
      refine Wmv (.slice a n c) ?_
      refine Wmv (.slice jc9 kc9 qc9) ?_
      refine Wmv (.int .i64 2) ?_
      refine Wl_v (r_idxa (len := 4) (i' := 2) (o' := 2) underlying65 sizeOf3 rfl rfl (by omega) (by omega) (by omega)) ?_
      refine Wl_load (v := .int .i64 ((nn + 3) / 4)) isAgg3 rfl hb6 rfl ?_
      refine Wl_call (r_call3 rfl call80 rfl rfl rfl) (odec _ hs (by omega) hOc9.sl.any (gby_byt hb _ _) (by omega) (by omega)) ?_
      rintro v w21 ⟨a21, m21, c21, rfl, hO21, hU21⟩
      have hzw21 := hU21.size
      replace hs := hs.upd0 hU21
      replace HU := HU.trans0 hU21
      replace hb1 := hb1.upd0 hU21
      replace hb6 := hb6.upd0 hU21
      replace hS9 := hS9.upd0 hU21
      replace hOd9 := hOd9.upd0 hU21
      replace hBo219 := hBo219.upd0 hU21
      replace hO219 := hO219.upd0 hU21
      replace hO21 := hO21.tight
      have hl_hO21 := ilen hO21.sl
      have hc_hO21 := hO21.sl.cap.1
      have hdl21 := dcF_len (l := l) (b := (gbytes b (gbytes b (gbytes b (gnum b (gnum b (gnum b 0 131072).2.1 131072).2.1 131072).2.1 (gnum b 0 131072).1).2.1 (gnum b (gnum b 0 131072).2.1 131072).1).2.1 (gnum b (gnum b (gnum b 0 131072).2.1 131072).2.1 131072).1).1) (gby_byt hb _ _) ((nn + 3) / 4)
      refine Wmv (.tuple #[.slice a21 m21 c21, .int .i64 ((dcF l ((gbytes b (gbytes b (gbytes b (gnum b (gnum b (gnum b 0 131072).2.1 131072).2.1 131072).2.1 (gnum b 0 131072).1).2.1 (gnum b (gnum b 0 131072).2.1 131072).1).2.1 (gnum b (gnum b (gnum b 0 131072).2.1 131072).2.1 131072).1).1) ((nn + 3) / 4)).2)]) ?_
      refine Wl_v (r_ext (v := .slice a21 m21 c21) rfl rfl) ?_
      refine Wl_v (r_ext (v := .int .i64 ((dcF l ((gbytes b (gbytes b (gbytes b (gnum b (gnum b (gnum b 0 131072).2.1 131072).2.1 131072).2.1 (gnum b 0 131072).1).2.1 (gnum b (gnum b 0 131072).2.1 131072).1).2.1 (gnum b (gnum b (gnum b 0 131072).2.1 131072).2.1 131072).1).1) ((nn + 3) / 4)).2)) rfl rfl) ?_
      refine Was (.slice a21 m21 c21) ?_
      refine Was (.int .i64 ((dcF l ((gbytes b (gbytes b (gbytes b (gnum b (gnum b (gnum b 0 131072).2.1 131072).2.1 131072).2.1 (gnum b 0 131072).1).2.1 (gnum b (gnum b 0 131072).2.1 131072).1).2.1 (gnum b (gnum b (gnum b 0 131072).2.1 131072).2.1 131072).1).1) ((nn + 3) / 4)).2)) ?_
      refine Wl_nil (W_seq (W_region ?_))
      refine Wmv (.int .i64 ((dcF l ((gbytes b (gbytes b (gbytes b (gnum b (gnum b (gnum b 0 131072).2.1 131072).2.1 131072).2.1 (gnum b 0 131072).1).2.1 (gnum b (gnum b 0 131072).2.1 131072).1).2.1 (gnum b (gnum b (gnum b 0 131072).2.1 131072).2.1 131072).1).1) ((nn + 3) / 4)).2)) ?_
      refine Wl_lit (pv := [(0, .int .i64 ((dcF l ((gbytes b (gbytes b (gbytes b (gnum b (gnum b (gnum b 0 131072).2.1 131072).2.1 131072).2.1 (gnum b 0 131072).1).2.1 (gnum b (gnum b 0 131072).2.1 131072).1).2.1 (gnum b (gnum b (gnum b 0 131072).2.1 131072).2.1 131072).1).1) ((nn + 3) / 4)).2))]) (cs := [.int .i64 ((dcF l ((gbytes b (gbytes b (gbytes b (gnum b (gnum b (gnum b 0 131072).2.1 131072).2.1 131072).2.1 (gnum b 0 131072).1).2.1 (gnum b (gnum b 0 131072).2.1 131072).1).2.1 (gnum b (gnum b (gnum b 0 131072).2.1 131072).2.1 131072).1).1) ((nn + 3) / 4)).2)]) underlying112 sizeOf23 zeroValue23 (by decide) (by decide) (by simp only [List.map_toArray, List.map_cons, List.map_nil] <;> rfl) (by kernel_rfl) rfl (by decide) ?_
      intro B22 w22 hB22 hU22 hzz22 hs22
      have hzw22 := hU22.size
      replace hs := hs.upd0 hU22
      replace HU := HU.trans0 hU22
      replace hb1 := hb1.upd0 hU22
      replace hb6 := hb6.upd0 hU22
      replace hS9 := hS9.upd0 hU22
      replace hOd9 := hOd9.upd0 hU22
      replace hBo219 := hBo219.upd0 hU22
      replace hO219 := hO219.upd0 hU22
      replace hO21 := hO21.upd0 hU22
      replace hs22 : Own w22 (Is B22) 23 1 (.slice (some ⟨B22, 0, none⟩) 1 1) 1 (ints .i64 [(dcF l ((gbytes b (gbytes b (gbytes b (gnum b (gnum b (gnum b 0 131072).2.1 131072).2.1 131072).2.1 (gnum b 0 131072).1).2.1 (gnum b (gnum b 0 131072).2.1 131072).1).2.1 (gnum b (gnum b (gnum b 0 131072).2.1 131072).2.1 131072).1).1) ((nn + 3) / 4)).2]) := hs22
      by_cases q6 : ((dcF l ((gbytes b (gbytes b (gbytes b (gnum b (gnum b (gnum b 0 131072).2.1 131072).2.1 131072).2.1 (gnum b 0 131072).1).2.1 (gnum b (gnum b 0 131072).2.1 131072).1).2.1 (gnum b (gnum b (gnum b 0 131072).2.1 131072).2.1 131072).1).1) ((nn + 3) / 4)).2) = 0
      ·refine Wl_call (r_call1 rfl call38 rfl) (fmust_ok (er := (dcF l ((gbytes b (gbytes b (gbytes b (gnum b (gnum b (gnum b 0 131072).2.1 131072).2.1 131072).2.1 (gnum b 0 131072).1).2.1 (gnum b (gnum b 0 131072).2.1 131072).1).2.1 (gnum b (gnum b (gnum b 0 131072).2.1 131072).2.1 131072).1).1) ((nn + 3) / 4)).2) _ hs22.sl.any q6) ?_
       rintro v w23 ⟨rfl, hU23⟩
       have hzw23 := hU23.size
       replace hs := hs.upd0 hU23
       replace HU := HU.trans0 hU23
       replace hb1 := hb1.upd0 hU23
       replace hb6 := hb6.upd0 hU23
       replace hS9 := hS9.upd0 hU23
       replace hOd9 := hOd9.upd0 hU23
       replace hBo219 := hBo219.upd0 hU23
       replace hO219 := hO219.upd0 hU23
       replace hO21 := hO21.upd0 hU23
       refine Wl_nil (W_seq (W_region ?_))
       refine Wmv (.func (.func 50) #[] #[.pointer (some ⟨bo, 0, none⟩)]) ?_
       refine Wmv (.int .i64 2) ?_
       refine Wmv (.slice a21 m21 c21) ?_
       refine Wl_call (r_clos2 (v0 := .int .i64 2) (v1 := .slice a21 m21 c21) call50 rfl rfl rfl (by first | rfl | (simp; done) | (simp; rfl))) (dcl_1 (G0 := w13.heap.size) (y := ((dcF l ((gbytes b (gnum b (gnum b (gnum b 0 131072).2.1 131072).2.1 131072).2.1 (gnum b 0 131072).1).1) ((nn + 3) / 4)).1) ++ ((dcF l ((gbytes b (gbytes b (gnum b (gnum b (gnum b 0 131072).2.1 131072).2.1 131072).2.1 (gnum b 0 131072).1).2.1 (gnum b (gnum b 0 131072).2.1 131072).1).1) ((nn + 3) / 4)).1)) (m := m11 + m16) _ hBo219 ((hO219.weak (by intro g hg; have h3 : ((w13.heap.size ≤ g) ∧ g < w19.heap.size) := hg; show w13.heap.size ≤ g ∧ g < w23.heap.size; omega))) hO21.sl (by omega) (by omega)) ?_
       rintro v w24 ⟨a24, c24, rfl, hBo224, hO224, hU24⟩
       have hzw24 := hU24.size
       replace hs := hs.upd hU24 (by intro x h1 h2; have h3 : ((x < bo) ∧ x < w.heap.size) := h1; have h4 : x = bo ∨ w13.heap.size ≤ x := h2; omega)
       replace HU := HU.trans hU24 (by intro x hx; have hx2 : x = bo ∨ w13.heap.size ≤ x := hx; show (x = bo) ∨ w.heap.size ≤ x; omega)
       replace hb1 := hb1.upd hU24 (by intro hx; have hx2 : B1 = bo ∨ w13.heap.size ≤ B1 := hx; omega)
       replace hb6 := hb6.upd hU24 (by intro hx; have hx2 : B6 = bo ∨ w13.heap.size ≤ B6 := hx; omega)
       replace hS9 := hS9.upd hU24 (by intro x h1 h2; have h3 : ((w8.heap.size ≤ x) ∧ x < w9.heap.size) := h1; have h4 : x = bo ∨ w13.heap.size ≤ x := h2; omega)
       replace hOd9 := hOd9.upd hU24 (by intro x h1 h2; have h3 : ((w8.heap.size ≤ x) ∧ x < w9.heap.size) := h1; have h4 : x = bo ∨ w13.heap.size ≤ x := h2; omega)
       have hbl_hBo224 := hBo224.lt
       replace hO224 := hO224.tight
       have hl_hO224 := ilen hO224.sl
       have hc_hO224 := hO224.sl.cap.1
       refine Wl_v (r_not (b := true) rfl) ?_
       refine Wl_nil ?_
       refine W_cond_f rfl ?_
       refine W_skip (W_region ?_)
       refine Wl_v (r_add rfl rfl (show _ = (3 : Int) from by decide)) ?_
       refine Wmv (.int .i64 3) ?_
       refine Wl_nil ?_
       refine unrK_succ ?_
       refine W_seq (W_region ?_)
       refine Wl_v (v := .bool true) (r_lt (a := 3) (b := 4) rfl rfl) ?_
       refine Wl_nil (W_seq ?_)
       refine W_cond_t rfl ?_
       refine W_skip (W_seq (W_block (W_seq (W_region ?_))))
       refine Wmv (.int .i64 3) ?_
       refine Wl_idxc (i' := 3) (v := .slice jd9 kd9 qd9) underlying41 sizeOf32 rfl rfl (by first | rfl | omega) hS9.sl (by decide) rfl ?_
       intro ib25 io25 hc25
       refine Wl_loadc isAgg32 rfl hc25 ?_
       refine Was (.int .i64 3) ?_
       refine Was (.slice jd9 kd9 qd9) ?_
       refine Wl_nil (W_seq (W_region ?_))
       refine Wmv (.slice a n c) ?_
       refine Wmv (.slice jd9 kd9 qd9) ?_
       refine Wmv (.int .i64 3) ?_
       refine Wl_v (r_idxa (len := 4) (i' := 3) (o' := 3) underlying65 sizeOf3 rfl rfl (by omega) (by omega) (by omega)) ?_
       refine Wl_load (v := .int .i64 (nn - 3 * ((nn + 3) / 4))) isAgg3 rfl hb6 rfl ?_
       refine Wl_call (r_call3 rfl call80 rfl rfl rfl) (odec _ hs (by omega) hOd9.sl.any (hb.drop _) (by omega) (by omega)) ?_
       rintro v w26 ⟨a26, m26, c26, rfl, hO26, hU26⟩
       have hzw26 := hU26.size
       replace HU := HU.trans0 hU26
       replace hb1 := hb1.upd0 hU26
       replace hBo224 := hBo224.upd0 hU26
       replace hO224 := hO224.upd0 hU26
       replace hO26 := hO26.tight
       have hl_hO26 := ilen hO26.sl
       have hc_hO26 := hO26.sl.cap.1
       have hdl26 := dcF_len (l := l) (b := b.drop (gbytes b (gbytes b (gbytes b (gnum b (gnum b (gnum b 0 131072).2.1 131072).2.1 131072).2.1 (gnum b 0 131072).1).2.1 (gnum b (gnum b 0 131072).2.1 131072).1).2.1 (gnum b (gnum b (gnum b 0 131072).2.1 131072).2.1 131072).1).2.1) (hb.drop _) (nn - 3 * ((nn + 3) / 4))
       refine Wmv (.tuple #[.slice a26 m26 c26, .int .i64 ((dcF l (b.drop (gbytes b (gbytes b (gbytes b (gnum b (gnum b (gnum b 0 131072).2.1 131072).2.1 131072).2.1 (gnum b 0 131072).1).2.1 (gnum b (gnum b 0 131072).2.1 131072).1).2.1 (gnum b (gnum b (gnum b 0 131072).2.1 131072).2.1 131072).1).2.1) (nn - 3 * ((nn + 3) / 4))).2)]) ?_
       refine Wl_v (r_ext (v := .slice a26 m26 c26) rfl rfl) ?_
       refine Wl_v (r_ext (v := .int .i64 ((dcF l (b.drop (gbytes b (gbytes b (gbytes b (gnum b (gnum b (gnum b 0 131072).2.1 131072).2.1 131072).2.1 (gnum b 0 131072).1).2.1 (gnum b (gnum b 0 131072).2.1 131072).1).2.1 (gnum b (gnum b (gnum b 0 131072).2.1 131072).2.1 131072).1).2.1) (nn - 3 * ((nn + 3) / 4))).2)) rfl rfl) ?_
       refine Was (.slice a26 m26 c26) ?_
       refine Was (.int .i64 ((dcF l (b.drop (gbytes b (gbytes b (gbytes b (gnum b (gnum b (gnum b 0 131072).2.1 131072).2.1 131072).2.1 (gnum b 0 131072).1).2.1 (gnum b (gnum b 0 131072).2.1 131072).1).2.1 (gnum b (gnum b (gnum b 0 131072).2.1 131072).2.1 131072).1).2.1) (nn - 3 * ((nn + 3) / 4))).2)) ?_
       refine Wl_nil (W_seq (W_region ?_))
       refine Wmv (.int .i64 ((dcF l (b.drop (gbytes b (gbytes b (gbytes b (gnum b (gnum b (gnum b 0 131072).2.1 131072).2.1 131072).2.1 (gnum b 0 131072).1).2.1 (gnum b (gnum b 0 131072).2.1 131072).1).2.1 (gnum b (gnum b (gnum b 0 131072).2.1 131072).2.1 131072).1).2.1) (nn - 3 * ((nn + 3) / 4))).2)) ?_
       refine Wl_lit (pv := [(0, .int .i64 ((dcF l (b.drop (gbytes b (gbytes b (gbytes b (gnum b (gnum b (gnum b 0 131072).2.1 131072).2.1 131072).2.1 (gnum b 0 131072).1).2.1 (gnum b (gnum b 0 131072).2.1 131072).1).2.1 (gnum b (gnum b (gnum b 0 131072).2.1 131072).2.1 131072).1).2.1) (nn - 3 * ((nn + 3) / 4))).2))]) (cs := [.int .i64 ((dcF l (b.drop (gbytes b (gbytes b (gbytes b (gnum b (gnum b (gnum b 0 131072).2.1 131072).2.1 131072).2.1 (gnum b 0 131072).1).2.1 (gnum b (gnum b 0 131072).2.1 131072).1).2.1 (gnum b (gnum b (gnum b 0 131072).2.1 131072).2.1 131072).1).2.1) (nn - 3 * ((nn + 3) / 4))).2)]) underlying112 sizeOf23 zeroValue23 (by decide) (by decide) (by simp only [List.map_toArray, List.map_cons, List.map_nil] <;> rfl) (by kernel_rfl) rfl (by decide) ?_
       intro B27 w27 hB27 hU27 hzz27 hs27
       have hzw27 := hU27.size
       replace HU := HU.trans0 hU27
       replace hb1 := hb1.upd0 hU27
       replace hBo224 := hBo224.upd0 hU27
       replace hO224 := hO224.upd0 hU27
       replace hO26 := hO26.upd0 hU27
       replace hs27 : Own w27 (Is B27) 23 1 (.slice (some ⟨B27, 0, none⟩) 1 1) 1 (ints .i64 [(dcF l (b.drop (gbytes b (gbytes b (gbytes b (gnum b (gnum b (gnum b 0 131072).2.1 131072).2.1 131072).2.1 (gnum b 0 131072).1).2.1 (gnum b (gnum b 0 131072).2.1 131072).1).2.1 (gnum b (gnum b (gnum b 0 131072).2.1 131072).2.1 131072).1).2.1) (nn - 3 * ((nn + 3) / 4))).2]) := hs27
       by_cases q7 : ((dcF l (b.drop (gbytes b (gbytes b (gbytes b (gnum b (gnum b (gnum b 0 131072).2.1 131072).2.1 131072).2.1 (gnum b 0 131072).1).2.1 (gnum b (gnum b 0 131072).2.1 131072).1).2.1 (gnum b (gnum b (gnum b 0 131072).2.1 131072).2.1 131072).1).2.1) (nn - 3 * ((nn + 3) / 4))).2) = 0
       ·refine Wl_call (r_call1 rfl call38 rfl) (fmust_ok (er := (dcF l (b.drop (gbytes b (gbytes b (gbytes b (gnum b (gnum b (gnum b 0 131072).2.1 131072).2.1 131072).2.1 (gnum b 0 131072).1).2.1 (gnum b (gnum b 0 131072).2.1 131072).1).2.1 (gnum b (gnum b (gnum b 0 131072).2.1 131072).2.1 131072).1).2.1) (nn - 3 * ((nn + 3) / 4))).2) _ hs27.sl.any q7) ?_
        rintro v w28 ⟨rfl, hU28⟩
        have hzw28 := hU28.size
        replace HU := HU.trans0 hU28
        replace hb1 := hb1.upd0 hU28
        replace hBo224 := hBo224.upd0 hU28
        replace hO224 := hO224.upd0 hU28
        replace hO26 := hO26.upd0 hU28
        refine Wl_nil (W_seq (W_region ?_))
        refine Wmv (.func (.func 50) #[] #[.pointer (some ⟨bo, 0, none⟩)]) ?_
        refine Wmv (.int .i64 3) ?_
        refine Wmv (.slice a26 m26 c26) ?_
        refine Wl_call (r_clos2 (v0 := .int .i64 3) (v1 := .slice a26 m26 c26) call50 rfl rfl rfl (by first | rfl | (simp; done) | (simp; rfl))) (dcl_1 (G0 := w13.heap.size) (y := (((dcF l ((gbytes b (gnum b (gnum b (gnum b 0 131072).2.1 131072).2.1 131072).2.1 (gnum b 0 131072).1).1) ((nn + 3) / 4)).1) ++ ((dcF l ((gbytes b (gbytes b (gnum b (gnum b (gnum b 0 131072).2.1 131072).2.1 131072).2.1 (gnum b 0 131072).1).2.1 (gnum b (gnum b 0 131072).2.1 131072).1).1) ((nn + 3) / 4)).1)) ++ ((dcF l ((gbytes b (gbytes b (gbytes b (gnum b (gnum b (gnum b 0 131072).2.1 131072).2.1 131072).2.1 (gnum b 0 131072).1).2.1 (gnum b (gnum b 0 131072).2.1 131072).1).2.1 (gnum b (gnum b (gnum b 0 131072).2.1 131072).2.1 131072).1).1) ((nn + 3) / 4)).1)) (m := (m11 + m16) + m21) _ hBo224 ((hO224.weak (by intro g hg; have h3 : ((w13.heap.size ≤ g) ∧ g < w24.heap.size) := hg; show w13.heap.size ≤ g ∧ g < w28.heap.size; omega))) hO26.sl (by omega) (by omega)) ?_
        rintro v w29 ⟨a29, c29, rfl, hBo229, hO229, hU29⟩
        have hzw29 := hU29.size
        replace HU := HU.trans hU29 (by intro x hx; have hx2 : x = bo ∨ w13.heap.size ≤ x := hx; show (x = bo) ∨ w.heap.size ≤ x; omega)
        replace hb1 := hb1.upd hU29 (by intro hx; have hx2 : B1 = bo ∨ w13.heap.size ≤ B1 := hx; omega)
        have hbl_hBo229 := hBo229.lt
        replace hO229 := hO229.tight
        have hl_hO229 := ilen hO229.sl
        have hc_hO229 := hO229.sl.cap.1
        refine Wl_v (r_not (b := true) rfl) ?_
        refine Wl_nil ?_
        refine W_cond_f rfl ?_
        refine W_skip (W_region ?_)
        refine Wl_v (r_add rfl rfl (show _ = (4 : Int) from by decide)) ?_
        refine Wmv (.int .i64 4) ?_
        refine Wl_nil ?_
        refine unrK_succ ?_
        refine W_seq (W_region ?_)
        refine Wl_v (v := .bool false) (r_lt (a := 4) (b := 4) rfl rfl) ?_
        refine Wl_nil (W_seq ?_)
        refine W_cond_f rfl ?_
        refine W_exit ?_
        refine W_seq (W_region ?_)
        refine Wl_store (v := .int .i64 0) (cs' := [.int .i64 0]) sizeOf23 rfl rfl rfl rfl hb1 rfl rfl ?_
        intro w30 hU30 hzz30 hb1n
        replace hb1 := hb1n; clear hb1n
        have hzw30 := hU30.size
        replace HU := HU.trans1 hU30 (by show (B1 = bo) ∨ w.heap.size ≤ B1; omega)
        replace hBo229 := hBo229.upd1 hU30 (by omega)
        replace hO229 := hO229.upd1 hU30 (show ¬ (((w13.heap.size ≤ B1) ∧ B1 < w29.heap.size)) by omega)
        refine Wl_nil ?_
        refine W_ret ?_
        refine ret_ds rfl ?_
        refine lv_call (by simp) call33 rfl (fcaught_ret _) ?_
        rintro e1 u1 w31 ⟨rfl, v1, rfl, rfl, hU31⟩
        have hzw31 := hU31.size
        replace HU := HU.trans0 hU31
        replace hb1 := hb1.upd0 hU31
        replace hBo229 := hBo229.upd0 hU31
        replace hO229 := hO229.upd0 hU31
        refine lv_nil (v := .int .i64 0) (rc1 results49 rfl (cellIs isAgg23 hb1)) ?_
        have hF : (d4F l b nn).2 = 0 := by rw [d4F_ok ((hdF_e (l := l) (b := b) (n := nn) q1 q2).trans q3) q4 q5 q6 q7]
        have hN : nE l b nn = 4 := nE_ok ((hdF_e (l := l) (b := b) (n := nn) q1 q2).trans q3) q4 q5 q6 q7
        exact ⟨_, rfl, a29, ((m11 + m16) + m21) + m26, c29, (vint hF.symm), hBo229, (by rw [accF, hN]; simpa [zL] using (hO229.weak (by intro g hg; have h3 : ((w13.heap.size ≤ g) ∧ g < w29.heap.size) := hg; show w.heap.size ≤ g; omega))), HU⟩
       refine Wl_callp (r_call1 rfl call38 rfl) (fmust_no (er := (dcF l (b.drop (gbytes b (gbytes b (gbytes b (gnum b (gnum b (gnum b 0 131072).2.1 131072).2.1 131072).2.1 (gnum b 0 131072).1).2.1 (gnum b (gnum b 0 131072).2.1 131072).1).2.1 (gnum b (gnum b (gnum b 0 131072).2.1 131072).2.1 131072).1).2.1) (nn - 3 * ((nn + 3) / 4))).2) _ hs27.sl.any q7) ?_
       intro w32 hU32
       have hzw32 := hU32.size
       replace HU := HU.trans0 hU32
       replace hb1 := hb1.upd0 hU32
       replace hBo224 := hBo224.upd0 hU32
       replace hO224 := hO224.upd0 hU32
       refine pan_ds rfl ?_
       refine lv_call (by simp) call33 rfl (fcaught_pan (S := fun g => False) (Φ := fun w' => True) _ hb1 call79 (by show ¬ (False); first | omega | exact fun h => h) (fgoes_clr _)) ?_
       rintro e1 u1 w33 ⟨rfl, v1, rfl, rfl, wq33, _, hUa33, hUb33, hbe33⟩
       have hzwq33 := hUa33.size
       replace HU := HU.trans0 hUa33
       replace hBo224 := hBo224.upd0 hUa33
       replace hO224 := hO224.upd0 hUa33
       have hzw33 := hUb33.size
       replace HU := HU.trans1 hUb33 (by show (B1 = bo) ∨ w.heap.size ≤ B1; omega)
       replace hBo224 := hBo224.upd1 hUb33 (by omega)
       replace hO224 := hO224.upd1 hUb33 (show ¬ (((w13.heap.size ≤ B1) ∧ B1 < w24.heap.size)) by omega)
       refine lv_nil (v := .int .i64 ((dcF l (b.drop (gbytes b (gbytes b (gbytes b (gnum b (gnum b (gnum b 0 131072).2.1 131072).2.1 131072).2.1 (gnum b 0 131072).1).2.1 (gnum b (gnum b 0 131072).2.1 131072).1).2.1 (gnum b (gnum b (gnum b 0 131072).2.1 131072).2.1 131072).1).2.1) (nn - 3 * ((nn + 3) / 4))).2)) (rc1 results49 rfl (cellIs isAgg23 hbe33)) ?_
       have hF : (d4F l b nn).2 = (dcF l (b.drop (gbytes b (gbytes b (gbytes b (gnum b (gnum b (gnum b 0 131072).2.1 131072).2.1 131072).2.1 (gnum b 0 131072).1).2.1 (gnum b (gnum b 0 131072).2.1 131072).1).2.1 (gnum b (gnum b (gnum b 0 131072).2.1 131072).2.1 131072).1).2.1) (nn - 3 * ((nn + 3) / 4))).2 := by rw [show d4F l b nn = ([], (dcF l (b.drop (gbytes b (gbytes b (gbytes b (gnum b (gnum b (gnum b 0 131072).2.1 131072).2.1 131072).2.1 (gnum b 0 131072).1).2.1 (gnum b (gnum b 0 131072).2.1 131072).1).2.1 (gnum b (gnum b (gnum b 0 131072).2.1 131072).2.1 131072).1).2.1) (nn - 3 * ((nn + 3) / 4))).2) from d4F_4 ((hdF_e (l := l) (b := b) (n := nn) q1 q2).trans q3) q4 q5 q6 q7]
       have hN : nE l b nn = 3 := nE_4 ((hdF_e (l := l) (b := b) (n := nn) q1 q2).trans q3) q4 q5 q6 q7
       exact ⟨_, rfl, a24, (m11 + m16) + m21, c24, (vint hF.symm), hBo224, (by rw [accF, hN]; simpa [zL] using (hO224.weak (by intro g hg; have h3 : ((w13.heap.size ≤ g) ∧ g < w24.heap.size) := hg; show w.heap.size ≤ g; omega))), HU⟩
      refine Wl_callp (r_call1 rfl call38 rfl) (fmust_no (er := (dcF l ((gbytes b (gbytes b (gbytes b (gnum b (gnum b (gnum b 0 131072).2.1 131072).2.1 131072).2.1 (gnum b 0 131072).1).2.1 (gnum b (gnum b 0 131072).2.1 131072).1).2.1 (gnum b (gnum b (gnum b 0 131072).2.1 131072).2.1 131072).1).1) ((nn + 3) / 4)).2) _ hs22.sl.any q6) ?_
      intro w34 hU34
      have hzw34 := hU34.size
      replace HU := HU.trans0 hU34
      replace hb1 := hb1.upd0 hU34
      replace hBo219 := hBo219.upd0 hU34
      replace hO219 := hO219.upd0 hU34
      refine pan_ds rfl ?_
      refine lv_call (by simp) call33 rfl (fcaught_pan (S := fun g => False) (Φ := fun w' => True) _ hb1 call79 (by show ¬ (False); first | omega | exact fun h => h) (fgoes_clr _)) ?_
      rintro e1 u1 w35 ⟨rfl, v1, rfl, rfl, wq35, _, hUa35, hUb35, hbe35⟩
      have hzwq35 := hUa35.size
      replace HU := HU.trans0 hUa35
      replace hBo219 := hBo219.upd0 hUa35
      replace hO219 := hO219.upd0 hUa35
      have hzw35 := hUb35.size
      replace HU := HU.trans1 hUb35 (by show (B1 = bo) ∨ w.heap.size ≤ B1; omega)
      replace hBo219 := hBo219.upd1 hUb35 (by omega)
      replace hO219 := hO219.upd1 hUb35 (show ¬ (((w13.heap.size ≤ B1) ∧ B1 < w19.heap.size)) by omega)
      refine lv_nil (v := .int .i64 ((dcF l ((gbytes b (gbytes b (gbytes b (gnum b (gnum b (gnum b 0 131072).2.1 131072).2.1 131072).2.1 (gnum b 0 131072).1).2.1 (gnum b (gnum b 0 131072).2.1 131072).1).2.1 (gnum b (gnum b (gnum b 0 131072).2.1 131072).2.1 131072).1).1) ((nn + 3) / 4)).2)) (rc1 results49 rfl (cellIs isAgg23 hbe35)) ?_
      have hF : (d4F l b nn).2 = (dcF l ((gbytes b (gbytes b (gbytes b (gnum b (gnum b (gnum b 0 131072).2.1 131072).2.1 131072).2.1 (gnum b 0 131072).1).2.1 (gnum b (gnum b 0 131072).2.1 131072).1).2.1 (gnum b (gnum b (gnum b 0 131072).2.1 131072).2.1 131072).1).1) ((nn + 3) / 4)).2 := by rw [show d4F l b nn = ([], (dcF l ((gbytes b (gbytes b (gbytes b (gnum b (gnum b (gnum b 0 131072).2.1 131072).2.1 131072).2.1 (gnum b 0 131072).1).2.1 (gnum b (gnum b 0 131072).2.1 131072).1).2.1 (gnum b (gnum b (gnum b 0 131072).2.1 131072).2.1 131072).1).1) ((nn + 3) / 4)).2) from d4F_3 ((hdF_e (l := l) (b := b) (n := nn) q1 q2).trans q3) q4 q5 q6]
      have hN : nE l b nn = 2 := nE_3 ((hdF_e (l := l) (b := b) (n := nn) q1 q2).trans q3) q4 q5 q6
      exact ⟨_, rfl, a19, m11 + m16, c19, (vint hF.symm), hBo219, (by rw [accF, hN]; simpa [zL] using (hO219.weak (by intro g hg; have h3 : ((w13.heap.size ≤ g) ∧ g < w19.heap.size) := hg; show w.heap.size ≤ g; omega))), HU⟩
     refine Wl_callp (r_call1 rfl call38 rfl) (fmust_no (er := (dcF l ((gbytes b (gbytes b (gnum b (gnum b (gnum b 0 131072).2.1 131072).2.1 131072).2.1 (gnum b 0 131072).1).2.1 (gnum b (gnum b 0 131072).2.1 131072).1).1) ((nn + 3) / 4)).2) _ hs17.sl.any q5) ?_
     intro w36 hU36
     have hzw36 := hU36.size
     replace HU := HU.trans0 hU36
     replace hb1 := hb1.upd0 hU36
     replace hBo214 := hBo214.upd0 hU36
     replace hO14 := hO14.upd0 hU36
     refine pan_ds rfl ?_
     refine lv_call (by simp) call33 rfl (fcaught_pan (S := fun g => False) (Φ := fun w' => True) _ hb1 call79 (by show ¬ (False); first | omega | exact fun h => h) (fgoes_clr _)) ?_
     rintro e1 u1 w37 ⟨rfl, v1, rfl, rfl, wq37, _, hUa37, hUb37, hbe37⟩
     have hzwq37 := hUa37.size
     replace HU := HU.trans0 hUa37
     replace hBo214 := hBo214.upd0 hUa37
     replace hO14 := hO14.upd0 hUa37
     have hzw37 := hUb37.size
     replace HU := HU.trans1 hUb37 (by show (B1 = bo) ∨ w.heap.size ≤ B1; omega)
     replace hBo214 := hBo214.upd1 hUb37 (by omega)
     replace hO14 := hO14.upd1 hUb37 (show ¬ (((w13.heap.size ≤ B1) ∧ B1 < w14.heap.size)) by omega)
     refine lv_nil (v := .int .i64 ((dcF l ((gbytes b (gbytes b (gnum b (gnum b (gnum b 0 131072).2.1 131072).2.1 131072).2.1 (gnum b 0 131072).1).2.1 (gnum b (gnum b 0 131072).2.1 131072).1).1) ((nn + 3) / 4)).2)) (rc1 results49 rfl (cellIs isAgg23 hbe37)) ?_
     have hF : (d4F l b nn).2 = (dcF l ((gbytes b (gbytes b (gnum b (gnum b (gnum b 0 131072).2.1 131072).2.1 131072).2.1 (gnum b 0 131072).1).2.1 (gnum b (gnum b 0 131072).2.1 131072).1).1) ((nn + 3) / 4)).2 := by rw [show d4F l b nn = ([], (dcF l ((gbytes b (gbytes b (gnum b (gnum b (gnum b 0 131072).2.1 131072).2.1 131072).2.1 (gnum b 0 131072).1).2.1 (gnum b (gnum b 0 131072).2.1 131072).1).1) ((nn + 3) / 4)).2) from d4F_2 ((hdF_e (l := l) (b := b) (n := nn) q1 q2).trans q3) q4 q5]
     have hN : nE l b nn = 1 := nE_2 ((hdF_e (l := l) (b := b) (n := nn) q1 q2).trans q3) q4 q5
     exact ⟨_, rfl, a14, m11, c14, (vint hF.symm), hBo214, (by rw [accF, hN]; simpa [zL] using (hO14.weak (by intro g hg; have h3 : ((w13.heap.size ≤ g) ∧ g < w14.heap.size) := hg; show w.heap.size ≤ g; omega))), HU⟩
    refine Wl_callp (r_call1 rfl call38 rfl) (fmust_no (er := (dcF l ((gbytes b (gnum b (gnum b (gnum b 0 131072).2.1 131072).2.1 131072).2.1 (gnum b 0 131072).1).1) ((nn + 3) / 4)).2) _ hs12.sl.any q4) ?_
    intro w38 hU38
    have hzw38 := hU38.size
    replace hBo := hBo.upd0 hU38
    replace HU := HU.trans0 hU38
    replace hb1 := hb1.upd0 hU38
    refine pan_ds rfl ?_
    refine lv_call (by simp) call33 rfl (fcaught_pan (S := fun g => False) (Φ := fun w' => True) _ hb1 call79 (by show ¬ (False); first | omega | exact fun h => h) (fgoes_clr _)) ?_
    rintro e1 u1 w39 ⟨rfl, v1, rfl, rfl, wq39, _, hUa39, hUb39, hbe39⟩
    have hzwq39 := hUa39.size
    replace hBo := hBo.upd0 hUa39
    replace HU := HU.trans0 hUa39
    have hzw39 := hUb39.size
    replace hBo := hBo.upd1 hUb39 (by omega)
    replace HU := HU.trans1 hUb39 (by show (B1 = bo) ∨ w.heap.size ≤ B1; omega)
    refine lv_nil (v := .int .i64 ((dcF l ((gbytes b (gnum b (gnum b (gnum b 0 131072).2.1 131072).2.1 131072).2.1 (gnum b 0 131072).1).1) ((nn + 3) / 4)).2)) (rc1 results49 rfl (cellIs isAgg23 hbe39)) ?_
    have hF : (d4F l b nn).2 = (dcF l ((gbytes b (gnum b (gnum b (gnum b 0 131072).2.1 131072).2.1 131072).2.1 (gnum b 0 131072).1).1) ((nn + 3) / 4)).2 := by rw [show d4F l b nn = ([], (dcF l ((gbytes b (gnum b (gnum b (gnum b 0 131072).2.1 131072).2.1 131072).2.1 (gnum b 0 131072).1).1) ((nn + 3) / 4)).2) from d4F_1 ((hdF_e (l := l) (b := b) (n := nn) q1 q2).trans q3)  q4]
    have hN : nE l b nn = 0 := nE_1 ((hdF_e (l := l) (b := b) (n := nn) q1 q2).trans q3) q4
    exact ⟨_, rfl, none, 0, 0, (vint hF.symm), hBo, (by rw [accF, hN]; simpa [zL] using (Own.nil _ _ 5 1)), HU⟩
   refine Wl_callp (r_call1 rfl call53 rfl) (strm_no _ hp8 (hO8.sl.cur (by intro h1; have h3 : ((w7.heap.size ≤ pb8 ∧ pb8 ≠ pb8) ∧ pb8 < w8.heap.size) := h1; first | omega | simp at h3)) hb (by omega) q3) ?_
   intro w40 hU40
   have hzw40 := hU40.size
   replace hBo := hBo.upd1 hU40 (by omega)
   replace HU := HU.trans1 hU40 (by show (pb8 = bo) ∨ w.heap.size ≤ pb8; omega)
   replace hb1 := hb1.upd1 hU40 (by omega)
   refine pan_ds rfl ?_
   refine lv_call (by simp) call33 rfl (fcaught_pan (S := fun g => False) (Φ := fun w' => True) _ hb1 call79 (by show ¬ (False); first | omega | exact fun h => h) (fgoes_clr _)) ?_
   rintro e1 u1 w41 ⟨rfl, v1, rfl, rfl, wq41, _, hUa41, hUb41, hbe41⟩
   have hzwq41 := hUa41.size
   replace hBo := hBo.upd0 hUa41
   replace HU := HU.trans0 hUa41
   have hzw41 := hUb41.size
   replace hBo := hBo.upd1 hUb41 (by omega)
   replace HU := HU.trans1 hUb41 (by show (B1 = bo) ∨ w.heap.size ≤ B1; omega)
   refine lv_nil (v := .int .i64 (e4 b)) (rc1 results49 rfl (cellIs isAgg23 hbe41)) ?_
   have hF : (d4F l b nn).2 = e4 b := by rw [show d4F l b nn = ([], e4 b) from (d4F_h (by rw [hdF_e (l := l) (b := b) (n := nn) q1 q2]; exact q3)).trans (by rw [hdF_e (l := l) (b := b) (n := nn) q1 q2])]
   have hN := nE_h (by rw [hdF_e (l := l) (b := b) (n := nn) q1 q2]; exact q3)
   exact ⟨_, rfl, none, 0, 0, (vint hF.symm), hBo, (by rw [accF, hN]; simpa [zL] using (Own.nil _ _ 5 1)), HU⟩
  refine Wl_callp (r_call1 rfl call35 rfl) (parted_no (n := nn) _ q2) ?_
  intro w42 hU42
  have hzw42 := hU42.size
  replace hBo := hBo.upd0 hU42
  replace HU := HU.trans0 hU42
  replace hb1 := hb1.upd0 hU42
  refine pan_ds rfl ?_
  refine lv_call (by simp) call33 rfl (fcaught_pan (S := fun g => False) (Φ := fun w' => True) _ hb1 call79 (by show ¬ (False); first | omega | exact fun h => h) (fgoes_clr _)) ?_
  rintro e1 u1 w43 ⟨rfl, v1, rfl, rfl, wq43, _, hUa43, hUb43, hbe43⟩
  have hzwq43 := hUa43.size
  replace hBo := hBo.upd0 hUa43
  replace HU := HU.trans0 hUa43
  have hzw43 := hUb43.size
  replace hBo := hBo.upd1 hUb43 (by omega)
  replace HU := HU.trans1 hUb43 (by show (B1 = bo) ∨ w.heap.size ≤ B1; omega)
  refine lv_nil (v := .int .i64 (paF nn)) (rc1 results49 rfl (cellIs isAgg23 hbe43)) ?_
  have hF : (d4F l b nn).2 = paF nn := by rw [show d4F l b nn = ([], paF nn) from (d4F_h (by rw [hdF_p (l := l) (b := b) (n := nn) q1 q2]; exact q2)).trans (by rw [hdF_p (l := l) (b := b) (n := nn) q1 q2])]
  have hN := nE_h (by rw [hdF_p (l := l) (b := b) (n := nn) q1 q2]; exact q2)
  exact ⟨_, rfl, none, 0, 0, (vint hF.symm), hBo, (by rw [accF, hN]; simpa [zL] using (Own.nil _ _ 5 1)), HU⟩
 refine Wl_call (r_call1 rfl call56 rfl) (check_no _ hs (by omega) q1) ?_
 rintro v w44 ⟨rfl, hU44⟩
 have hzw44 := hU44.size
 replace hBo := hBo.upd0 hU44
 replace HU := HU.trans0 hU44
 replace hb1 := hb1.upd0 hU44
 refine Wl_lit (pv := [(0, .int .i64 12)]) (cs := [.int .i64 12]) underlying112 sizeOf23 zeroValue23 (by decide) (by decide) (by simp only [List.map_toArray, List.map_cons, List.map_nil] <;> rfl) (by kernel_rfl) rfl (by decide) ?_
 intro B45 w45 hB45 hU45 hzz45 hs45
 have hzw45 := hU45.size
 replace hBo := hBo.upd0 hU45
 replace HU := HU.trans0 hU45
 replace hb1 := hb1.upd0 hU45
 replace hs45 : Own w45 (Is B45) 23 1 (.slice (some ⟨B45, 0, none⟩) 1 1) 1 (ints .i64 [12]) := hs45
 refine Wl_callp (r_call1 rfl call38 rfl) (fmust_no (er := 12) _ hs45.sl.any (by decide)) ?_
 intro w46 hU46
 have hzw46 := hU46.size
 replace hBo := hBo.upd0 hU46
 replace HU := HU.trans0 hU46
 replace hb1 := hb1.upd0 hU46
 refine pan_ds rfl ?_
 refine lv_call (by simp) call33 rfl (fcaught_pan (S := fun g => False) (Φ := fun w' => True) _ hb1 call79 (by show ¬ (False); first | omega | exact fun h => h) (fgoes_clr _)) ?_
 rintro e1 u1 w47 ⟨rfl, v1, rfl, rfl, wq47, _, hUa47, hUb47, hbe47⟩
 have hzwq47 := hUa47.size
 replace hBo := hBo.upd0 hUa47
 replace HU := HU.trans0 hUa47
 have hzw47 := hUb47.size
 replace hBo := hBo.upd1 hUb47 (by omega)
 replace HU := HU.trans1 hUb47 (by show (B1 = bo) ∨ w.heap.size ≤ B1; omega)
 refine lv_nil (v := .int .i64 12) (rc1 results49 rfl (cellIs isAgg23 hbe47)) ?_
 have hF : (d4F l b nn).2 = 12 := by rw [show d4F l b nn = ([], 12) from (d4F_h (by rw [hdF_r (l := l) (b := b) (n := nn) q1]; decide)).trans (by rw [hdF_r (l := l) (b := b) (n := nn) q1])]
 have hN := nE_h (by rw [hdF_r (l := l) (b := b) (n := nn) q1]; decide)
 exact ⟨_, rfl, none, 0, 0, (vint hF.symm), hBo, (by rw [accF, hN]; simpa [zL] using (Own.nil _ _ 5 1)), HU⟩
theorem fdec_spec {a a2 : Option Addr} {n c m d : Nat} {l b : List Int} {nn : Int} {R : Nat → Prop} (w : World) (hs : Sl w R 1 (.slice a n c) n (ints .i64 l)) (hn : n ≤ 1000) (hsb : Sl w (fun g => g < w.heap.size) 1 (.slice a2 m d) m (ints .u8 b)) (hb : Byt b) (hm : m ≤ 100000) (hni : -9223372036854775808 ≤ nn ∧ nn ≤ 9223372036854775807) :
  Calls Tryz.prog 23 #[.slice a n c, .slice a2 m d, .int .i64 nn] w (Ret fun v w' => ∃ (a' : Option Addr) (m' : Nat) (c' : Nat), v = .tuple #[.slice a' m' c', .int .i64 ((d4F l b nn).2)] ∧ Own w' (fun g => w.heap.size ≤ g) 5 1 (.slice a' m' c') m' (ints .u8 ((d4F l b nn).1)) ∧ Upd No w w') := by
 have HU := Upd.rno w
 have hl_hs := ilen hs
 have hc_hs := hs.cap.1
 replace hs := hs.tight
 have hl_hsb := ilen hsb
 have hc_hsb := hsb.cap.1
 refine calls_of_W func23 rfl ntmps23 (by simp) ?_
 refine W_seq (W_region ?_)
 refine Wl_alloc (cs := [.slice none 0 0]) zeroValue32 rfl ?_
 intro B1 w1 hB1 hU1 hzz1 hb1
 have hzw1 := hU1.size
 replace hs := hs.upd0 hU1
 replace hsb := hsb.upd0 hU1
 replace HU := HU.trans0 hU1
 refine Was (.int .i64 0) ?_
 refine Wl_nil (W_seq (W_region ?_))
 refine Wmv (.slice a n c) ?_
 refine Wmv (.slice a2 m d) ?_
 refine Wmv (.int .i64 nn) ?_
 refine Wl_v (r_mkf1 (v0 := .pointer (some ⟨B1, 0, none⟩)) rfl) ?_
 by_cases q1 : (d4F l b nn).2 = 0
 ·refine Wl_call (r_call4 rfl call49 rfl rfl rfl rfl) (goes_all (l := l) (b := b) (n := n) (m := m) _ ((hs.weak (by intro g hg; have h3 : ((R g) ∧ g < w.heap.size) := hg; show g < B1; omega))) (by omega) ((hsb.weak (by intro g hg; have h3 : g < w.heap.size := hg; show g < B1; omega))) hb (by omega) (by omega) hb1) ?_
  rintro v w2 ⟨a2x, m2, c2, rfl, hBo22, hO2, hU2⟩
  have hzw2 := hU2.size
  replace HU := HU.t1 hU2 (by omega)
  have hbl_hBo22 := hBo22.lt
  replace hO2 := hO2.tight
  have hl_hO2 := ilen hO2.sl
  have hc_hO2 := hO2.sl.cap.1
  replace hO2 := hO2.icong (accF_ok q1)
  refine Was (.int .i64 ((d4F l b nn).2)) ?_
  refine Wl_nil (W_seq (W_seq (W_region ?_)))
  refine Wmv (.int .i64 ((d4F l b nn).2)) ?_
  refine Wl_v (r_ne rfl rfl) ?_
  refine Wl_nil ?_
  have q2 : ¬ (((d4F l b nn).2) ≠ 0) := (fun h2 => h2 q1)
  rw [decide_eq_false q2]
  refine W_cond_f rfl ?_
  refine W_skip (W_seq (W_region ?_))
  refine Wl_load (v := .slice a2x m2 c2) isAgg32 rfl hBo22 rfl ?_
  refine Wl_store (v := .slice a2x m2 c2) (cs' := [.slice a2x m2 c2]) sizeOf32 rfl rfl rfl rfl hBo22 rfl rfl ?_
  intro w3 hU3 hzz3 hBo22n
  replace hBo22 := hBo22n; clear hBo22n
  have hzw3 := hU3.size
  replace HU := HU.t1 hU3 (by omega)
  replace hO2 := hO2.upd1 hU3 (show ¬ (((w1.heap.size ≤ B1) ∧ B1 < w2.heap.size)) by omega)
  refine Was (.int .i64 0) ?_
  refine Wl_nil ?_
  refine W_ret ?_
  refine ret_end (v := .tuple #[.slice a2x m2 c2, .int .i64 0]) rfl (rm_ct results23 rfl rfl (cellIs isAgg32 hBo22)) ?_
  exact ⟨_, rfl, a2x, m2, c2, (vtup2 rfl (vint (by omega))), (hO2.weak (by intro g hg; have h3 : ((w1.heap.size ≤ g) ∧ g < w2.heap.size) := hg; show w.heap.size ≤ g; omega)), HU⟩
 refine Wl_call (r_call4 rfl call49 rfl rfl rfl rfl) (goes_all (l := l) (b := b) (n := n) (m := m) _ ((hs.weak (by intro g hg; have h3 : ((R g) ∧ g < w.heap.size) := hg; show g < B1; omega))) (by omega) ((hsb.weak (by intro g hg; have h3 : g < w.heap.size := hg; show g < B1; omega))) hb (by omega) (by omega) hb1) ?_
 rintro v w4 ⟨a4, m4, c4, rfl, hBo24, hO4, hU4⟩
 have hzw4 := hU4.size
 replace HU := HU.t1 hU4 (by omega)
 have hbl_hBo24 := hBo24.lt
 replace hO4 := hO4.tight
 have hl_hO4 := ilen hO4.sl
 have hc_hO4 := hO4.sl.cap.1
 refine Was (.int .i64 ((d4F l b nn).2)) ?_
 refine Wl_nil (W_seq (W_seq (W_region ?_)))
 refine Wmv (.int .i64 ((d4F l b nn).2)) ?_
 refine Wl_v (r_ne rfl rfl) ?_
 refine Wl_nil ?_
 have q3 : ((d4F l b nn).2) ≠ 0 := q1
 rw [decide_eq_true q3]
 refine W_cond_t rfl ?_
 refine W_seq (W_region ?_)
 refine Wmv (.int .i64 ((d4F l b nn).2)) ?_
 refine Wl_store (v := .slice none 0 0) (cs' := [.slice none 0 0]) sizeOf32 rfl rfl rfl rfl hBo24 rfl rfl ?_
 intro w5 hU5 hzz5 hBo24n
 replace hBo24 := hBo24n; clear hBo24n
 have hzw5 := hU5.size
 replace HU := HU.t1 hU5 (by omega)
 refine Was (.int .i64 ((d4F l b nn).2)) ?_
 refine Wl_nil ?_
 refine W_ret ?_
 refine ret_end (v := .tuple #[.slice none 0 0, .int .i64 ((d4F l b nn).2)]) rfl (rm_ct results23 rfl rfl (cellIs isAgg32 hBo24)) ?_
 have hF := d4F_err q1
 exact ⟨_, rfl, none, 0, 0, rfl, (by rw [hF]; exact (Own.nil _ _ 5 1)), HU⟩
end Go.Proofs.YtdppageondgjkaaGreat
