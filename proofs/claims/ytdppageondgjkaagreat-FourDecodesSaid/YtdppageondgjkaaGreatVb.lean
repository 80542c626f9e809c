/-
 Walks, printed by a small program of this project (gen.py).
-/
import Derived.Test.YtdppageondgjkaaGreatVa
set_option linter.unusedVariables false
set_option linter.unusedSimpArgs false
set_option maxRecDepth 100000
namespace Go.Proofs.YtdppageondgjkaaGreat
open Go.Fw _root_.Go.Proofs.Tryz
open Nu
def pt (b : List Int) (f g : Nat) : List Int := (b.drop f).take (g - f)
theorem Hs.pt {l b : List Int} (h : Hs l b) (f g : Nat) : Hs l (pt b f g) := fun x hx => h x (List.mem_of_mem_drop (List.mem_of_mem_take hx))
theorem ecF_ok {l b : List Int} (hr : Rt l) (h : Hs l b) : ecF l b = (out l b, 0) := by
 unfold ecF; rw [if_neg (not_not_intro hr), if_neg (not_not_intro h)]
theorem ecF_pt {l b : List Int} (hr : Rt l) (h : Hs l b) (f g : Nat) : ecF l ((b.drop f).take (g - f)) = (out l (pt b f g), 0) := ecF_ok hr (h.pt f g)
theorem eL_dt {l b : List Int} (f g : Nat) : eL l (pt b f g) ≤ eL l b := by
 have h1 := eL_app l (b.take f) (b.drop f)
 have h2 := eL_app l ((b.drop f).take (g - f)) ((b.drop f).drop (g - f))
 rw [List.take_append_drop] at h1 h2
 show eL l ((b.drop f).take (g - f)) ≤ _
 omega
theorem out_lel {l b : List Int} (hr : Rt l) (f g : Nat) : (out l (pt b f g)).length ≤ 2 * b.length + 1 := by
 have h1 := eL_le hr b
 have h2 := eL_dt (l := l) (b := b) f g
 rw [out_len]; omega
theorem enc2 {bl bb : Nat} {a a2 : Option Addr} {n c m d : Nat} {l b : List Int} {ix : Int} {fr to_ : Nat} (w : World) (hBl : Blk w bl [.slice a n c]) (hBb : Blk w bb [.slice a2 m d]) (hs : Sl w (fun g => g < w.heap.size) 1 (.slice a n c) n (ints .i64 l)) (hn : n ≤ 1000) (hsb : Sl w (fun g => g < w.heap.size) 1 (.slice a2 m d) m (ints .u8 b)) (hb : Byt b) (hm : m ≤ 100000) (hr : Rt l) (hh : Hs l b) (hfg : fr ≤ to_ ∧ to_ ≤ m) :
  Calls Tryz.prog 41 #[.int .i64 ix, .int .i64 ((fr : Nat) : Int), .int .i64 ((to_ : Nat) : Int), .pointer (some ⟨bl, 0, none⟩), .pointer (some ⟨bb, 0, none⟩)] w (Ret fun v w' => ∃ (a' : Option Addr) (m' : Nat) (c' : Nat), v = .slice a' m' c' ∧ Own w' (fun g => w.heap.size ≤ g) 5 1 (.slice a' m' c') m' (ints .u8 (out l (pt b fr to_))) ∧ Upd No w w') := by
 have HU := Upd.rno w
 have hbl_hBl := hBl.lt
 have hbl_hBb := hBb.lt
 have hl_hs := ilen hs
 have hc_hs := hs.cap.1
 have hl_hsb := ilen hsb
 have hc_hsb := hsb.cap.1
 refine calls_of_W func41 rfl ntmps41 (by simp) ?_
 refine W_seq (W_region ?_)
 refine Was (.slice none 0 0) ?_
 refine Wl_nil (W_seq ?_)
 refine W_drawt rfl (l0 := tf 0 12) (by kernel_rfl) ?_
 refine Tk 0 (tf 1 12) rfl (YI_v (v := .slice a n c) rfl (fun w' hw' => r_load isAgg22 rfl (by rw [(hBl.upd0 hw').cell]; rfl))) ?_
 refine Tk 1 (tf 2 12) rfl (YI_v (v := .slice a2 m d) rfl (fun w' hw' => r_load isAgg32 rfl (by rw [(hBb.upd0 hw').cell]; rfl))) ?_
 refine Tk 2 (tf 3 12) rfl (YI_v (v := .int .i64 ((fr : Nat) : Int)) rfl (fun w' hw' => r_mv (v := .int .i64 ((fr : Nat) : Int)) rfl)) ?_
 refine Tk 3 (tf 4 12) rfl (YI_v (v := .int .i64 ((to_ : Nat) : Int)) rfl (fun w' hw' => r_mv (v := .int .i64 ((to_ : Nat) : Int)) rfl)) ?_
 refine Tk 4 (tf 5 12) rfl (YI_v (v := .int .i64 ((to_ : Nat) : Int)) rfl (fun w' hw' => r_mv (v := .int .i64 ((to_ : Nat) : Int)) rfl)) ?_
 refine Tk 5 (tf 6 12) rfl (YI_v (v := .slice (if to_ = fr then a2 else a2.map (·.add (fr * 1))) (to_ - fr) (to_ - fr)) rfl (fun w' hw' => r_slicef (l' := fr) (h' := to_) (q' := to_) (n' := to_ - fr) (c' := to_ - fr) underlying32 sizeOf5 rfl rfl rfl rfl (by omega) (by omega) (by omega) (by omega) (by omega) (by omega) (by omega) (by omega))) ?_
 have hT1 := Sl.cutf (l := fr) (n := to_ - fr) (q := to_) hsb (by omega) (by omega) (by omega)
 have hl_hT1 := ilen hT1
 have hc_hT1 := hT1.cap.1
 intro w2 hU2
 have hzw2 := hU2.size
 replace hs := hs.upd0 hU2
 replace HU := HU.trans0 hU2
 replace hT1 := hT1.upd0 hU2
 refine Wa_one (i := 6) (listed' := tf 7 12) (by kernel_rfl) rfl (by kernel_rfl) ?_
 refine Ws_of_Wl ?_
 have hW : Upd No w w2 := hU2
 refine Wl_call (r_call2 rfl call30 rfl rfl) (oenc_spec _ hs (by omega) hT1.any (byt_take (byt_drop hb _) _) (by omega)) ?_
 rintro v w3 ⟨a3, m3, c3, rfl, hO3, hU3⟩
 have hzw3 := hU3.size
 replace HU := HU.trans0 hU3
 try replace hW := hW.trans0 hU3
 replace hO3 := hO3.tight
 have hl_hO3 := ilen hO3.sl
 have hc_hO3 := hO3.sl.cap.1
 replace hO3 := hO3.icong (show (ecF l ((b.drop fr).take (to_ - fr))).1 = out l (pt b fr to_) from by rw [ecF_pt hr hh])
 refine Wl_nil ?_
 intro w4 hS4
 refine ⟨fun h => absurd h (by rw [show barOp _ 6 = true from by kernel_rfl]; simp), fun _ => ⟨Upd No w4, ?_⟩⟩
 have hU4 := hS4.upd
 have hzw4 := hU4.size
 replace HU := HU.trans0 hU4
 replace hO3 := hO3.upd0 hU4
 try replace hW := hW.trans0 hU4
 refine Wt_base (Upd.refl _ _) ?_
 refine Tk 7 (tf 8 12) rfl (YI_v (v := .tuple #[.slice a3 m3 c3, .int .i64 ((ecF l ((b.drop fr).take (to_ - fr))).2)]) rfl (fun w' hw' => r_mv (v := .tuple #[.slice a3 m3 c3, .int .i64 ((ecF l ((b.drop fr).take (to_ - fr))).2)]) rfl)) ?_
 rw [show ((ecF l ((b.drop fr).take (to_ - fr))).2 : Int) = 0 from by rw [ecF_pt hr hh]]
 refine Tk 8 (tf 9 12) rfl (YI_v (v := .slice a3 m3 c3) rfl (fun w' hw' => r_ext (v := .slice a3 m3 c3) rfl rfl)) ?_
 refine Tk 9 (tf 10 12) rfl (YI_v (v := .int .i64 0) rfl (fun w' hw' => r_ext (v := .int .i64 0) rfl rfl)) ?_
 refine Tk 10 (tf 11 12) rfl (YI_v (v := .slice a3 m3 c3) rfl (fun w' hw' => r_as (v := .slice a3 m3 c3) rfl)) ?_
 refine Tk 11 (tf 12 12) rfl (YI_v (v := .int .i64 0) rfl (fun w' hw' => r_as (v := .int .i64 0) rfl)) ?_
 intro w5 hU5
 have hzw5 := hU5.size
 replace HU := HU.trans0 hU5
 replace hO3 := hO3.upd0 hU5
 try replace hW := hW.trans0 hU5
 refine Wa_done (by kernel_rfl) ?_
 refine W_seq (W_region ?_)
 refine Wmv (.int .i64 0) ?_
 refine Wl_lit (pv := [(0, .int .i64 0)]) (cs := [.int .i64 0]) underlying112 sizeOf23 zeroValue23 (by decide) (by decide) (by simp only [List.map_toArray, List.map_cons, List.map_nil] <;> rfl) (by kernel_rfl) rfl (by decide) ?_
 intro B6 w6 hB6 hU6 hzz6 hs6
 have hzw6 := hU6.size
 replace HU := HU.trans0 hU6
 replace hO3 := hO3.upd0 hU6
 try replace hW := hW.trans0 hU6
 replace hs6 : Own w6 (Is B6) 23 1 (.slice (some ⟨B6, 0, none⟩) 1 1) 1 (ints .i64 [0]) := hs6
 refine Wl_call (r_call1 rfl call38 rfl) (fmust_ok (er := 0) _ hs6.sl.any (by decide)) ?_
 rintro v w7 ⟨rfl, hU7⟩
 have hzw7 := hU7.size
 replace HU := HU.trans0 hU7
 replace hO3 := hO3.upd0 hU7
 try replace hW := hW.trans0 hU7
 refine Wl_nil (W_seq (W_region ?_))
 refine Wmv (.slice a3 m3 c3) ?_
 refine Was (.slice a3 m3 c3) ?_
 refine Wl_nil ?_
 refine W_ret ?_
 refine ret_end (v := .slice a3 m3 c3) rfl (res1 results41 rfl) ?_
 exact ⟨_, rfl, a3, m3, c3, rfl, (hO3.weak (by intro g hg; have h3 : ((w2.heap.size ≤ g) ∧ g < w3.heap.size) := hg; show w.heap.size ≤ g; omega)), HU⟩
theorem each4 {bl bb : Nat} {a a2 : Option Addr} {n c m d : Nat} {l b : List Int} {k r : Nat} (w : World) (hBl : Blk w bl [.slice a n c]) (hBb : Blk w bb [.slice a2 m d]) (hs : Sl w (fun g => g < w.heap.size) 1 (.slice a n c) n (ints .i64 l)) (hn : n ≤ 1000) (hsb : Sl w (fun g => g < w.heap.size) 1 (.slice a2 m d) m (ints .u8 b)) (hb : Byt b) (hm : m ≤ 100000) (hr : Rt l) (hh : Hs l b) (hkr : 3 * k + r = m) :
  Calls Tryz.prog 40 #[.agg #[.int .i64 ((k : Nat) : Int), .int .i64 ((k : Nat) : Int), .int .i64 ((k : Nat) : Int), .int .i64 ((r : Nat) : Int)], .func (.func 41) #[] #[.pointer (some ⟨bl, 0, none⟩), .pointer (some ⟨bb, 0, none⟩)]] w (Ret fun v w' => ∃ (a' : Option Addr) (c' : Nat) (ja : Option Addr) (ka : Nat) (qa : Nat) (jb : Option Addr) (kb : Nat) (qb : Nat) (jc : Option Addr) (kc : Nat) (qc : Nat) (jd : Option Addr) (kd : Nat) (qd : Nat), v = .slice a' 4 c' ∧ Own w' (fun g => w.heap.size ≤ g) 32 1 (.slice a' 4 c') 4 ([.slice ja ka qa, .slice jb kb qb, .slice jc kc qc, .slice jd kd qd]) ∧ Own w' (fun g => w.heap.size ≤ g) 5 1 (.slice ja ka qa) ka (ints .u8 (out l (pt b 0 k))) ∧ Own w' (fun g => w.heap.size ≤ g) 5 1 (.slice jb kb qb) kb (ints .u8 (out l (pt b k (2 * k)))) ∧ Own w' (fun g => w.heap.size ≤ g) 5 1 (.slice jc kc qc) kc (ints .u8 (out l (pt b (2 * k) (3 * k)))) ∧ Own w' (fun g => w.heap.size ≤ g) 5 1 (.slice jd kd qd) kd (ints .u8 (out l (pt b (3 * k) (3 * k + r)))) ∧ Upd No w w') := by
 have HU := Upd.rno w
 have hbl_hBl := hBl.lt
 have hbl_hBb := hBb.lt
 have hl_hs := ilen hs
 have hc_hs := hs.cap.1
 have hl_hsb := ilen hsb
 have hc_hsb := hsb.cap.1
 refine calls_of_W func40 rfl ntmps40 (by simp) ?_
 refine W_seq (W_region ?_)
 refine Wl_box (v := .agg #[.int .i64 ((k : Nat) : Int), .int .i64 ((k : Nat) : Int), .int .i64 ((k : Nat) : Int), .int .i64 ((r : Nat) : Int)]) (cs := [.int .i64 ((k : Nat) : Int), .int .i64 ((k : Nat) : Int), .int .i64 ((k : Nat) : Int), .int .i64 ((r : Nat) : Int)]) rfl rfl ?_
 intro B1 w1 hB1 hU1 hzz1 hb1
 have hzw1 := hU1.size
 replace hBl := hBl.upd0 hU1
 replace hBb := hBb.upd0 hU1
 replace hs := hs.upd0 hU1
 replace hsb := hsb.upd0 hU1
 replace HU := HU.trans0 hU1
 refine Was (.slice none 0 0) ?_
 refine Wl_nil (W_seq (W_region ?_))
 refine Was (.int .i64 0) ?_
 refine Wl_nil (W_seq (W_seq (W_region ?_)))
 refine Wl_v (r_loada (b := B1) (off := 0) (cs := [.int .i64 ((k : Nat) : Int), .int .i64 ((k : Nat) : Int), .int .i64 ((k : Nat) : Int), .int .i64 ((r : Nat) : Int)]) isAgg65 sizeOf65 rfl rfl (fun j hj => by rw [hb1.cell]; match j, hj with | 0, _ => rfl | 1, _ => rfl | 2, _ => rfl | 3, _ => rfl)) ?_
 refine Wmv (.int .i64 0) ?_
 refine Wl_nil (W_block ?_)
 refine W_unroll 5 ?_
 refine unrK_succ ?_
 refine W_seq (W_region ?_)
 refine Wl_v (v := .bool true) (r_lt (a := 0) (b := 4) rfl rfl) ?_
 refine Wl_nil (W_seq ?_)
 refine W_cond_t rfl ?_
 refine W_skip (W_seq (W_block (W_seq (W_region ?_))))
 refine Wmv (.int .i64 0) ?_
 refine Wl_v (r_indexa (len := 4) (i' := 0) underlying65 sizeOf3 isAgg3 rfl rfl rfl (by decide) rfl) ?_
 refine Was (.int .i64 0) ?_
 refine Was (.int .i64 ((k : Nat) : Int)) ?_
 refine Wl_nil (W_seq (W_region ?_))
 refine Wmv (.slice none 0 0) ?_
 refine Wmv (.func (.func 41) #[] #[.pointer (some ⟨bl, 0, none⟩), .pointer (some ⟨bb, 0, none⟩)]) ?_
 refine Wmv (.int .i64 0) ?_
 refine Wmv (.int .i64 0) ?_
 refine Wmv (.int .i64 0) ?_
 refine Wmv (.int .i64 ((k : Nat) : Int)) ?_
 refine Wl_v (r_add rfl rfl (wi64 (by omega) (by omega))) ?_
 rw [show (0 + ((k : Nat) : Int) : Int) = ((k : Nat) : Int) from by omega]
 refine Wl_call (r_clos3 (v0 := .int .i64 0) (v1 := .int .i64 0) (v2 := .int .i64 ((k : Nat) : Int)) call41 rfl rfl rfl rfl (by first | rfl | (simp; done) | (simp; rfl))) (enc2 (fr := 0) _ hBl hBb hs.any (by omega) hsb.any hb (by omega) (by omega) (by omega) (by omega)) ?_
 rintro v w2 ⟨a2x, m2, c2, rfl, hO2, hU2⟩
 have hzw2 := hU2.size
 replace hBl := hBl.upd0 hU2
 replace hBb := hBb.upd0 hU2
 replace hs := hs.upd0 hU2
 replace hsb := hsb.upd0 hU2
 replace HU := HU.trans0 hU2
 replace hO2 := hO2.tight
 have hl_hO2 := ilen hO2.sl
 have hc_hO2 := hO2.sl.cap.1
 refine Wl_lit (pv := [(0, .slice a2x m2 c2)]) (cs := [.slice a2x m2 c2]) underlying41 sizeOf32 zeroValue32 (by decide) (by decide) (by simp only [List.map_toArray, List.map_cons, List.map_nil] <;> rfl) (by kernel_rfl) rfl (by decide) ?_
 intro B3 w3 hB3 hU3 hzz3 hs3
 have hzw3 := hU3.size
 replace hBl := hBl.upd0 hU3
 replace hBb := hBb.upd0 hU3
 replace hs := hs.upd0 hU3
 replace hsb := hsb.upd0 hU3
 replace HU := HU.trans0 hU3
 replace hO2 := hO2.upd0 hU3
 refine Wl_appendc (cs3 := [.slice a2x m2 c2]) (tot := 1) (by first | rfl | exact (rows_app _ _).symm | simp) underlying41 (ti := Tryz.t32) (z := .slice none 0 0) (sz := 1) (by' := 24) rfl rfl rfl rfl rfl (by decide) rfl (Own.nil _ No _ _) rfl hs3.sl (by intro u hu; simp at hu; subst hu; rfl) (by omega) (by simp only [maxLen]; omega) (by omega) ?_
 intro a4 c4 w4 hU4 hzz4 hO4
 have hzw4 := hU4.size
 replace hBl := hBl.upd0 hU4
 replace hBb := hBb.upd0 hU4
 replace hs := hs.upd0 hU4
 replace hsb := hsb.upd0 hU4
 replace HU := HU.trans0 hU4
 replace hO2 := hO2.upd0 hU4
 replace hO4 := hO4.weak (R' := fun g => g = w3.heap.size) (fun g h => h.elim (fun x => x.elim) id)
 replace hO4 := hO4.tight
 have hl_hO4 := hO4.sl.len
 have hc_hO4 := hO4.sl.cap.1
 refine Was (.slice a4 1 c4) ?_
 refine Wl_nil (W_region ?_)
 refine Wmv (.int .i64 0) ?_
 refine Wmv (.int .i64 ((k : Nat) : Int)) ?_
 refine Wl_v (r_add rfl rfl (wi64 (by omega) (by omega))) ?_
 rw [show (0 + ((k : Nat) : Int) : Int) = ((k : Nat) : Int) from by omega]
 refine Was (.int .i64 ((k : Nat) : Int)) ?_
 refine Wl_nil (W_region ?_)
 refine Wl_v (r_add rfl rfl (show _ = (1 : Int) from by decide)) ?_
 refine Wmv (.int .i64 1) ?_
 refine Wl_nil ?_
 refine unrK_succ ?_
 refine W_seq (W_region ?_)
 refine Wl_v (v := .bool true) (r_lt (a := 1) (b := 4) rfl rfl) ?_
 refine Wl_nil (W_seq ?_)
 refine W_cond_t rfl ?_
 refine W_skip (W_seq (W_block (W_seq (W_region ?_))))
 refine Wmv (.int .i64 1) ?_
 refine Wl_v (r_indexa (len := 4) (i' := 1) underlying65 sizeOf3 isAgg3 rfl rfl rfl (by decide) rfl) ?_
 refine Was (.int .i64 1) ?_
 refine Was (.int .i64 ((k : Nat) : Int)) ?_
 refine Wl_nil (W_seq (W_region ?_))
 refine Wmv (.slice a4 1 c4) ?_
 refine Wmv (.func (.func 41) #[] #[.pointer (some ⟨bl, 0, none⟩), .pointer (some ⟨bb, 0, none⟩)]) ?_
 refine Wmv (.int .i64 1) ?_
 refine Wmv (.int .i64 ((k : Nat) : Int)) ?_
 refine Wmv (.int .i64 ((k : Nat) : Int)) ?_
 refine Wmv (.int .i64 ((k : Nat) : Int)) ?_
 refine Wl_v (r_add rfl rfl (wi64 (by omega) (by omega))) ?_
 rw [show (((k : Nat) : Int) + ((k : Nat) : Int) : Int) = ((2 * k : Nat) : Int) from by omega]
 refine Wl_call (r_clos3 (v0 := .int .i64 1) (v1 := .int .i64 ((k : Nat) : Int)) (v2 := .int .i64 ((2 * k : Nat) : Int)) call41 rfl rfl rfl rfl (by first | rfl | (simp; done) | (simp; rfl))) (enc2 _ hBl hBb hs.any (by omega) hsb.any hb (by omega) (by omega) (by omega) (by omega)) ?_
 rintro v w5 ⟨a5, m5, c5, rfl, hO5, hU5⟩
 have hzw5 := hU5.size
 replace hBl := hBl.upd0 hU5
 replace hBb := hBb.upd0 hU5
 replace hs := hs.upd0 hU5
 replace hsb := hsb.upd0 hU5
 replace HU := HU.trans0 hU5
 replace hO2 := hO2.upd0 hU5
 replace hO4 := hO4.upd0 hU5
 replace hO5 := hO5.tight
 have hl_hO5 := ilen hO5.sl
 have hc_hO5 := hO5.sl.cap.1
 refine Wl_lit (pv := [(0, .slice a5 m5 c5)]) (cs := [.slice a5 m5 c5]) underlying41 sizeOf32 zeroValue32 (by decide) (by decide) (by simp only [List.map_toArray, List.map_cons, List.map_nil] <;> rfl) (by kernel_rfl) rfl (by decide) ?_
 intro B6 w6 hB6 hU6 hzz6 hs6
 have hzw6 := hU6.size
 replace hBl := hBl.upd0 hU6
 replace hBb := hBb.upd0 hU6
 replace hs := hs.upd0 hU6
 replace hsb := hsb.upd0 hU6
 replace HU := HU.trans0 hU6
 replace hO2 := hO2.upd0 hU6
 replace hO4 := hO4.upd0 hU6
 replace hO5 := hO5.upd0 hU6
 refine Wl_appendc (cs3 := [.slice a2x m2 c2, .slice a5 m5 c5]) (tot := 2) (by first | rfl | exact (rows_app _ _).symm | simp) underlying41 (ti := Tryz.t32) (z := .slice none 0 0) (sz := 1) (by' := 24) rfl rfl rfl rfl rfl (by decide) rfl hO4 rfl hs6.sl (by intro u hu; simp at hu; subst hu; rfl) (by omega) (by simp only [maxLen]; omega) (by omega) ?_
 intro a7 c7 w7 hU7 hzz7 hO7
 clear hO4
 have hzw7 := hU7.size
 replace hBl := hBl.upd hU7 (by intro hx; have hx2 : ((bl = w3.heap.size) ∧ bl < w4.heap.size) := hx; omega)
 replace hBb := hBb.upd hU7 (by intro hx; have hx2 : ((bb = w3.heap.size) ∧ bb < w4.heap.size) := hx; omega)
 replace hs := hs.upd hU7 (by intro x h1 h2; have h3 : x < w.heap.size := h1; have h4 : ((x = w3.heap.size) ∧ x < w4.heap.size) := h2; omega)
 replace hsb := hsb.upd hU7 (by intro x h1 h2; have h3 : x < w.heap.size := h1; have h4 : ((x = w3.heap.size) ∧ x < w4.heap.size) := h2; omega)
 replace HU := HU.trans hU7 (by intro x hx; have hx2 : ((x = w3.heap.size) ∧ x < w4.heap.size) := hx; show (False) ∨ w.heap.size ≤ x; omega)
 replace hO2 := hO2.upd hU7 (by intro x h1 h2; have h3 : ((w1.heap.size ≤ x) ∧ x < w2.heap.size) := h1; have h4 : ((x = w3.heap.size) ∧ x < w4.heap.size) := h2; omega)
 replace hO5 := hO5.upd hU7 (by intro x h1 h2; have h3 : ((w4.heap.size ≤ x) ∧ x < w5.heap.size) := h1; have h4 : ((x = w3.heap.size) ∧ x < w4.heap.size) := h2; omega)
 replace hO7 := hO7.tight
 have hl_hO7 := hO7.sl.len
 have hc_hO7 := hO7.sl.cap.1
 refine Was (.slice a7 2 c7) ?_
 refine Wl_nil (W_region ?_)
 refine Wmv (.int .i64 ((k : Nat) : Int)) ?_
 refine Wmv (.int .i64 ((k : Nat) : Int)) ?_
 refine Wl_v (r_add rfl rfl (wi64 (by omega) (by omega))) ?_
 rw [show (((k : Nat) : Int) + ((k : Nat) : Int) : Int) = ((2 * k : Nat) : Int) from by omega]
 refine Was (.int .i64 ((2 * k : Nat) : Int)) ?_
 refine Wl_nil (W_region ?_)
 refine Wl_v (r_add rfl rfl (show _ = (2 : Int) from by decide)) ?_
 refine Wmv (.int .i64 2) ?_
 refine Wl_nil ?_
 refine unrK_succ ?_
 refine W_seq (W_region ?_)
 refine Wl_v (v := .bool true) (r_lt (a := 2) (b := 4) rfl rfl) ?_
 refine Wl_nil (W_seq ?_)
 refine W_cond_t rfl ?_
 refine W_skip (W_seq (W_block (W_seq (W_region ?_))))
 refine Wmv (.int .i64 2) ?_
 refine Wl_v (r_indexa (len := 4) (i' := 2) underlying65 sizeOf3 isAgg3 rfl rfl rfl (by decide) rfl) ?_
 refine Was (.int .i64 2) ?_
 refine Was (.int .i64 ((k : Nat) : Int)) ?_
 refine Wl_nil (W_seq (W_region ?_))
 refine Wmv (.slice a7 2 c7) ?_
 refine Wmv (.func (.func 41) #[] #[.pointer (some ⟨bl, 0, none⟩), .pointer (some ⟨bb, 0, none⟩)]) ?_
 refine Wmv (.int .i64 2) ?_
 refine Wmv (.int .i64 ((2 * k : Nat) : Int)) ?_
 refine Wmv (.int .i64 ((2 * k : Nat) : Int)) ?_
 refine Wmv (.int .i64 ((k : Nat) : Int)) ?_
 refine Wl_v (r_add rfl rfl (wi64 (by omega) (by omega))) ?_
 rw [show (((2 * k : Nat) : Int) + ((k : Nat) : Int) : Int) = ((3 * k : Nat) : Int) from by omega]
 refine Wl_call (r_clos3 (v0 := .int .i64 2) (v1 := .int .i64 ((2 * k : Nat) : Int)) (v2 := .int .i64 ((3 * k : Nat) : Int)) call41 rfl rfl rfl rfl (by first | rfl | (simp; done) | (simp; rfl))) (enc2 _ hBl hBb hs.any (by omega) hsb.any hb (by omega) (by omega) (by omega) (by omega)) ?_
 rintro v w8 ⟨a8, m8, c8, rfl, hO8, hU8⟩
 have hzw8 := hU8.size
 replace hBl := hBl.upd0 hU8
 replace hBb := hBb.upd0 hU8
 replace hs := hs.upd0 hU8
 replace hsb := hsb.upd0 hU8
 replace HU := HU.trans0 hU8
 replace hO2 := hO2.upd0 hU8
 replace hO5 := hO5.upd0 hU8
 replace hO7 := hO7.upd0 hU8
 replace hO8 := hO8.tight
 have hl_hO8 := ilen hO8.sl
 have hc_hO8 := hO8.sl.cap.1
 refine Wl_lit (pv := [(0, .slice a8 m8 c8)]) (cs := [.slice a8 m8 c8]) underlying41 sizeOf32 zeroValue32 (by decide) (by decide) (by simp only [List.map_toArray, List.map_cons, List.map_nil] <;> rfl) (by kernel_rfl) rfl (by decide) ?_
 intro B9 w9 hB9 hU9 hzz9 hs9
 have hzw9 := hU9.size
 replace hBl := hBl.upd0 hU9
 replace hBb := hBb.upd0 hU9
 replace hs := hs.upd0 hU9
 replace hsb := hsb.upd0 hU9
 replace HU := HU.trans0 hU9
 replace hO2 := hO2.upd0 hU9
 replace hO5 := hO5.upd0 hU9
 replace hO7 := hO7.upd0 hU9
 replace hO8 := hO8.upd0 hU9
 refine Wl_appendc (cs3 := [.slice a2x m2 c2, .slice a5 m5 c5, .slice a8 m8 c8]) (tot := 3) (by first | rfl | exact (rows_app _ _).symm | simp) underlying41 (ti := Tryz.t32) (z := .slice none 0 0) (sz := 1) (by' := 24) rfl rfl rfl rfl rfl (by decide) rfl hO7 rfl hs9.sl (by intro u hu; simp at hu; subst hu; rfl) (by omega) (by simp only [maxLen]; omega) (by omega) ?_
 intro a10 c10 w10 hU10 hzz10 hO10
 clear hO7
 have hzw10 := hU10.size
 replace hBl := hBl.upd hU10 (by intro hx; have hx2 : ((((((bl = w3.heap.size) ∧ bl < w4.heap.size)) ∨ bl = w6.heap.size)) ∧ bl < w7.heap.size) := hx; omega)
 replace hBb := hBb.upd hU10 (by intro hx; have hx2 : ((((((bb = w3.heap.size) ∧ bb < w4.heap.size)) ∨ bb = w6.heap.size)) ∧ bb < w7.heap.size) := hx; omega)
 replace hs := hs.upd hU10 (by intro x h1 h2; have h3 : x < w.heap.size := h1; have h4 : ((((((x = w3.heap.size) ∧ x < w4.heap.size)) ∨ x = w6.heap.size)) ∧ x < w7.heap.size) := h2; omega)
 replace hsb := hsb.upd hU10 (by intro x h1 h2; have h3 : x < w.heap.size := h1; have h4 : ((((((x = w3.heap.size) ∧ x < w4.heap.size)) ∨ x = w6.heap.size)) ∧ x < w7.heap.size) := h2; omega)
 replace HU := HU.trans hU10 (by intro x hx; have hx2 : ((((((x = w3.heap.size) ∧ x < w4.heap.size)) ∨ x = w6.heap.size)) ∧ x < w7.heap.size) := hx; show (False) ∨ w.heap.size ≤ x; omega)
 replace hO2 := hO2.upd hU10 (by intro x h1 h2; have h3 : ((w1.heap.size ≤ x) ∧ x < w2.heap.size) := h1; have h4 : ((((((x = w3.heap.size) ∧ x < w4.heap.size)) ∨ x = w6.heap.size)) ∧ x < w7.heap.size) := h2; omega)
 replace hO5 := hO5.upd hU10 (by intro x h1 h2; have h3 : ((w4.heap.size ≤ x) ∧ x < w5.heap.size) := h1; have h4 : ((((((x = w3.heap.size) ∧ x < w4.heap.size)) ∨ x = w6.heap.size)) ∧ x < w7.heap.size) := h2; omega)
 replace hO8 := hO8.upd hU10 (by intro x h1 h2; have h3 : ((w7.heap.size ≤ x) ∧ x < w8.heap.size) := h1; have h4 : ((((((x = w3.heap.size) ∧ x < w4.heap.size)) ∨ x = w6.heap.size)) ∧ x < w7.heap.size) := h2; omega)
 replace hO10 := hO10.tight
 have hl_hO10 := hO10.sl.len
 have hc_hO10 := hO10.sl.cap.1
 refine Was (.slice a10 3 c10) ?_
 refine Wl_nil (W_region ?_)
 refine Wmv (.int .i64 ((2 * k : Nat) : Int)) ?_
 refine Wmv (.int .i64 ((k : Nat) : Int)) ?_
 refine Wl_v (r_add rfl rfl (wi64 (by omega) (by omega))) ?_
 rw [show (((2 * k : Nat) : Int) + ((k : Nat) : Int) : Int) = ((3 * k : Nat) : Int) from by omega]
 refine Was (.int .i64 ((3 * k : Nat) : Int)) ?_
 refine Wl_nil (W_region ?_)
 refine Wl_v (r_add rfl rfl (show _ = (3 : Int) from by decide)) ?_
 refine Wmv (.int .i64 3) ?_
 refine Wl_nil ?_
 refine unrK_succ ?_
 refine W_seq (W_region ?_)
 refine Wl_v (v := .bool true) (r_lt (a := 3) (b := 4) rfl rfl) ?_
 refine Wl_nil (W_seq ?_)
 refine W_cond_t rfl ?_
 refine W_skip (W_seq (W_block (W_seq (W_region ?_))))
 refine Wmv (.int .i64 3) ?_
 refine Wl_v (r_indexa (len := 4) (i' := 3) underlying65 sizeOf3 isAgg3 rfl rfl rfl (by decide) rfl) ?_
 refine Was (.int .i64 3) ?_
 refine Was (.int .i64 ((r : Nat) : Int)) ?_
 refine Wl_nil (W_seq (W_region ?_))
 refine Wmv (.slice a10 3 c10) ?_
 refine Wmv (.func (.func 41) #[] #[.pointer (some ⟨bl, 0, none⟩), .pointer (some ⟨bb, 0, none⟩)]) ?_
 refine Wmv (.int .i64 3) ?_
 refine Wmv (.int .i64 ((3 * k : Nat) : Int)) ?_
 refine Wmv (.int .i64 ((3 * k : Nat) : Int)) ?_
 refine Wmv (.int .i64 ((r : Nat) : Int)) ?_
 refine Wl_v (r_add rfl rfl (wi64 (by omega) (by omega))) ?_
 rw [show (((3 * k : Nat) : Int) + ((r : Nat) : Int) : Int) = ((3 * k + r : Nat) : Int) from by omega]
 refine Wl_call (r_clos3 (v0 := .int .i64 3) (v1 := .int .i64 ((3 * k : Nat) : Int)) (v2 := .int .i64 ((3 * k + r : Nat) : Int)) call41 rfl rfl rfl rfl (by first | rfl | (simp; done) | (simp; rfl))) (enc2 _ hBl hBb hs.any (by omega) hsb.any hb (by omega) (by omega) (by omega) (by omega)) ?_
 rintro v w11 ⟨a11, m11, c11, rfl, hO11, hU11⟩
 have hzw11 := hU11.size
 replace HU := HU.trans0 hU11
 replace hO2 := hO2.upd0 hU11
 replace hO5 := hO5.upd0 hU11
 replace hO8 := hO8.upd0 hU11
 replace hO10 := hO10.upd0 hU11
 replace hO11 := hO11.tight
 have hl_hO11 := ilen hO11.sl
 have hc_hO11 := hO11.sl.cap.1
 refine Wl_lit (pv := [(0, .slice a11 m11 c11)]) (cs := [.slice a11 m11 c11]) underlying41 sizeOf32 zeroValue32 (by decide) (by decide) (by simp only [List.map_toArray, List.map_cons, List.map_nil] <;> rfl) (by kernel_rfl) rfl (by decide) ?_
 intro B12 w12 hB12 hU12 hzz12 hs12
 have hzw12 := hU12.size
 replace HU := HU.trans0 hU12
 replace hO2 := hO2.upd0 hU12
 replace hO5 := hO5.upd0 hU12
 replace hO8 := hO8.upd0 hU12
 replace hO10 := hO10.upd0 hU12
 replace hO11 := hO11.upd0 hU12
 refine Wl_appendc (cs3 := [.slice a2x m2 c2, .slice a5 m5 c5, .slice a8 m8 c8, .slice a11 m11 c11]) (tot := 4) (by first | rfl | exact (rows_app _ _).symm | simp) underlying41 (ti := Tryz.t32) (z := .slice none 0 0) (sz := 1) (by' := 24) rfl rfl rfl rfl rfl (by decide) rfl hO10 rfl hs12.sl (by intro u hu; simp at hu; subst hu; rfl) (by omega) (by simp only [maxLen]; omega) (by omega) ?_
 intro a13 c13 w13 hU13 hzz13 hO13
 clear hO10
 have hzw13 := hU13.size
 replace HU := HU.trans hU13 (by intro x hx; have hx2 : ((((((((((x = w3.heap.size) ∧ x < w4.heap.size)) ∨ x = w6.heap.size)) ∧ x < w7.heap.size)) ∨ x = w9.heap.size)) ∧ x < w10.heap.size) := hx; show (False) ∨ w.heap.size ≤ x; omega)
 replace hO2 := hO2.upd hU13 (by intro x h1 h2; have h3 : ((w1.heap.size ≤ x) ∧ x < w2.heap.size) := h1; have h4 : ((((((((((x = w3.heap.size) ∧ x < w4.heap.size)) ∨ x = w6.heap.size)) ∧ x < w7.heap.size)) ∨ x = w9.heap.size)) ∧ x < w10.heap.size) := h2; omega)
 replace hO5 := hO5.upd hU13 (by intro x h1 h2; have h3 : ((w4.heap.size ≤ x) ∧ x < w5.heap.size) := h1; have h4 : ((((((((((x = w3.heap.size) ∧ x < w4.heap.size)) ∨ x = w6.heap.size)) ∧ x < w7.heap.size)) ∨ x = w9.heap.size)) ∧ x < w10.heap.size) := h2; omega)
 replace hO8 := hO8.upd hU13 (by intro x h1 h2; have h3 : ((w7.heap.size ≤ x) ∧ x < w8.heap.size) := h1; have h4 : ((((((((((x = w3.heap.size) ∧ x < w4.heap.size)) ∨ x = w6.heap.size)) ∧ x < w7.heap.size)) ∨ x = w9.heap.size)) ∧ x < w10.heap.size) := h2; omega)
 replace hO11 := hO11.upd hU13 (by intro x h1 h2; have h3 : ((w10.heap.size ≤ x) ∧ x < w11.heap.size) := h1; have h4 : ((((((((((x = w3.heap.size) ∧ x < w4.heap.size)) ∨ x = w6.heap.size)) ∧ x < w7.heap.size)) ∨ x = w9.heap.size)) ∧ x < w10.heap.size) := h2; omega)
 replace hO13 := hO13.tight
 have hl_hO13 := hO13.sl.len
 have hc_hO13 := hO13.sl.cap.1
 refine Was (.slice a13 4 c13) ?_
 refine Wl_nil (W_region ?_)
 refine Wmv (.int .i64 ((3 * k : Nat) : Int)) ?_
 refine Wmv (.int .i64 ((r : Nat) : Int)) ?_
 refine Wl_v (r_add rfl rfl (wi64 (by omega) (by omega))) ?_
 rw [show (((3 * k : Nat) : Int) + ((r : Nat) : Int) : Int) = ((3 * k + r : Nat) : Int) from by omega]
 refine Was (.int .i64 ((3 * k + r : Nat) : Int)) ?_
 refine Wl_nil (W_region ?_)
 refine Wl_v (r_add rfl rfl (show _ = (4 : Int) from by decide)) ?_
 refine Wmv (.int .i64 4) ?_
 refine Wl_nil ?_
 refine unrK_succ ?_
 refine W_seq (W_region ?_)
 refine Wl_v (v := .bool false) (r_lt (a := 4) (b := 4) rfl rfl) ?_
 refine Wl_nil (W_seq ?_)
 refine W_cond_f rfl ?_
 refine W_exit ?_
 refine W_seq (W_region ?_)
 refine Wmv (.slice a13 4 c13) ?_
 refine Was (.slice a13 4 c13) ?_
 refine Wl_nil ?_
 refine W_ret ?_
 refine ret_end (v := .slice a13 4 c13) rfl (res1 results40 rfl) ?_
 exact ⟨_, rfl, a13, c13, a2x, m2, c2, a5, m5, c5, a8, m8, c8, a11, m11, c11, rfl, (hO13.weak (by intro g hg; have h3 : ((((((((((((((g = w3.heap.size) ∧ g < w4.heap.size)) ∨ g = w6.heap.size)) ∧ g < w7.heap.size)) ∨ g = w9.heap.size)) ∧ g < w10.heap.size)) ∨ g = w12.heap.size)) ∧ g < w13.heap.size) := hg; show w.heap.size ≤ g; omega)), (hO2.weak (by intro g hg; have h3 : ((w1.heap.size ≤ g) ∧ g < w2.heap.size) := hg; show w.heap.size ≤ g; omega)), (hO5.weak (by intro g hg; have h3 : ((w4.heap.size ≤ g) ∧ g < w5.heap.size) := hg; show w.heap.size ≤ g; omega)), (hO8.weak (by intro g hg; have h3 : ((w7.heap.size ≤ g) ∧ g < w8.heap.size) := hg; show w.heap.size ≤ g; omega)), (hO11.weak (by intro g hg; have h3 : ((w10.heap.size ≤ g) ∧ g < w11.heap.size) := hg; show w.heap.size ≤ g; omega)), HU⟩
theorem grow0 {n : Int} (w : World) (hn : 0 ≤ n ∧ n ≤ 140737488355328) :
  Calls Tryz.prog 96 #[.slice none 0 0, .int .i64 n] w (Ret fun v w' => ∃ (a' : Option Addr) (c' : Nat), v = .slice a' 0 c' ∧ Own w' (fun g => w.heap.size ≤ g) 5 1 (.slice a' 0 c') 0 (ints .u8 []) ∧ Upd No w w') := by
 have HU := Upd.rno w
 refine calls_of_W func96 rfl ntmps96 (by simp) ?_
 refine W_seq (W_region ?_)
 refine Was (.slice none 0 0) ?_
 refine Wl_nil (W_seq (W_seq (W_region ?_)))
 refine Wmv (.int .i64 n) ?_
 refine Wl_v (r_lt rfl rfl) ?_
 refine Wl_nil ?_
 have q1 : ¬ (n < 0) := (by omega)
 rw [decide_eq_false q1]
 refine W_cond_f rfl ?_
 refine W_skip (W_seq (W_seq (W_region ?_)))
 refine Wmv (.int .i64 n) ?_
 refine Wmv (.slice none 0 0) ?_
 refine Wl_v (r_cap underlying32 rfl) ?_
 refine Wmv (.slice none 0 0) ?_
 refine Wl_v (r_len underlying32 rfl) ?_
 refine Wl_v (r_sub rfl rfl (wi64 (by omega) (by omega))) ?_
 refine Wl_v (r_sub rfl rfl (wi64 (by omega) (by omega))) ?_
 refine Was (.int .i64 (n - (0 - 0))) ?_
 refine Wl_nil (W_seq (W_region ?_))
 refine Wmv (.int .i64 (n - (0 - 0))) ?_
 refine Wl_v (r_gt rfl rfl) ?_
 refine Wl_nil ?_
 by_cases q2 : 0 < (n - (0 - 0))
 ·rw [decide_eq_true q2]
  refine W_cond_t rfl ?_
  refine W_region ?_
  refine Wmv (.slice none 0 0) ?_
  refine Wmv (.slice none 0 0) ?_
  refine Wl_v (r_cap underlying32 rfl) ?_
  refine Wl_v (r_slicehn (h' := 0) underlying32 sizeOf5 rfl rfl (by omega) (by omega)) ?_
  refine Wmv (.int .i64 (n - (0 - 0))) ?_
  refine Wl_appmk (ti := Tryz.t5) (z := .int .u8 0) (sz := 1) (by' := 1) (m := n.toNat) underlying32 underlying3 rfl rfl rfl rfl rfl (by decide) rfl rfl (by omega) (by omega) (by simp only [maxLen]; omega) (by omega) ?_
  intro B1 c1 w1 hB1 hU1 hzz1 hcc1 hO1
  have hzw1 := hU1.size
  replace HU := HU.trans0 hU1
  refine Wmv (.slice none 0 0) ?_
  refine Wl_v (r_len underlying32 rfl) ?_
  refine Wl_v (r_slicehn (h' := 0) underlying32 sizeOf5 rfl rfl (by omega) (by omega)) ?_
  refine Was (.slice (some ⟨B1, 0, none⟩) 0 c1) ?_
  refine Wl_nil (W_seq (W_region ?_))
  refine Wmv (.slice (some ⟨B1, 0, none⟩) 0 c1) ?_
  refine Was (.slice (some ⟨B1, 0, none⟩) 0 c1) ?_
  refine Wl_nil ?_
  refine W_ret ?_
  refine ret_end (v := .slice (some ⟨B1, 0, none⟩) 0 c1) rfl (res1 results96 rfl) ?_
  exact ⟨_, rfl, (some ⟨B1, 0, none⟩), c1, rfl, (hO1.weak (by intro g hg; have h3 : g = B1 := hg; show w.heap.size ≤ g; omega)), HU⟩
 rw [decide_eq_false q2]
 refine W_cond_f rfl ?_
 refine W_skip (W_seq (W_region ?_))
 refine Wmv (.slice none 0 0) ?_
 refine Was (.slice none 0 0) ?_
 refine Wl_nil ?_
 refine W_ret ?_
 refine ret_end (v := .slice none 0 0) rfl (res1 results96 rfl) ?_
 exact ⟨_, rfl, none, 0, rfl, (Own.nil _ _ 5 1), HU⟩
theorem concat4 {a : Option Addr} {c : Nat} {ja jb jc jd : Option Addr} {ka kb kc kd qa qb qc qd : Nat} {xa xb xc xd : List Int} {R : Nat → Prop} (w : World) (hS : Sl w R 1 (.slice a 4 c) 4 ([.slice ja ka qa, .slice jb kb qb, .slice jc kc qc, .slice jd kd qd])) (ha : Sl w (fun g => g < w.heap.size) 1 (.slice ja ka qa) ka (ints .u8 xa)) (hb : Sl w (fun g => g < w.heap.size) 1 (.slice jb kb qb) kb (ints .u8 xb)) (hc : Sl w (fun g => g < w.heap.size) 1 (.slice jc kc qc) kc (ints .u8 xc)) (hd : Sl w (fun g => g < w.heap.size) 1 (.slice jd kd qd) kd (ints .u8 xd)) (hn : ka + kb + kc + kd ≤ 140737488355000) :
  Calls Tryz.prog 73 #[.slice a 4 c] w (Ret fun v w' => ∃ (a' : Option Addr) (c' : Nat), v = .slice a' (ka + kb + kc + kd) c' ∧ Own w' (fun g => w.heap.size ≤ g) 5 1 (.slice a' (ka + kb + kc + kd) c') (ka + kb + kc + kd) (ints .u8 (xa ++ xb ++ xc ++ xd)) ∧ Upd No w w') := by
 have HU := Upd.rno w
 have hl_hS := hS.len
 have hc_hS := hS.cap.1
 replace hS := hS.tight
 have hl_ha := ilen ha
 have hc_ha := ha.cap.1
 have hl_hb := ilen hb
 have hc_hb := hb.cap.1
 have hl_hc := ilen hc
 have hc_hc := hc.cap.1
 have hl_hd := ilen hd
 have hc_hd := hd.cap.1
 refine calls_of_W func73 rfl ntmps73 (by simp) ?_
 refine W_seq (W_region ?_)
 refine Was (.slice none 0 0) ?_
 refine Wl_nil (W_seq (W_region ?_))
 refine Was (.int .i64 0) ?_
 refine Wl_nil (W_seq (W_seq (W_region ?_)))
 refine Wmv (.slice a 4 c) ?_
 refine Wl_v (r_len underlying41 rfl) ?_
 refine Wmv (.int .i64 0) ?_
 refine Wl_nil (W_block ?_)
 refine W_unroll 5 ?_
 refine unrK_succ ?_
 refine W_seq (W_region ?_)
 refine Wl_v (v := .bool true) (r_lt (a := 0) (b := 4) rfl rfl) ?_
 refine Wl_nil (W_seq ?_)
 refine W_cond_t rfl ?_
 refine W_skip (W_seq (W_block (W_seq (W_region ?_))))
 refine Wl_idxc (i' := 0) (v := .slice ja ka qa) underlying41 sizeOf32 rfl rfl (by first | rfl | omega) hS (by decide) rfl ?_
 intro ib1 io1 hc1
 refine Wl_loadc isAgg32 rfl hc1 ?_
 refine Was (.slice ja ka qa) ?_
 refine Wl_nil (W_seq (W_region ?_))
 refine Wmv (.int .i64 0) ?_
 refine Wmv (.slice ja ka qa) ?_
 refine Wl_v (r_len underlying32 rfl) ?_
 refine Wl_v (r_add rfl rfl (wi64 (by omega) (by omega))) ?_
 refine Was (.int .i64 (0 + ((ka : Nat) : Int))) ?_
 refine Wl_nil (W_seq (W_region ?_))
 refine Wmv (.int .i64 (0 + ((ka : Nat) : Int))) ?_
 refine Wl_v (r_lt rfl rfl) ?_
 refine Wl_nil ?_
 have q1 : ¬ ((0 + ((ka : Nat) : Int)) < 0) := (by omega)
 rw [decide_eq_false q1]
 refine W_cond_f rfl ?_
 refine W_skip (W_region ?_)
 refine Wl_v (r_add rfl rfl (show _ = (1 : Int) from by decide)) ?_
 refine Wmv (.int .i64 1) ?_
 refine Wl_nil ?_
 refine unrK_succ ?_
 refine W_seq (W_region ?_)
 refine Wl_v (v := .bool true) (r_lt (a := 1) (b := 4) rfl rfl) ?_
 refine Wl_nil (W_seq ?_)
 refine W_cond_t rfl ?_
 refine W_skip (W_seq (W_block (W_seq (W_region ?_))))
 refine Wl_idxc (i' := 1) (v := .slice jb kb qb) underlying41 sizeOf32 rfl rfl (by first | rfl | omega) hS (by decide) rfl ?_
 intro ib2 io2 hc2
 refine Wl_loadc isAgg32 rfl hc2 ?_
 refine Was (.slice jb kb qb) ?_
 refine Wl_nil (W_seq (W_region ?_))
 refine Wmv (.int .i64 (0 + ((ka : Nat) : Int))) ?_
 refine Wmv (.slice jb kb qb) ?_
 refine Wl_v (r_len underlying32 rfl) ?_
 refine Wl_v (r_add rfl rfl (wi64 (by omega) (by omega))) ?_
 refine Was (.int .i64 ((0 + ((ka : Nat) : Int)) + ((kb : Nat) : Int))) ?_
 refine Wl_nil (W_seq (W_region ?_))
 refine Wmv (.int .i64 ((0 + ((ka : Nat) : Int)) + ((kb : Nat) : Int))) ?_
 refine Wl_v (r_lt rfl rfl) ?_
 refine Wl_nil ?_
 have q2 : ¬ (((0 + ((ka : Nat) : Int)) + ((kb : Nat) : Int)) < 0) := (by omega)
 rw [decide_eq_false q2]
 refine W_cond_f rfl ?_
 refine W_skip (W_region ?_)
 refine Wl_v (r_add rfl rfl (show _ = (2 : Int) from by decide)) ?_
 refine Wmv (.int .i64 2) ?_
 refine Wl_nil ?_
 refine unrK_succ ?_
 refine W_seq (W_region ?_)
 refine Wl_v (v := .bool true) (r_lt (a := 2) (b := 4) rfl rfl) ?_
 refine Wl_nil (W_seq ?_)
 refine W_cond_t rfl ?_
 refine W_skip (W_seq (W_block (W_seq (W_region ?_))))
 refine Wl_idxc (i' := 2) (v := .slice jc kc qc) underlying41 sizeOf32 rfl rfl (by first | rfl | omega) hS (by decide) rfl ?_
 intro ib3 io3 hc3
 refine Wl_loadc isAgg32 rfl hc3 ?_
 refine Was (.slice jc kc qc) ?_
 refine Wl_nil (W_seq (W_region ?_))
 refine Wmv (.int .i64 ((0 + ((ka : Nat) : Int)) + ((kb : Nat) : Int))) ?_
 refine Wmv (.slice jc kc qc) ?_
 refine Wl_v (r_len underlying32 rfl) ?_
 refine Wl_v (r_add rfl rfl (wi64 (by omega) (by omega))) ?_
 refine Was (.int .i64 (((0 + ((ka : Nat) : Int)) + ((kb : Nat) : Int)) + ((kc : Nat) : Int))) ?_
 refine Wl_nil (W_seq (W_region ?_))
 refine Wmv (.int .i64 (((0 + ((ka : Nat) : Int)) + ((kb : Nat) : Int)) + ((kc : Nat) : Int))) ?_
 refine Wl_v (r_lt rfl rfl) ?_
 refine Wl_nil ?_
 have q3 : ¬ ((((0 + ((ka : Nat) : Int)) + ((kb : Nat) : Int)) + ((kc : Nat) : Int)) < 0) := (by omega)
 rw [decide_eq_false q3]
 refine W_cond_f rfl ?_
 refine W_skip (W_region ?_)
 refine Wl_v (r_add rfl rfl (show _ = (3 : Int) from by decide)) ?_
 refine Wmv (.int .i64 3) ?_
 refine Wl_nil ?_
 refine unrK_succ ?_
 refine W_seq (W_region ?_)
 refine Wl_v (v := .bool true) (r_lt (a := 3) (b := 4) rfl rfl) ?_
 refine Wl_nil (W_seq ?_)
 refine W_cond_t rfl ?_
 refine W_skip (W_seq (W_block (W_seq (W_region ?_))))
 refine Wl_idxc (i' := 3) (v := .slice jd kd qd) underlying41 sizeOf32 rfl rfl (by first | rfl | omega) hS (by decide) rfl ?_
 intro ib4 io4 hc4
 refine Wl_loadc isAgg32 rfl hc4 ?_
 refine Was (.slice jd kd qd) ?_
 refine Wl_nil (W_seq (W_region ?_))
 refine Wmv (.int .i64 (((0 + ((ka : Nat) : Int)) + ((kb : Nat) : Int)) + ((kc : Nat) : Int))) ?_
 refine Wmv (.slice jd kd qd) ?_
 refine Wl_v (r_len underlying32 rfl) ?_
 refine Wl_v (r_add rfl rfl (wi64 (by omega) (by omega))) ?_
 refine Was (.int .i64 ((((0 + ((ka : Nat) : Int)) + ((kb : Nat) : Int)) + ((kc : Nat) : Int)) + ((kd : Nat) : Int))) ?_
 refine Wl_nil (W_seq (W_region ?_))
 refine Wmv (.int .i64 ((((0 + ((ka : Nat) : Int)) + ((kb : Nat) : Int)) + ((kc : Nat) : Int)) + ((kd : Nat) : Int))) ?_
 refine Wl_v (r_lt rfl rfl) ?_
 refine Wl_nil ?_
 have q4 : ¬ (((((0 + ((ka : Nat) : Int)) + ((kb : Nat) : Int)) + ((kc : Nat) : Int)) + ((kd : Nat) : Int)) < 0) := (by omega)
 rw [decide_eq_false q4]
 refine W_cond_f rfl ?_
 refine W_skip (W_region ?_)
 refine Wl_v (r_add rfl rfl (show _ = (4 : Int) from by decide)) ?_
 refine Wmv (.int .i64 4) ?_
 refine Wl_nil ?_
 refine unrK_succ ?_
 refine W_seq (W_region ?_)
 refine Wl_v (v := .bool false) (r_lt (a := 4) (b := 4) rfl rfl) ?_
 refine Wl_nil (W_seq ?_)
 refine W_cond_f rfl ?_
 refine W_exit ?_
 refine W_seq (W_region ?_)
 refine Wmv (.int .i64 ((((0 + ((ka : Nat) : Int)) + ((kb : Nat) : Int)) + ((kc : Nat) : Int)) + ((kd : Nat) : Int))) ?_
 refine Wl_call (r_call2 rfl call96 rfl rfl) (grow0 _ (by omega)) ?_
 rintro v w5 ⟨a5, c5, rfl, hO5, hU5⟩
 have hzw5 := hU5.size
 replace hS := hS.upd0 hU5
 replace ha := ha.upd0 hU5
 replace hb := hb.upd0 hU5
 replace hc := hc.upd0 hU5
 replace hd := hd.upd0 hU5
 replace HU := HU.trans0 hU5
 replace hO5 := hO5.tight
 have hl_hO5 := ilen hO5.sl
 have hc_hO5 := hO5.sl.cap.1
 refine Was (.slice a5 0 c5) ?_
 refine Wl_nil (W_seq (W_seq (W_region ?_)))
 refine Wmv (.slice a 4 c) ?_
 refine Wl_v (r_len underlying41 rfl) ?_
 refine Wmv (.int .i64 0) ?_
 refine Wl_nil (W_block ?_)
 refine W_unroll 5 ?_
 refine unrK_succ ?_
 refine W_seq (W_region ?_)
 refine Wl_v (v := .bool true) (r_lt (a := 0) (b := 4) rfl rfl) ?_
 refine Wl_nil (W_seq ?_)
 refine W_cond_t rfl ?_
 refine W_skip (W_seq (W_block (W_seq (W_region ?_))))
 refine Wl_idxc (i' := 0) (v := .slice ja ka qa) underlying41 sizeOf32 rfl rfl (by first | rfl | omega) hS (by decide) rfl ?_
 intro ib6 io6 hc6
 refine Wl_loadc isAgg32 rfl hc6 ?_
 refine Was (.slice ja ka qa) ?_
 refine Wl_nil (W_region ?_)
 refine Wmv (.slice a5 0 c5) ?_
 refine Wmv (.slice ja ka qa) ?_
 refine Wl_appendi (xs := []) (ys := xa) (zs := xa) (k' := .u8) (tot := ka) (by first | rfl | exact (rows_app _ _).symm | simp) underlying32 (ti := Tryz.t5) (z := .int .u8 0) (sz := 1) (by' := 1) rfl rfl rfl rfl rfl (by decide) rfl hO5 rfl ha  (by omega) (by simp only [maxLen]; omega) (by omega) ?_
 intro a7 c7 w7 hU7 hzz7 hO7
 clear hO5
 have hzw7 := hU7.size
 replace hS := hS.upd hU7 (by intro x h1 h2; have h3 : ((R x) ∧ x < w.heap.size) := h1; have h4 : ((w.heap.size ≤ x) ∧ x < w5.heap.size) := h2; omega)
 replace hb := hb.upd hU7 (by intro x h1 h2; have h3 : x < w.heap.size := h1; have h4 : ((w.heap.size ≤ x) ∧ x < w5.heap.size) := h2; omega)
 replace hc := hc.upd hU7 (by intro x h1 h2; have h3 : x < w.heap.size := h1; have h4 : ((w.heap.size ≤ x) ∧ x < w5.heap.size) := h2; omega)
 replace hd := hd.upd hU7 (by intro x h1 h2; have h3 : x < w.heap.size := h1; have h4 : ((w.heap.size ≤ x) ∧ x < w5.heap.size) := h2; omega)
 replace HU := HU.trans hU7 (by intro x hx; have hx2 : ((w.heap.size ≤ x) ∧ x < w5.heap.size) := hx; show (False) ∨ w.heap.size ≤ x; omega)
 replace hO7 := hO7.tight
 have hl_hO7 := ilen hO7.sl
 have hc_hO7 := hO7.sl.cap.1
 refine Was (.slice a7 ka c7) ?_
 refine Wl_nil (W_region ?_)
 refine Wl_v (r_add rfl rfl (show _ = (1 : Int) from by decide)) ?_
 refine Wmv (.int .i64 1) ?_
 refine Wl_nil ?_
 refine unrK_succ ?_
 refine W_seq (W_region ?_)
 refine Wl_v (v := .bool true) (r_lt (a := 1) (b := 4) rfl rfl) ?_
 refine Wl_nil (W_seq ?_)
 refine W_cond_t rfl ?_
 refine W_skip (W_seq (W_block (W_seq (W_region ?_))))
 refine Wl_idxc (i' := 1) (v := .slice jb kb qb) underlying41 sizeOf32 rfl rfl (by first | rfl | omega) hS (by decide) rfl ?_
 intro ib8 io8 hc8
 refine Wl_loadc isAgg32 rfl hc8 ?_
 refine Was (.slice jb kb qb) ?_
 refine Wl_nil (W_region ?_)
 refine Wmv (.slice a7 ka c7) ?_
 refine Wmv (.slice jb kb qb) ?_
 refine Wl_appendi (xs := xa) (ys := xb) (zs := xa ++ xb) (k' := .u8) (tot := ka + kb) (by first | rfl | exact (rows_app _ _).symm | simp) underlying32 (ti := Tryz.t5) (z := .int .u8 0) (sz := 1) (by' := 1) rfl rfl rfl rfl rfl (by decide) rfl hO7 rfl hb  (by omega) (by simp only [maxLen]; omega) (by omega) ?_
 intro a9 c9 w9 hU9 hzz9 hO9
 clear hO7
 have hzw9 := hU9.size
 replace hS := hS.upd hU9 (by intro x h1 h2; have h3 : ((R x) ∧ x < w.heap.size) := h1; have h4 : ((((((w.heap.size ≤ x) ∧ x < w5.heap.size)) ∨ x = w5.heap.size)) ∧ x < w7.heap.size) := h2; omega)
 replace hc := hc.upd hU9 (by intro x h1 h2; have h3 : x < w.heap.size := h1; have h4 : ((((((w.heap.size ≤ x) ∧ x < w5.heap.size)) ∨ x = w5.heap.size)) ∧ x < w7.heap.size) := h2; omega)
 replace hd := hd.upd hU9 (by intro x h1 h2; have h3 : x < w.heap.size := h1; have h4 : ((((((w.heap.size ≤ x) ∧ x < w5.heap.size)) ∨ x = w5.heap.size)) ∧ x < w7.heap.size) := h2; omega)
 replace HU := HU.trans hU9 (by intro x hx; have hx2 : ((((((w.heap.size ≤ x) ∧ x < w5.heap.size)) ∨ x = w5.heap.size)) ∧ x < w7.heap.size) := hx; show (False) ∨ w.heap.size ≤ x; omega)
 replace hO9 := hO9.tight
 have hl_hO9 := ilen hO9.sl
 have hc_hO9 := hO9.sl.cap.1
 refine Was (.slice a9 (ka + kb) c9) ?_
 refine Wl_nil (W_region ?_)
 refine Wl_v (r_add rfl rfl (show _ = (2 : Int) from by decide)) ?_
 refine Wmv (.int .i64 2) ?_
 refine Wl_nil ?_
 refine unrK_succ ?_
 refine W_seq (W_region ?_)
 refine Wl_v (v := .bool true) (r_lt (a := 2) (b := 4) rfl rfl) ?_
 refine Wl_nil (W_seq ?_)
 refine W_cond_t rfl ?_
 refine W_skip (W_seq (W_block (W_seq (W_region ?_))))
 refine Wl_idxc (i' := 2) (v := .slice jc kc qc) underlying41 sizeOf32 rfl rfl (by first | rfl | omega) hS (by decide) rfl ?_
 intro ib10 io10 hc10
 refine Wl_loadc isAgg32 rfl hc10 ?_
 refine Was (.slice jc kc qc) ?_
 refine Wl_nil (W_region ?_)
 refine Wmv (.slice a9 (ka + kb) c9) ?_
 refine Wmv (.slice jc kc qc) ?_
 refine Wl_appendi (xs := xa ++ xb) (ys := xc) (zs := xa ++ xb ++ xc) (k' := .u8) (tot := ka + kb + kc) (by first | rfl | exact (rows_app _ _).symm | simp) underlying32 (ti := Tryz.t5) (z := .int .u8 0) (sz := 1) (by' := 1) rfl rfl rfl rfl rfl (by decide) rfl hO9 rfl hc  (by omega) (by simp only [maxLen]; omega) (by omega) ?_
 intro a11 c11 w11 hU11 hzz11 hO11
 clear hO9
 have hzw11 := hU11.size
 replace hS := hS.upd hU11 (by intro x h1 h2; have h3 : ((R x) ∧ x < w.heap.size) := h1; have h4 : ((((((((((w.heap.size ≤ x) ∧ x < w5.heap.size)) ∨ x = w5.heap.size)) ∧ x < w7.heap.size)) ∨ x = w7.heap.size)) ∧ x < w9.heap.size) := h2; omega)
 replace hd := hd.upd hU11 (by intro x h1 h2; have h3 : x < w.heap.size := h1; have h4 : ((((((((((w.heap.size ≤ x) ∧ x < w5.heap.size)) ∨ x = w5.heap.size)) ∧ x < w7.heap.size)) ∨ x = w7.heap.size)) ∧ x < w9.heap.size) := h2; omega)
 replace HU := HU.trans hU11 (by intro x hx; have hx2 : ((((((((((w.heap.size ≤ x) ∧ x < w5.heap.size)) ∨ x = w5.heap.size)) ∧ x < w7.heap.size)) ∨ x = w7.heap.size)) ∧ x < w9.heap.size) := hx; show (False) ∨ w.heap.size ≤ x; omega)
 replace hO11 := hO11.tight
 have hl_hO11 := ilen hO11.sl
 have hc_hO11 := hO11.sl.cap.1
 refine Was (.slice a11 (ka + kb + kc) c11) ?_
 refine Wl_nil (W_region ?_)
 refine Wl_v (r_add rfl rfl (show _ = (3 : Int) from by decide)) ?_
 refine Wmv (.int .i64 3) ?_
 refine Wl_nil ?_
 refine unrK_succ ?_
 refine W_seq (W_region ?_)
 refine Wl_v (v := .bool true) (r_lt (a := 3) (b := 4) rfl rfl) ?_
 refine Wl_nil (W_seq ?_)
 refine W_cond_t rfl ?_
 refine W_skip (W_seq (W_block (W_seq (W_region ?_))))
 refine Wl_idxc (i' := 3) (v := .slice jd kd qd) underlying41 sizeOf32 rfl rfl (by first | rfl | omega) hS (by decide) rfl ?_
 intro ib12 io12 hc12
 refine Wl_loadc isAgg32 rfl hc12 ?_
 refine Was (.slice jd kd qd) ?_
 refine Wl_nil (W_region ?_)
 refine Wmv (.slice a11 (ka + kb + kc) c11) ?_
 refine Wmv (.slice jd kd qd) ?_
 refine Wl_appendi (xs := xa ++ xb ++ xc) (ys := xd) (zs := xa ++ xb ++ xc ++ xd) (k' := .u8) (tot := ka + kb + kc + kd) (by first | rfl | exact (rows_app _ _).symm | simp) underlying32 (ti := Tryz.t5) (z := .int .u8 0) (sz := 1) (by' := 1) rfl rfl rfl rfl rfl (by decide) rfl hO11 rfl hd  (by omega) (by simp only [maxLen]; omega) (by omega) ?_
 intro a13 c13 w13 hU13 hzz13 hO13
 clear hO11
 have hzw13 := hU13.size
 replace HU := HU.trans hU13 (by intro x hx; have hx2 : ((((((((((((((w.heap.size ≤ x) ∧ x < w5.heap.size)) ∨ x = w5.heap.size)) ∧ x < w7.heap.size)) ∨ x = w7.heap.size)) ∧ x < w9.heap.size)) ∨ x = w9.heap.size)) ∧ x < w11.heap.size) := hx; show (False) ∨ w.heap.size ≤ x; omega)
 replace hO13 := hO13.tight
 have hl_hO13 := ilen hO13.sl
 have hc_hO13 := hO13.sl.cap.1
 refine Was (.slice a13 (ka + kb + kc + kd) c13) ?_
 refine Wl_nil (W_region ?_)
 refine Wl_v (r_add rfl rfl (show _ = (4 : Int) from by decide)) ?_
 refine Wmv (.int .i64 4) ?_
 refine Wl_nil ?_
 refine unrK_succ ?_
 refine W_seq (W_region ?_)
 refine Wl_v (v := .bool false) (r_lt (a := 4) (b := 4) rfl rfl) ?_
 refine Wl_nil (W_seq ?_)
 refine W_cond_f rfl ?_
 refine W_exit ?_
 refine W_seq (W_region ?_)
 refine Wmv (.slice a13 (ka + kb + kc + kd) c13) ?_
 refine Was (.slice a13 (ka + kb + kc + kd) c13) ?_
 refine Wl_nil ?_
 refine W_ret ?_
 refine ret_end (v := .slice a13 (ka + kb + kc + kd) c13) rfl (res1 results73 rfl) ?_
 exact ⟨_, rfl, a13, c13, rfl, (by simpa using hO13.weak (by intro g hg; have h3 : ((((((((((((((((((w.heap.size ≤ g) ∧ g < w5.heap.size)) ∨ g = w5.heap.size)) ∧ g < w7.heap.size)) ∨ g = w7.heap.size)) ∧ g < w9.heap.size)) ∨ g = w9.heap.size)) ∧ g < w11.heap.size)) ∨ g = w11.heap.size)) ∧ g < w13.heap.size) := hg; show w.heap.size ≤ g; omega)), HU⟩
theorem join4 {a : Option Addr} {c : Nat} {ja jb jc jd : Option Addr} {ka kb kc kd qa qb qc qd : Nat} {xa xb xc xd : List Int} {R : Nat → Prop} (w : World) (hS : Sl w R 1 (.slice a 4 c) 4 ([.slice ja ka qa, .slice jb kb qb, .slice jc kc qc, .slice jd kd qd])) (ha : Sl w (fun g => g < w.heap.size) 1 (.slice ja ka qa) ka (ints .u8 xa)) (hb : Sl w (fun g => g < w.heap.size) 1 (.slice jb kb qb) kb (ints .u8 xb)) (hc : Sl w (fun g => g < w.heap.size) 1 (.slice jc kc qc) kc (ints .u8 xc)) (hd : Sl w (fun g => g < w.heap.size) 1 (.slice jd kd qd) kd (ints .u8 xd)) (hn : ka + kb + kc + kd ≤ 140737488350000) :
  Calls Tryz.prog 39 #[.slice a 4 c] w (Ret fun v w' => ∃ (a' : Option Addr) (m' : Nat) (c' : Nat), v = .slice a' m' c' ∧ Own w' (fun g => w.heap.size ≤ g) 5 1 (.slice a' m' c') m' (ints .u8 (jn xa xb xc xd)) ∧ Upd No w w') := by
 have HU := Upd.rno w
 have hl_hS := hS.len
 have hc_hS := hS.cap.1
 replace hS := hS.tight
 have hl_ha := ilen ha
 have hc_ha := ha.cap.1
 have hl_hb := ilen hb
 have hc_hb := hb.cap.1
 have hl_hc := ilen hc
 have hc_hc := hc.cap.1
 have hl_hd := ilen hd
 have hc_hd := hd.cap.1
 refine calls_of_W func39 rfl ntmps39 (by simp) ?_
 refine W_seq (W_region ?_)
 refine Was (.slice none 0 0) ?_
 refine Wl_nil (W_seq (W_seq (W_region ?_)))
 refine Wmv (.slice a 4 c) ?_
 refine Wl_v (r_slicehn (h' := 3) underlying41 sizeOf32 rfl rfl (by omega) (by omega)) ?_
 have hT1 : Sl w (fun g => ((R g) ∧ g < w.heap.size)) 1 (.slice a 3 c) 3 [.slice ja ka qa, .slice jb kb qb, .slice jc kc qc] := Sl.cutc (k := 3) hS (by decide)
 refine Wl_v (r_len underlying41 rfl) ?_
 refine Wmv (.int .i64 0) ?_
 refine Wl_nil (W_block ?_)
 refine W_unroll 4 ?_
 refine unrK_succ ?_
 refine W_seq (W_region ?_)
 refine Wl_v (v := .bool true) (r_lt (a := 0) (b := 3) rfl rfl) ?_
 refine Wl_nil (W_seq ?_)
 refine W_cond_t rfl ?_
 refine W_skip (W_seq (W_block (W_seq (W_region ?_))))
 refine Wl_idxc (i' := 0) (v := .slice ja ka qa) underlying41 sizeOf32 rfl rfl (by first | rfl | omega) hT1 (by decide) rfl ?_
 intro ib2 io2 hc2
 refine Wl_loadc isAgg32 rfl hc2 ?_
 refine Was (.slice ja ka qa) ?_
 refine Wl_nil (W_seq (W_region ?_))
 refine Wmv (.slice none 0 0) ?_
 refine Wmv (.slice ja ka qa) ?_
 refine Wl_v (r_len underlying32 rfl) ?_
 refine Wl_v (r_cvt underlying3 underlying76 rfl (wu64 (by omega) (by omega))) ?_
 refine Wl_call (r_call2 rfl call72 rfl rfl) (Nu.putvarint_spec (bs := []) _ (Sl.nil _ _ _) (by omega) (by omega) (by omega)) ?_
 rintro v w3 ⟨a3, c3, rfl, hO3, hU3⟩
 have hzw3 := hU3.size
 replace hS := hS.upd0 hU3
 replace ha := ha.upd0 hU3
 replace hb := hb.upd0 hU3
 replace hc := hc.upd0 hU3
 replace hd := hd.upd0 hU3
 replace HU := HU.trans0 hU3
 replace hT1 := hT1.upd0 hU3
 replace hO3 := hO3.tight
 have hl_hO3 := ilen hO3.sl
 have hc_hO3 := hO3.sl.cap.1
 have hvl3 := vi_len ((ka : Nat) : Int)
 refine Wmv (.tuple #[.slice a3 (0 + (vi ((ka : Nat) : Int)).length) c3, .int .i64 0]) ?_
 refine Wl_v (r_ext (v := .slice a3 (0 + (vi ((ka : Nat) : Int)).length) c3) rfl rfl) ?_
 refine Wl_v (r_ext (v := .int .i64 0) rfl rfl) ?_
 refine Was (.slice a3 (0 + (vi ((ka : Nat) : Int)).length) c3) ?_
 refine Was (.int .i64 0) ?_
 refine Wl_nil (W_seq (W_region ?_))
 refine Wmv (.int .i64 0) ?_
 refine Wl_lit (pv := [(0, .int .i64 0)]) (cs := [.int .i64 0]) underlying112 sizeOf23 zeroValue23 (by decide) (by decide) (by simp only [List.map_toArray, List.map_cons, List.map_nil] <;> rfl) (by kernel_rfl) rfl (by decide) ?_
 intro B4 w4 hB4 hU4 hzz4 hs4
 have hzw4 := hU4.size
 replace hS := hS.upd0 hU4
 replace ha := ha.upd0 hU4
 replace hb := hb.upd0 hU4
 replace hc := hc.upd0 hU4
 replace hd := hd.upd0 hU4
 replace HU := HU.trans0 hU4
 replace hT1 := hT1.upd0 hU4
 replace hO3 := hO3.upd0 hU4
 replace hs4 : Own w4 (Is B4) 23 1 (.slice (some ⟨B4, 0, none⟩) 1 1) 1 (ints .i64 [0]) := hs4
 refine Wl_call (r_call1 rfl call38 rfl) (fmust_ok (er := 0) _ hs4.sl.any rfl) ?_
 rintro v w5 ⟨rfl, hU5⟩
 have hzw5 := hU5.size
 replace hS := hS.upd0 hU5
 replace ha := ha.upd0 hU5
 replace hb := hb.upd0 hU5
 replace hc := hc.upd0 hU5
 replace hd := hd.upd0 hU5
 replace HU := HU.trans0 hU5
 replace hT1 := hT1.upd0 hU5
 replace hO3 := hO3.upd0 hU5
 refine Wl_nil (W_region ?_)
 refine Wmv (.slice a3 (0 + (vi ((ka : Nat) : Int)).length) c3) ?_
 refine Was (.slice a3 (0 + (vi ((ka : Nat) : Int)).length) c3) ?_
 refine Wl_nil (W_region ?_)
 refine Wl_v (r_add rfl rfl (show _ = (1 : Int) from by decide)) ?_
 refine Wmv (.int .i64 1) ?_
 refine Wl_nil ?_
 refine unrK_succ ?_
 refine W_seq (W_region ?_)
 refine Wl_v (v := .bool true) (r_lt (a := 1) (b := 3) rfl rfl) ?_
 refine Wl_nil (W_seq ?_)
 refine W_cond_t rfl ?_
 refine W_skip (W_seq (W_block (W_seq (W_region ?_))))
 refine Wl_idxc (i' := 1) (v := .slice jb kb qb) underlying41 sizeOf32 rfl rfl (by first | rfl | omega) hT1 (by decide) rfl ?_
 intro ib6 io6 hc6
 refine Wl_loadc isAgg32 rfl hc6 ?_
 refine Was (.slice jb kb qb) ?_
 refine Wl_nil (W_seq (W_region ?_))
 refine Wmv (.slice a3 (0 + (vi ((ka : Nat) : Int)).length) c3) ?_
 refine Wmv (.slice jb kb qb) ?_
 refine Wl_v (r_len underlying32 rfl) ?_
 refine Wl_v (r_cvt underlying3 underlying76 rfl (wu64 (by omega) (by omega))) ?_
 refine Wl_call (r_call2 rfl call72 rfl rfl) (Nu.putvarint_spec _ hO3.sl.any (by omega) (by omega) (by omega)) ?_
 rintro v w7 ⟨a7, c7, rfl, hO7, hU7⟩
 have hzw7 := hU7.size
 replace hS := hS.upd0 hU7
 replace ha := ha.upd0 hU7
 replace hb := hb.upd0 hU7
 replace hc := hc.upd0 hU7
 replace hd := hd.upd0 hU7
 replace HU := HU.trans0 hU7
 replace hT1 := hT1.upd0 hU7
 replace hO7 := hO7.tight
 have hl_hO7 := ilen hO7.sl
 have hc_hO7 := hO7.sl.cap.1
 have hvl7 := vi_len ((kb : Nat) : Int)
 refine Wmv (.tuple #[.slice a7 ((0 + (vi ((ka : Nat) : Int)).length) + (vi ((kb : Nat) : Int)).length) c7, .int .i64 0]) ?_
 refine Wl_v (r_ext (v := .slice a7 ((0 + (vi ((ka : Nat) : Int)).length) + (vi ((kb : Nat) : Int)).length) c7) rfl rfl) ?_
 refine Wl_v (r_ext (v := .int .i64 0) rfl rfl) ?_
 refine Was (.slice a7 ((0 + (vi ((ka : Nat) : Int)).length) + (vi ((kb : Nat) : Int)).length) c7) ?_
 refine Was (.int .i64 0) ?_
 refine Wl_nil (W_seq (W_region ?_))
 refine Wmv (.int .i64 0) ?_
 refine Wl_lit (pv := [(0, .int .i64 0)]) (cs := [.int .i64 0]) underlying112 sizeOf23 zeroValue23 (by decide) (by decide) (by simp only [List.map_toArray, List.map_cons, List.map_nil] <;> rfl) (by kernel_rfl) rfl (by decide) ?_
 intro B8 w8 hB8 hU8 hzz8 hs8
 have hzw8 := hU8.size
 replace hS := hS.upd0 hU8
 replace ha := ha.upd0 hU8
 replace hb := hb.upd0 hU8
 replace hc := hc.upd0 hU8
 replace hd := hd.upd0 hU8
 replace HU := HU.trans0 hU8
 replace hT1 := hT1.upd0 hU8
 replace hO7 := hO7.upd0 hU8
 replace hs8 : Own w8 (Is B8) 23 1 (.slice (some ⟨B8, 0, none⟩) 1 1) 1 (ints .i64 [0]) := hs8
 refine Wl_call (r_call1 rfl call38 rfl) (fmust_ok (er := 0) _ hs8.sl.any rfl) ?_
 rintro v w9 ⟨rfl, hU9⟩
 have hzw9 := hU9.size
 replace hS := hS.upd0 hU9
 replace ha := ha.upd0 hU9
 replace hb := hb.upd0 hU9
 replace hc := hc.upd0 hU9
 replace hd := hd.upd0 hU9
 replace HU := HU.trans0 hU9
 replace hT1 := hT1.upd0 hU9
 replace hO7 := hO7.upd0 hU9
 refine Wl_nil (W_region ?_)
 refine Wmv (.slice a7 ((0 + (vi ((ka : Nat) : Int)).length) + (vi ((kb : Nat) : Int)).length) c7) ?_
 refine Was (.slice a7 ((0 + (vi ((ka : Nat) : Int)).length) + (vi ((kb : Nat) : Int)).length) c7) ?_
 refine Wl_nil (W_region ?_)
 refine Wl_v (r_add rfl rfl (show _ = (2 : Int) from by decide)) ?_
 refine Wmv (.int .i64 2) ?_
 refine Wl_nil ?_
 refine unrK_succ ?_
 refine W_seq (W_region ?_)
 refine Wl_v (v := .bool true) (r_lt (a := 2) (b := 3) rfl rfl) ?_
 refine Wl_nil (W_seq ?_)
 refine W_cond_t rfl ?_
 refine W_skip (W_seq (W_block (W_seq (W_region ?_))))
 refine Wl_idxc (i' := 2) (v := .slice jc kc qc) underlying41 sizeOf32 rfl rfl (by first | rfl | omega) hT1 (by decide) rfl ?_
 intro ib10 io10 hc10
 refine Wl_loadc isAgg32 rfl hc10 ?_
 refine Was (.slice jc kc qc) ?_
 refine Wl_nil (W_seq (W_region ?_))
 refine Wmv (.slice a7 ((0 + (vi ((ka : Nat) : Int)).length) + (vi ((kb : Nat) : Int)).length) c7) ?_
 refine Wmv (.slice jc kc qc) ?_
 refine Wl_v (r_len underlying32 rfl) ?_
 refine Wl_v (r_cvt underlying3 underlying76 rfl (wu64 (by omega) (by omega))) ?_
 refine Wl_call (r_call2 rfl call72 rfl rfl) (Nu.putvarint_spec _ hO7.sl.any (by omega) (by omega) (by omega)) ?_
 rintro v w11 ⟨a11, c11, rfl, hO11, hU11⟩
 have hzw11 := hU11.size
 replace hS := hS.upd0 hU11
 replace ha := ha.upd0 hU11
 replace hb := hb.upd0 hU11
 replace hc := hc.upd0 hU11
 replace hd := hd.upd0 hU11
 replace HU := HU.trans0 hU11
 replace hO11 := hO11.tight
 have hl_hO11 := ilen hO11.sl
 have hc_hO11 := hO11.sl.cap.1
 have hvl11 := vi_len ((kc : Nat) : Int)
 refine Wmv (.tuple #[.slice a11 (((0 + (vi ((ka : Nat) : Int)).length) + (vi ((kb : Nat) : Int)).length) + (vi ((kc : Nat) : Int)).length) c11, .int .i64 0]) ?_
 refine Wl_v (r_ext (v := .slice a11 (((0 + (vi ((ka : Nat) : Int)).length) + (vi ((kb : Nat) : Int)).length) + (vi ((kc : Nat) : Int)).length) c11) rfl rfl) ?_
 refine Wl_v (r_ext (v := .int .i64 0) rfl rfl) ?_
 refine Was (.slice a11 (((0 + (vi ((ka : Nat) : Int)).length) + (vi ((kb : Nat) : Int)).length) + (vi ((kc : Nat) : Int)).length) c11) ?_
 refine Was (.int .i64 0) ?_
 refine Wl_nil (W_seq (W_region ?_))
 refine Wmv (.int .i64 0) ?_
 refine Wl_lit (pv := [(0, .int .i64 0)]) (cs := [.int .i64 0]) underlying112 sizeOf23 zeroValue23 (by decide) (by decide) (by simp only [List.map_toArray, List.map_cons, List.map_nil] <;> rfl) (by kernel_rfl) rfl (by decide) ?_
 intro B12 w12 hB12 hU12 hzz12 hs12
 have hzw12 := hU12.size
 replace hS := hS.upd0 hU12
 replace ha := ha.upd0 hU12
 replace hb := hb.upd0 hU12
 replace hc := hc.upd0 hU12
 replace hd := hd.upd0 hU12
 replace HU := HU.trans0 hU12
 replace hO11 := hO11.upd0 hU12
 replace hs12 : Own w12 (Is B12) 23 1 (.slice (some ⟨B12, 0, none⟩) 1 1) 1 (ints .i64 [0]) := hs12
 refine Wl_call (r_call1 rfl call38 rfl) (fmust_ok (er := 0) _ hs12.sl.any rfl) ?_
 rintro v w13 ⟨rfl, hU13⟩
 have hzw13 := hU13.size
 replace hS := hS.upd0 hU13
 replace ha := ha.upd0 hU13
 replace hb := hb.upd0 hU13
 replace hc := hc.upd0 hU13
 replace hd := hd.upd0 hU13
 replace HU := HU.trans0 hU13
 replace hO11 := hO11.upd0 hU13
 refine Wl_nil (W_region ?_)
 refine Wmv (.slice a11 (((0 + (vi ((ka : Nat) : Int)).length) + (vi ((kb : Nat) : Int)).length) + (vi ((kc : Nat) : Int)).length) c11) ?_
 refine Was (.slice a11 (((0 + (vi ((ka : Nat) : Int)).length) + (vi ((kb : Nat) : Int)).length) + (vi ((kc : Nat) : Int)).length) c11) ?_
 refine Wl_nil (W_region ?_)
 refine Wl_v (r_add rfl rfl (show _ = (3 : Int) from by decide)) ?_
 refine Wmv (.int .i64 3) ?_
 refine Wl_nil ?_
 refine unrK_succ ?_
 refine W_seq (W_region ?_)
 refine Wl_v (v := .bool false) (r_lt (a := 3) (b := 3) rfl rfl) ?_
 refine Wl_nil (W_seq ?_)
 refine W_cond_f rfl ?_
 refine W_exit ?_
 refine W_seq (W_region ?_)
 refine Wmv (.slice a11 (((0 + (vi ((ka : Nat) : Int)).length) + (vi ((kb : Nat) : Int)).length) + (vi ((kc : Nat) : Int)).length) c11) ?_
 refine Wmv (.slice a 4 c) ?_
 refine Wl_call (r_call1 rfl call73 rfl) (concat4 _ hS ha.any hb.any hc.any hd.any (by omega)) ?_
 rintro v w14 ⟨a14, c14, rfl, hO14, hU14⟩
 have hzw14 := hU14.size
 replace HU := HU.trans0 hU14
 replace hO11 := hO11.upd0 hU14
 replace hO14 := hO14.tight
 have hl_hO14 := ilen hO14.sl
 have hc_hO14 := hO14.sl.cap.1
 refine Wl_appendi (xs := (([] ++ vi ((ka : Nat) : Int)) ++ vi ((kb : Nat) : Int)) ++ vi ((kc : Nat) : Int)) (ys := xa ++ xb ++ xc ++ xd) (zs := (([] ++ vi ((ka : Nat) : Int)) ++ vi ((kb : Nat) : Int)) ++ vi ((kc : Nat) : Int) ++ (xa ++ xb ++ xc ++ xd)) (k' := .u8) (tot := (((0 + (vi ((ka : Nat) : Int)).length) + (vi ((kb : Nat) : Int)).length) + (vi ((kc : Nat) : Int)).length) + (ka + kb + kc + kd)) (by first | rfl | exact (rows_app _ _).symm | simp) underlying32 (ti := Tryz.t5) (z := .int .u8 0) (sz := 1) (by' := 1) rfl rfl rfl rfl rfl (by decide) rfl hO11 rfl hO14.sl  (by omega) (by simp only [maxLen]; omega) (by omega) ?_
 intro a15 c15 w15 hU15 hzz15 hO15
 clear hO11
 have hzw15 := hU15.size
 replace HU := HU.trans hU15 (by intro x hx; have hx2 : ((w9.heap.size ≤ x) ∧ x < w11.heap.size) := hx; show (False) ∨ w.heap.size ≤ x; omega)
 replace hO15 := hO15.tight
 have hl_hO15 := ilen hO15.sl
 have hc_hO15 := hO15.sl.cap.1
 refine Was (.slice a15 ((((0 + (vi ((ka : Nat) : Int)).length) + (vi ((kb : Nat) : Int)).length) + (vi ((kc : Nat) : Int)).length) + (ka + kb + kc + kd)) c15) ?_
 refine Wl_nil ?_
 refine W_ret ?_
 refine ret_end (v := .slice a15 ((((0 + (vi ((ka : Nat) : Int)).length) + (vi ((kb : Nat) : Int)).length) + (vi ((kc : Nat) : Int)).length) + (ka + kb + kc + kd)) c15) rfl (res1 results39 rfl) ?_
 exact ⟨_, rfl, a15, (((0 + (vi ((ka : Nat) : Int)).length) + (vi ((kb : Nat) : Int)).length) + (vi ((kc : Nat) : Int)).length) + (ka + kb + kc + kd), c15, rfl, (by unfold jn; rw [hl_ha, hl_hb, hl_hc]; simpa [List.append_assoc] using hO15.weak (by intro g hg; have h3 : ((((((w9.heap.size ≤ g) ∧ g < w11.heap.size)) ∨ g = w14.heap.size)) ∧ g < w15.heap.size) := hg; show w.heap.size ≤ g; omega)), HU⟩
def f4F (l b : List Int) : List Int × Int := if (blF l b).2 ≠ 0 then ([], (blF l b).2) else if paF ((b.length : Nat) : Int) ≠ 0 then ([], paF ((b.length : Nat) : Int)) else
 (jn (out l (pt b 0 ((b.length + 3) / 4))) (out l (pt b ((b.length + 3) / 4) (2 * ((b.length + 3) / 4)))) (out l (pt b (2 * ((b.length + 3) / 4)) (3 * ((b.length + 3) / 4)))) (out l (pt b (3 * ((b.length + 3) / 4)) b.length)), 0)
theorem f4F_e {l b : List Int} (h : ¬ (blF l b).2 = 0) : f4F l b = ([], (blF l b).2) := by rw [f4F, if_pos h]
theorem f4F_p {l b : List Int} {m : Nat} (hm : b.length = m) (h : (blF l b).2 = 0) (h2 : ¬ paF ((m : Nat) : Int) = 0) : f4F l b = ([], paF ((m : Nat) : Int)) := by
 subst hm; rw [f4F, if_neg (not_not_intro h), if_pos h2]
theorem f4F_ok {l b : List Int} {m k r : Nat} (hm : b.length = m) (h : (blF l b).2 = 0) (h2 : paF ((m : Nat) : Int) = 0) (hk : (m + 3) / 4 = k) (hr : 3 * k + r = m) :
  f4F l b = (jn (out l (pt b 0 k)) (out l (pt b k (2 * k))) (out l (pt b (2 * k) (3 * k))) (out l (pt b (3 * k) (3 * k + r))), 0) := by
 rw [hr]; subst hm hk; rw [f4F, if_neg (not_not_intro h), if_neg (not_not_intro h2)]
theorem blF_0 {l b : List Int} (h : (blF l b).2 = 0) : Rt l ∧ Hs l b := by
 unfold blF at h
 split at h
 ·exact absurd (show (12 : Int) = 0 from h) (by decide)
 split at h
 ·exact absurd (show (2 : Int) = 0 from h) (by decide)
 exact ⟨Classical.not_not.1 ‹_›, Classical.not_not.1 ‹_›⟩
set_option maxHeartbeats 2000000 in
theorem fenc_spec {a a2 : Option Addr} {n c m d : Nat} {l b : List Int} {R : Nat → Prop} (w : World) (hs : Sl w R 1 (.slice a n c) n (ints .i64 l)) (hn : n ≤ 1000) (hsb : Sl w (fun g => g < w.heap.size) 1 (.slice a2 m d) m (ints .u8 b)) (hb : Byt b) (hm : m ≤ 100000) :
  Calls Tryz.prog 17 #[.slice a n c, .slice a2 m d] w (Ret fun v w' => ∃ (a' : Option Addr) (m' : Nat) (c' : Nat), v = .tuple #[.slice a' m' c', .int .i64 ((f4F l b).2)] ∧ Own w' (fun g => w.heap.size ≤ g) 5 1 (.slice a' m' c') m' (ints .u8 ((f4F l b).1)) ∧ Upd No w w') := by
 have HU := Upd.rno w
 have hl_hs := ilen hs
 have hc_hs := hs.cap.1
 replace hs := hs.tight
 have hl_hsb := ilen hsb
 have hc_hsb := hsb.cap.1
 refine calls_of_W func17 rfl ntmps17 (by simp) ?_
 refine W_seq (W_region ?_)
 refine Wl_box (v := .slice a n c) (cs := [.slice a n c]) rfl rfl ?_
 intro B1 w1 hB1 hU1 hzz1 hb1
 have hzw1 := hU1.size
 replace hs := hs.upd0 hU1
 replace hsb := hsb.upd0 hU1
 replace HU := HU.trans0 hU1
 refine Wl_box (v := .slice a2 m d) (cs := [.slice a2 m d]) rfl rfl ?_
 intro B2 w2 hB2 hU2 hzz2 hb2
 have hzw2 := hU2.size
 replace hs := hs.upd0 hU2
 replace hsb := hsb.upd0 hU2
 replace HU := HU.trans0 hU2
 replace hb1 := hb1.upd0 hU2
 refine Wl_alloc (cs := [.slice none 0 0]) zeroValue32 rfl ?_
 intro B3 w3 hB3 hU3 hzz3 hb3
 have hzw3 := hU3.size
 replace hs := hs.upd0 hU3
 replace hsb := hsb.upd0 hU3
 replace HU := HU.trans0 hU3
 replace hb1 := hb1.upd0 hU3
 replace hb2 := hb2.upd0 hU3
 refine Wl_alloc (cs := [.int .i64 0]) zeroValue23 rfl ?_
 intro B4 w4 hB4 hU4 hzz4 hb4
 have hzw4 := hU4.size
 replace hs := hs.upd0 hU4
 replace hsb := hsb.upd0 hU4
 replace HU := HU.trans0 hU4
 replace hb1 := hb1.upd0 hU4
 replace hb2 := hb2.upd0 hU4
 replace hb3 := hb3.upd0 hU4
 refine Wl_nil (W_seq (W_region ?_))
 refine Wl_v (r_mkf1 (v0 := .pointer (some ⟨B3, 0, none⟩)) rfl) ?_
 refine Wl_defer2 rfl rfl ?_
 refine Wl_nil (W_seq (W_region ?_))
 refine Wl_load (v := .slice a n c) isAgg22 rfl hb1 rfl ?_
 refine Wl_load (v := .slice a2 m d) isAgg32 rfl hb2 rfl ?_
 refine Wl_call (r_call2 rfl call37 rfl rfl) (obl_spec _ hs (by omega) hsb.any hb (by omega)) ?_
 rintro v w5 ⟨rfl, hU5⟩
 have hzw5 := hU5.size
 replace hs := hs.upd0 hU5
 replace hsb := hsb.upd0 hU5
 replace HU := HU.trans0 hU5
 replace hb1 := hb1.upd0 hU5
 replace hb2 := hb2.upd0 hU5
 replace hb3 := hb3.upd0 hU5
 replace hb4 := hb4.upd0 hU5
 refine Wmv (.tuple #[.int .i64 ((blF l b).1), .int .i64 ((blF l b).2)]) ?_
 refine Wl_v (r_ext (v := .int .i64 ((blF l b).1)) rfl rfl) ?_
 refine Wl_v (r_ext (v := .int .i64 ((blF l b).2)) rfl rfl) ?_
 refine Was (.int .i64 ((blF l b).1)) ?_
 refine Was (.int .i64 ((blF l b).2)) ?_
 refine Wl_nil (W_seq (W_region ?_))
 refine Wmv (.int .i64 ((blF l b).2)) ?_
 refine Wl_lit (pv := [(0, .int .i64 ((blF l b).2))]) (cs := [.int .i64 ((blF l b).2)]) underlying112 sizeOf23 zeroValue23 (by decide) (by decide) (by simp only [List.map_toArray, List.map_cons, List.map_nil] <;> rfl) (by kernel_rfl) rfl (by decide) ?_
 intro B6 w6 hB6 hU6 hzz6 hs6
 have hzw6 := hU6.size
 replace hs := hs.upd0 hU6
 replace hsb := hsb.upd0 hU6
 replace HU := HU.trans0 hU6
 replace hb1 := hb1.upd0 hU6
 replace hb2 := hb2.upd0 hU6
 replace hb3 := hb3.upd0 hU6
 replace hb4 := hb4.upd0 hU6
 replace hs6 : Own w6 (Is B6) 23 1 (.slice (some ⟨B6, 0, none⟩) 1 1) 1 (ints .i64 [(blF l b).2]) := hs6
 by_cases q1 : ((blF l b).2) = 0
 ·refine Wl_call (r_call1 rfl call38 rfl) (fmust_ok (er := (blF l b).2) _ hs6.sl.any q1) ?_
  rintro v w7 ⟨rfl, hU7⟩
  have hzw7 := hU7.size
  replace hs := hs.upd0 hU7
  replace hsb := hsb.upd0 hU7
  replace HU := HU.trans0 hU7
  replace hb1 := hb1.upd0 hU7
  replace hb2 := hb2.upd0 hU7
  replace hb3 := hb3.upd0 hU7
  replace hb4 := hb4.upd0 hU7
  refine Wl_nil (W_seq (W_region ?_))
  refine Wl_load (v := .slice a2 m d) isAgg32 rfl hb2 rfl ?_
  refine Wl_v (r_len underlying32 rfl) ?_
  by_cases q2 : paF ((m : Nat) : Int) = 0
  ·have hpi := paF_inv q2
   obtain ⟨hrq, hhq⟩ := blF_0 q1
   refine Wl_call (r_call1 rfl call35 rfl) (parted_ok (n := ((m : Nat) : Int)) _ q2) ?_
   rintro v w8 ⟨rfl, hU8⟩
   have hzw8 := hU8.size
   replace hs := hs.upd0 hU8
   replace hsb := hsb.upd0 hU8
   replace HU := HU.trans0 hU8
   replace hb1 := hb1.upd0 hU8
   replace hb2 := hb2.upd0 hU8
   replace hb3 := hb3.upd0 hU8
   replace hb4 := hb4.upd0 hU8
   rw [show (((m : Nat) : Int) - 3 * ((((m : Nat) : Int) + 3) / 4) : Int) = ((m - 3 * ((m + 3) / 4) : Nat) : Int) from by omega]
   rw [show ((((m : Nat) : Int) + 3) / 4 : Int) = (((m + 3) / 4 : Nat) : Int) from by omega]
   refine Wl_v (r_mkf2 (v0 := .pointer (some ⟨B1, 0, none⟩)) (v1 := .pointer (some ⟨B2, 0, none⟩)) rfl rfl) ?_
   refine Wl_call (r_call2 rfl call40 rfl rfl) (each4 _ hb1 hb2 hs.any (by omega) hsb.any hb (by omega) hrq hhq (by omega)) ?_
   rintro v w9 ⟨a9, c9, ja9, ka9, qa9, jb9, kb9, qb9, jc9, kc9, qc9, jd9, kd9, qd9, rfl, hS9, hOa9, hOb9, hOc9, hOd9, hU9⟩
   have hzw9 := hU9.size
   replace HU := HU.trans0 hU9
   replace hb3 := hb3.upd0 hU9
   replace hb4 := hb4.upd0 hU9
   replace hS9 := hS9.tight
   have hl_hS9 := hS9.sl.len
   have hc_hS9 := hS9.sl.cap.1
   replace hOa9 := hOa9.tight
   have hl_hOa9 := ilen hOa9.sl
   have hc_hOa9 := hOa9.sl.cap.1
   replace hOb9 := hOb9.tight
   have hl_hOb9 := ilen hOb9.sl
   have hc_hOb9 := hOb9.sl.cap.1
   replace hOc9 := hOc9.tight
   have hl_hOc9 := ilen hOc9.sl
   have hc_hOc9 := hOc9.sl.cap.1
   replace hOd9 := hOd9.tight
   have hl_hOd9 := ilen hOd9.sl
   have hc_hOd9 := hOd9.sl.cap.1
   have hoo0 := out_lel (l := l) (b := b) hrq (0) ((m + 3) / 4)
   have hoo1 := out_lel (l := l) (b := b) hrq ((m + 3) / 4) (2 * ((m + 3) / 4))
   have hoo2 := out_lel (l := l) (b := b) hrq (2 * ((m + 3) / 4)) (3 * ((m + 3) / 4))
   have hoo3 := out_lel (l := l) (b := b) hrq (3 * ((m + 3) / 4)) (3 * ((m + 3) / 4) + (m - 3 * ((m + 3) / 4)))
   refine Wl_call (r_call1 rfl call39 rfl) (join4 _ hS9.sl hOa9.sl.any hOb9.sl.any hOc9.sl.any hOd9.sl.any (by omega)) ?_
   rintro v w10 ⟨a10, m10, c10, rfl, hO10, hU10⟩
   have hzw10 := hU10.size
   replace HU := HU.trans0 hU10
   replace hb3 := hb3.upd0 hU10
   replace hb4 := hb4.upd0 hU10
   replace hO10 := hO10.tight
   have hl_hO10 := ilen hO10.sl
   have hc_hO10 := hO10.sl.cap.1
   refine Wl_store (v := .slice a10 m10 c10) (cs' := [.slice a10 m10 c10]) sizeOf32 rfl rfl rfl rfl hb3 rfl rfl ?_
   intro w11 hU11 hzz11 hb3n
   replace hb3 := hb3n; clear hb3n
   have hzw11 := hU11.size
   replace HU := HU.t1 hU11 (by omega)
   replace hb4 := hb4.upd1 hU11 (by omega)
   replace hO10 := hO10.upd1 hU11 (show ¬ (((w9.heap.size ≤ B3) ∧ B3 < w10.heap.size)) by omega)
   refine Wl_store (v := .int .i64 0) (cs' := [.int .i64 0]) sizeOf23 rfl rfl rfl rfl hb4 rfl rfl ?_
   intro w12 hU12 hzz12 hb4n
   replace hb4 := hb4n; clear hb4n
   have hzw12 := hU12.size
   replace HU := HU.t1 hU12 (by omega)
   replace hb3 := hb3.upd1 hU12 (by omega)
   replace hO10 := hO10.upd1 hU12 (show ¬ (((w9.heap.size ≤ B4) ∧ B4 < w10.heap.size)) by omega)
   refine Wl_nil ?_
   refine W_ret ?_
   refine ret_ds rfl ?_
   refine lv_call (by simp) call33 rfl (fcaught_ret _) ?_
   rintro e1 u1 w13 ⟨rfl, v1, rfl, rfl, hU13⟩
   have hzw13 := hU13.size
   replace HU := HU.trans0 hU13
   replace hb3 := hb3.upd0 hU13
   replace hb4 := hb4.upd0 hU13
   replace hO10 := hO10.upd0 hU13
   refine lv_nil (v := .tuple #[.slice a10 m10 c10, .int .i64 0]) (rc2 results17 rfl rfl (cellIs isAgg32 hb3) (cellIs isAgg23 hb4)) ?_
   have hF := f4F_ok (l := l) (b := b) (m := m) (k := (m + 3) / 4) (r := m - 3 * ((m + 3) / 4)) (by omega) q1 q2 rfl (by omega)
   exact ⟨_, rfl, a10, m10, c10, (vtup2 rfl (vint (by rw [hF]))), (by rw [hF]; exact (hO10.weak (by intro g hg; have h3 : ((w9.heap.size ≤ g) ∧ g < w10.heap.size) := hg; show w.heap.size ≤ g; omega))), HU⟩
  refine Wl_callp (r_call1 rfl call35 rfl) (parted_no (n := ((m : Nat) : Int)) _ q2) ?_
  intro w14 hU14
  have hzw14 := hU14.size
  replace HU := HU.trans0 hU14
  replace hb3 := hb3.upd0 hU14
  replace hb4 := hb4.upd0 hU14
  refine pan_ds rfl ?_
  refine lv_call (by simp) call33 rfl (fcaught_pan (S := fun g => g = B3) (Φ := fun w' => Blk w' B3 [.slice none 0 0]) _ hb4 call36 (by show ¬ (B4 = B3); first | omega | exact fun h => h) (fenc_clr _ hb3)) ?_
  rintro e1 u1 w15 ⟨rfl, v1, rfl, rfl, wq15, hz15_0, hUa15, hUb15, hbe15⟩
  have hzwq15 := hUa15.size
  replace HU := HU.trans hUa15 (by intro x hx; have hx2 : x = B3 := hx; show (False) ∨ w.heap.size ≤ x; omega)
  have hzw15 := hUb15.size
  replace HU := HU.t1 hUb15 (by omega)
  replace hz15_0 := hz15_0.upd1 hUb15 (by omega)
  refine lv_nil (v := .tuple #[.slice none 0 0, .int .i64 (paF ((m : Nat) : Int))]) (rc2 results17 rfl rfl (cellIs isAgg32 hz15_0) (cellIs isAgg23 hbe15)) ?_
  have hF := f4F_p (l := l) (b := b) (m := m) (by omega) q1 q2
  exact ⟨_, rfl, none, 0, 0, (vtup2 rfl (vint (by rw [hF]))), (by rw [hF]; exact (Own.nil _ _ 5 1)), HU⟩
 refine Wl_callp (r_call1 rfl call38 rfl) (fmust_no (er := (blF l b).2) _ hs6.sl.any q1) ?_
 intro w16 hU16
 have hzw16 := hU16.size
 replace HU := HU.trans0 hU16
 replace hb3 := hb3.upd0 hU16
 replace hb4 := hb4.upd0 hU16
 refine pan_ds rfl ?_
 refine lv_call (by simp) call33 rfl (fcaught_pan (S := fun g => g = B3) (Φ := fun w' => Blk w' B3 [.slice none 0 0]) _ hb4 call36 (by show ¬ (B4 = B3); first | omega | exact fun h => h) (fenc_clr _ hb3)) ?_
 rintro e1 u1 w17 ⟨rfl, v1, rfl, rfl, wq17, hz17_0, hUa17, hUb17, hbe17⟩
 have hzwq17 := hUa17.size
 replace HU := HU.trans hUa17 (by intro x hx; have hx2 : x = B3 := hx; show (False) ∨ w.heap.size ≤ x; omega)
 have hzw17 := hUb17.size
 replace HU := HU.t1 hUb17 (by omega)
 replace hz17_0 := hz17_0.upd1 hUb17 (by omega)
 refine lv_nil (v := .tuple #[.slice none 0 0, .int .i64 ((blF l b).2)]) (rc2 results17 rfl rfl (cellIs isAgg32 hz17_0) (cellIs isAgg23 hbe17)) ?_
 have hF := f4F_e (l := l) (b := b) q1
 exact ⟨_, rfl, none, 0, 0, (vtup2 rfl (vint (by rw [hF]))), (by rw [hF]; exact (Own.nil _ _ 5 1)), HU⟩
theorem fsz_spec {a a2 : Option Addr} {n c m d : Nat} {l b : List Int} {R : Nat → Prop} (w : World) (hs : Sl w R 1 (.slice a n c) n (ints .i64 l)) (hn : n ≤ 1000) (hsb : Sl w (fun g => g < w.heap.size) 1 (.slice a2 m d) m (ints .u8 b)) (hb : Byt b) (hm : m ≤ 100000) :
  Calls Tryz.prog 20 #[.slice a n c, .slice a2 m d] w (Ret fun v w' => v = .tuple #[.int .i64 (((f4F l b).1.length : Nat) : Int), .int .i64 ((f4F l b).2)] ∧ Upd No w w') := by
 have HU := Upd.rno w
 have hl_hs := ilen hs
 have hc_hs := hs.cap.1
 replace hs := hs.tight
 have hl_hsb := ilen hsb
 have hc_hsb := hsb.cap.1
 refine calls_of_W func20 rfl ntmps20 (by simp) ?_
 refine W_seq (W_region ?_)
 refine Was (.int .i64 0) ?_
 refine Was (.int .i64 0) ?_
 refine Wl_nil (W_seq (W_region ?_))
 refine Wmv (.slice a n c) ?_
 refine Wmv (.slice a2 m d) ?_
 refine Wl_call (r_call2 rfl call17 rfl rfl) (fenc_spec _ hs (by omega) hsb.any hb (by omega)) ?_
 rintro v w1 ⟨a1, m1, c1, rfl, hO1, hU1⟩
 have hzw1 := hU1.size
 replace HU := HU.trans0 hU1
 replace hO1 := hO1.tight
 have hl_hO1 := ilen hO1.sl
 have hc_hO1 := hO1.sl.cap.1
 refine Wmv (.tuple #[.slice a1 m1 c1, .int .i64 ((f4F l b).2)]) ?_
 refine Wl_v (r_ext (v := .slice a1 m1 c1) rfl rfl) ?_
 refine Wl_v (r_ext (v := .int .i64 ((f4F l b).2)) rfl rfl) ?_
 refine Was (.slice a1 m1 c1) ?_
 refine Was (.int .i64 ((f4F l b).2)) ?_
 refine Wl_nil (W_seq (W_region ?_))
 refine Wmv (.slice a1 m1 c1) ?_
 refine Wl_v (r_len underlying32 rfl) ?_
 refine Wmv (.int .i64 ((f4F l b).2)) ?_
 refine Was (.int .i64 ((m1 : Nat) : Int)) ?_
 refine Was (.int .i64 ((f4F l b).2)) ?_
 refine Wl_nil ?_
 refine W_ret ?_
 refine ret_end (v := .tuple #[.int .i64 ((m1 : Nat) : Int), .int .i64 ((f4F l b).2)]) rfl (res2 results20 rfl rfl) ?_
 exact ⟨_, rfl, (vtup2 (vint (by omega)) rfl), HU⟩
end Go.Proofs.YtdppageondgjkaaGreat
