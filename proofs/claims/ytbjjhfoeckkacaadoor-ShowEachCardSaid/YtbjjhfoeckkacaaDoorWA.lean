/-
  Several texts of this project, put together.
-/
import Derived.Test.YtbjjhfoeckkacaaDoorRows
import Derived.Test.YtbjjhfoeckkacaaDoorFA
import Derived.Test.YtbjjhfoeckkacaaDoorPA
set_option linter.unusedVariables false
set_option linter.unusedSimpArgs false
set_option maxRecDepth 100000
namespace Go.Proofs.YtbjjhfoeckkacaaDoor
open Go.Fw _root_.Go.Proofs.Tryd
theorem clone_spec {a : Option Addr} {n c : Nat} {cs : List Value} (w : World) (hs : Sl w (fun g => g < w.heap.size) 1 (.slice a n c) n cs) (one : ∀ u ∈ cs, u.oneCell' = true) (hn : n ≤ 140737488355328) :
  Calls Tryd.prog 63 #[.slice a n c] w (Ret fun v w' => ∃ a' c', v = .slice a' n c' ∧ Own w' (Ge w.heap.size) 5 1 (.slice a' n c') n cs ∧ Upd No w w') := by
 have HU := Upd.rno w
 refine calls_of_W func63 rfl ntmps63 (by simp) ?_
 refine W_seq (W_region ?_)
 refine Was (.slice none 0 0) ?_
 refine Wl_nil (W_seq (W_seq (W_region ?_)))
 refine Wmv (.slice a n c) ?_
 refine Wl_v (r_eqsn underlying22 rfl rfl) ?_
 refine Wl_nil ?_
 by_cases q1 : a = none
 ·rw [decide_eq_true q1]
  refine W_cond_t rfl ?_
  refine W_seq (W_region ?_)
  refine Was (.slice none 0 0) ?_
  refine Wl_nil ?_
  refine W_ret ?_
  refine ret_end (v := .slice none 0 0) rfl (res1 results63 rfl) ?_
  obtain ⟨h0, h1⟩ := Sl.none_len (q1 ▸ hs)
  subst h0 h1
  exact ⟨_, rfl, none, 0, rfl, Own.nil _ _ _ _, HU⟩
 rw [decide_eq_false q1]
 refine W_cond_f rfl ?_
 refine W_skip (W_seq (W_region ?_))
 refine Wl_lit0 underlying22 sizeOf5 ?_
 intro B1 w1 hB1 hU1 hzz1 hs1
 have hzw1 := hU1.size
 replace hs := hs.upd0 hU1
 replace HU := HU.trans0 hU1
 refine Wmv (.slice a n c) ?_
 refine Wl_append underlying22 (ti := Tryd.t5) (z := .int .u8 0) (sz := 1) (by' := 1) rfl rfl rfl rfl rfl (by decide) rfl hs1 rfl hs one (by simp only [maxLen]; omega) (by omega) ?_
 clear hs1
 intro a2 c2 w2 hU2 hzz2 ho
 have hzw2 := hU2.size
 replace HU := HU.trans hU2 (by intro x hx; have hx2 : x = B1 := hx; show (False) ∨ w.heap.size ≤ x; omega)
 refine Was (.slice a2 (0 + n) c2) ?_
 refine Wl_nil ?_
 refine W_ret ?_
 refine ret_end (v := .slice a2 (0 + n) c2) rfl (res1 results63 rfl) ?_
 exact ⟨_, rfl, a2, c2, by simp, by simpa using ho.weak (R' := Ge w.heap.size) (by intro g hg; have h3 : ((g = B1) ∨ g = w1.heap.size) := hg; show _ ≤ _; omega), HU⟩
theorem at_spec {pb : Nat} {a : Option Addr} {n c : Nat} {at0 : Int} (w : World) (hp : Blk w pb [.slice a n c, .int .i64 at0]) (h0 : 0 ≤ at0) (h1 : at0 ≤ n) (hn : n ≤ 9223372036854775807) :
  Calls Tryd.prog 64 #[.pointer (some ⟨pb, 0, none⟩)] w (Ret fun v w' => v = .int .i64 at0 ∧ Upd No w w') := by
 have HU := Upd.rno w
 refine calls_of_W func64 rfl ntmps64 (by simp) ?_
 refine W_seq (W_region ?_)
 refine Was (.int .i64 0) ?_
 refine Wl_nil (W_seq (W_seq (W_region ?_)))
 refine Wmv (.pointer (some ⟨pb, 0, none⟩)) ?_
 refine Wl_v (r_eqpn_s underlying112 rfl rfl) ?_
 refine Wl_nil ?_
 refine W_cond_f rfl ?_
 refine W_skip (W_seq (W_region ?_))
 refine Wmv (.pointer (some ⟨pb, 0, none⟩)) ?_
 refine Wl_v (r_nil rfl) ?_
 refine Wl_v (r_fld underlying128 rfl sizeOf3 rfl rfl) ?_
 refine Wl_load (v := .int .i64 at0) isAgg3 rfl hp rfl ?_
 refine Was (.int .i64 at0) ?_
 refine Wl_nil ?_
 refine W_ret ?_
 refine ret_end (v := .int .i64 at0) rfl (res1 results64 rfl) ?_
 exact ⟨_, rfl, rfl, HU⟩
theorem left_spec {pb : Nat} {a : Option Addr} {n c : Nat} {at0 : Int} (w : World) (hp : Blk w pb [.slice a n c, .int .i64 at0]) (h0 : 0 ≤ at0) (h1 : at0 ≤ n) (hn : n ≤ 9223372036854775807) :
  Calls Tryd.prog 55 #[.pointer (some ⟨pb, 0, none⟩)] w (Ret fun v w' => v = .int .i64 (n - at0) ∧ Upd No w w') := by
 have HU := Upd.rno w
 refine calls_of_W func55 rfl ntmps55 (by simp) ?_
 refine W_seq (W_region ?_)
 refine Was (.int .i64 0) ?_
 refine Wl_nil (W_seq (W_seq (W_region ?_)))
 refine Wmv (.pointer (some ⟨pb, 0, none⟩)) ?_
 refine Wl_v (r_eqpn_s underlying112 rfl rfl) ?_
 refine Wl_nil ?_
 refine W_cond_f rfl ?_
 refine W_skip (W_seq ?_)
 refine W_drawt rfl (l0 := tf 0 11) (by kernel_rfl) ?_
 refine Tk 0 (tf 1 11) rfl (YI_v (v := .pointer (some ⟨pb, 0, none⟩)) rfl (fun w' hw' => r_mv (v := .pointer (some ⟨pb, 0, none⟩)) rfl)) ?_
 refine Tk 1 (tf 2 11) rfl (YI_v (v := .pointer (some ⟨pb, 0, none⟩)) rfl (fun w' hw' => r_nil rfl)) ?_
 refine Tk 2 (tf 3 11) rfl (YI_v (v := .pointer (some ⟨pb, 0, none⟩)) rfl (fun w' hw' => r_fld underlying128 rfl sizeOf22 rfl rfl)) ?_
 refine Tk 3 (tf 4 11) rfl (YI_v (v := .slice a n c) rfl (fun w' hw' => r_load isAgg22 rfl (by rw [(hp.upd0 hw').cell]; rfl))) ?_
 refine Tk 4 (tf 5 11) rfl (YI_v (v := .int .i64 ((n : Nat) : Int)) rfl (fun w' hw' => r_len underlying22 rfl)) ?_
 refine Tk 5 (tf 6 11) rfl (YI_v (v := .pointer (some ⟨pb, 0, none⟩)) rfl (fun w' hw' => r_mv (v := .pointer (some ⟨pb, 0, none⟩)) rfl)) ?_
 refine Tk 6 (tf 7 11) rfl (YI_v (v := .pointer (some ⟨pb, 0, none⟩)) rfl (fun w' hw' => r_nil rfl)) ?_
 refine Tk 7 (tf 8 11) rfl (YI_v (v := .pointer (some ⟨pb, 1, none⟩)) rfl (fun w' hw' => r_fld underlying128 rfl sizeOf3 rfl rfl)) ?_
 refine Tk 8 (tf 9 11) rfl (YI_v (v := .int .i64 at0) rfl (fun w' hw' => r_load isAgg3 rfl (by rw [(hp.upd0 hw').cell]; rfl))) ?_
 refine Tk 9 (tf 10 11) rfl (YI_v (v := .int .i64 (((n : Nat) : Int) - at0)) rfl (fun w' hw' => r_sub rfl rfl (wi64 (by omega) (by omega)))) ?_
 refine Tk 10 (tf 11 11) rfl (YI_v (v := .int .i64 (((n : Nat) : Int) - at0)) rfl (fun w' hw' => r_as (v := .int .i64 (((n : Nat) : Int) - at0)) rfl)) ?_
 intro w1 hU1
 have hzw1 := hU1.size
 replace HU := HU.trans0 hU1
 refine Wa_done (by kernel_rfl) ?_
 refine W_ret ?_
 refine ret_end (v := .int .i64 (((n : Nat) : Int) - at0)) rfl (res1 results55 rfl) ?_
 exact ⟨_, rfl, rfl, HU⟩
theorem readdU64_ok {be bf bx bc pb : Nat} {x s : Value} {er at0 at1 : Int} (u : FrameMode) (w : World) (he : Blk w be [.int .i64 er]) (hf : Blk w bf [.int .i64 at0]) (hx : Blk w bx [x]) (hc : Blk w bc [.pointer (some ⟨pb, 0, none⟩)]) (hp : Blk w pb [s, .int .i64 at1]) (d1 : pb ≠ be ∧ pb ≠ bf ∧ pb ≠ bx ∧ pb ≠ bc ∧ bx ≠ be ∧ bx ≠ bf ∧ bx ≠ bc) (hq : er = 0) :
  CD Tryd.prog 112 #[.pointer (some ⟨be, 0, none⟩), .pointer (some ⟨bf, 0, none⟩), .pointer (some ⟨bx, 0, none⟩), .pointer (some ⟨bc, 0, none⟩)] u w (fun e u' w' => u' = u ∧ Ret (fun v w' => v = .tuple #[] ∧ Upd (fun b => False) w w') e w') := by
 have HU := Upd.rno w
 refine CD_of_W func112 rfl ntmps112 (by simp) ?_
 refine W_seq (W_region ?_)
 refine Wl_load (v := .int .i64 er) isAgg26 rfl he rfl ?_
 refine Wl_v (r_ne rfl rfl) ?_
 refine Wl_nil ?_
 have q1 : ¬ (er ≠ 0) := (by simp [hq])
 rw [decide_eq_false q1]
 refine W_cond_f rfl ?_
 refine W_skip ?_
 refine cd_nrm (v := .tuple #[]) (res0 results112) ?_
 exact ⟨_, rfl, rfl, HU⟩
theorem readdU64_err {be bf bx bc pb : Nat} {x s : Value} {er at0 at1 : Int} (u : FrameMode) (w : World) (he : Blk w be [.int .i64 er]) (hf : Blk w bf [.int .i64 at0]) (hx : Blk w bx [x]) (hc : Blk w bc [.pointer (some ⟨pb, 0, none⟩)]) (hp : Blk w pb [s, .int .i64 at1]) (d1 : pb ≠ be ∧ pb ≠ bf ∧ pb ≠ bx ∧ pb ≠ bc ∧ bx ≠ be ∧ bx ≠ bf ∧ bx ≠ bc) (hq : er ≠ 0) :
  CD Tryd.prog 112 #[.pointer (some ⟨be, 0, none⟩), .pointer (some ⟨bf, 0, none⟩), .pointer (some ⟨bx, 0, none⟩), .pointer (some ⟨bc, 0, none⟩)] u w (fun e u' w' => u' = u ∧ Ret (fun v w' => v = .tuple #[] ∧ Blk w' be [.int .i64 er] ∧ Blk w' bx [.int .u64 0] ∧ Blk w' pb [s, .int .i64 at0] ∧ Upd (fun b => b = pb ∨ b = bx) w w') e w') := by
 have HU : Upd (fun b => b = pb ∨ b = bx) w w := Upd.refl _ _
 refine CD_of_W func112 rfl ntmps112 (by simp) ?_
 refine W_seq (W_region ?_)
 refine Wl_load (v := .int .i64 er) isAgg26 rfl he rfl ?_
 refine Wl_v (r_ne rfl rfl) ?_
 refine Wl_nil ?_
 have q1 : er ≠ 0 := hq
 rw [decide_eq_true q1]
 refine W_cond_t rfl ?_
 refine W_seq (W_region ?_)
 refine Was (.int .u64 0) ?_
 refine Wl_nil (W_region ?_)
 refine Wl_load (v := .pointer (some ⟨pb, 0, none⟩)) isAgg112 rfl hc rfl ?_
 refine Wmv (.int .u64 0) ?_
 refine Wl_load (v := .int .i64 at0) isAgg3 rfl hf rfl ?_
 refine Wl_store (v := .int .u64 0) (cs' := [.int .u64 0]) sizeOf93 rfl rfl rfl rfl hx rfl rfl ?_
 intro w1 hU1 hzz1 hxn
 replace hx := hxn; clear hxn
 have hzw1 := hU1.size
 replace he := he.upd1 hU1 (by omega)
 replace hp := hp.upd1 hU1 (by omega)
 replace HU := HU.trans1 hU1 (by show (bx = pb ∨ bx = bx) ∨ w.heap.size ≤ bx; omega)
 refine Wl_v (r_nil rfl) ?_
 refine Wl_v (r_fld underlying128 rfl sizeOf3 rfl rfl) ?_
 refine Wl_store (v := .int .i64 at0) (cs' := [s, .int .i64 at0]) sizeOf3 rfl rfl rfl rfl hp rfl rfl ?_
 intro w2 hU2 hzz2 hpn
 replace hp := hpn; clear hpn
 have hzw2 := hU2.size
 replace he := he.upd1 hU2 (by omega)
 replace hx := hx.upd1 hU2 (by omega)
 replace HU := HU.trans1 hU2 (by show (pb = pb ∨ pb = bx) ∨ w.heap.size ≤ pb; omega)
 refine Wl_nil ?_
 refine cd_nrm (v := .tuple #[]) (res0 results112) ?_
 exact ⟨_, rfl, rfl, he, hx, hp, HU⟩
theorem readU64_spec {pb gf : Nat} {caps : Array Value} {s : Value} {at0 : Int} {Φ : Value → Int → Int → World → World → Prop} (w : World) (hp : Blk w pb [s, .int .i64 at0]) (hgf : ∀ ar w, (callFunc gf ar).run Tryd.prog w = .ok (.enter gf ar) w) (hget : ∀ w1, Upd No w w1 → Calls Tryd.prog gf caps w1 (Ret fun v w2 => ∃ x er, v = .tuple #[x, .int .i64 er] ∧ x.cells = #[x] ∧ x.oneCell' = true ∧ ∃ at1, Blk w2 pb [s, .int .i64 at1] ∧ Upd (Is pb) w1 w2 ∧ Φ x er at1 w1 w2)) :
  Calls Tryd.prog 104 #[.pointer (some ⟨pb, 0, none⟩), .func (.func gf) #[] caps] w (Ret fun v w' => ∃ x er at1 w1 w2, v = .tuple #[if er = 0 then x else .int .u64 0, .int .i64 er] ∧ Blk w' pb [s, .int .i64 (if er = 0 then at1 else at0)] ∧ Upd No w w1 ∧ Φ x er at1 w1 w2 ∧ Upd (fun b => b = pb ∨ (w.heap.size ≤ b ∧ b < w1.heap.size)) w2 w' ∧ Upd (Is pb) w w') := by
 have HU : Upd (fun b => b = pb) w w := Upd.refl _ _
 have HN : Upd No w w := Upd.refl _ _
 have hpl := hp.lt
 refine calls_of_W func104 rfl ntmps104 (by simp) ?_
 refine W_seq (W_region ?_)
 refine Wl_box (v := .pointer (some ⟨pb, 0, none⟩)) (cs := [.pointer (some ⟨pb, 0, none⟩)]) rfl rfl ?_
 intro B1 w1 hB1 hU1 hzz1 hb1
 have hzw1 := hU1.size
 replace hp := hp.upd0 hU1
 replace HN := HN.trans0 hU1
 replace HU := HU.trans0 hU1
 refine Wl_alloc (cs := [.int .u64 0]) zeroValue93 rfl ?_
 intro B2 w2 hB2 hU2 hzz2 hb2
 have hzw2 := hU2.size
 replace hp := hp.upd0 hU2
 replace HN := HN.trans0 hU2
 replace HU := HU.trans0 hU2
 replace hb1 := hb1.upd0 hU2
 refine Wl_alloc (cs := [.int .i64 0]) zeroValue26 rfl ?_
 intro B3 w3 hB3 hU3 hzz3 hb3
 have hzw3 := hU3.size
 replace hp := hp.upd0 hU3
 replace HN := HN.trans0 hU3
 replace HU := HU.trans0 hU3
 replace hb1 := hb1.upd0 hU3
 replace hb2 := hb2.upd0 hU3
 refine Wl_nil (W_seq (W_seq (W_region ?_)))
 refine Wl_load (v := .pointer (some ⟨pb, 0, none⟩)) isAgg112 rfl hb1 rfl ?_
 refine Wl_v (r_eqpn_s underlying112 rfl rfl) ?_
 refine Wl_nil ?_
 refine W_cond_f rfl ?_
 refine W_skip (W_seq (W_region ?_))
 refine Wl_load (v := .pointer (some ⟨pb, 0, none⟩)) isAgg112 rfl hb1 rfl ?_
 refine Wl_v (r_nil rfl) ?_
 refine Wl_v (r_fld underlying128 rfl sizeOf3 rfl rfl) ?_
 refine Wl_load (v := .int .i64 at0) isAgg3 rfl hp rfl ?_
 refine Wl_alloc (cs := [.int .i64 0]) zeroValue3 rfl ?_
 intro B4 w4 hB4 hU4 hzz4 hb4
 have hzw4 := hU4.size
 replace hp := hp.upd0 hU4
 replace HN := HN.trans0 hU4
 replace HU := HU.trans0 hU4
 replace hb1 := hb1.upd0 hU4
 replace hb2 := hb2.upd0 hU4
 replace hb3 := hb3.upd0 hU4
 refine Wl_store (v := .int .i64 at0) (cs' := [.int .i64 at0]) sizeOf3 rfl rfl rfl rfl hb4 rfl rfl ?_
 intro w5 hU5 hzz5 hb4n
 replace hb4 := hb4n; clear hb4n
 have hzw5 := hU5.size
 replace hp := hp.upd1 hU5 (by omega)
 replace HN := HN.trans1 hU5 (by show (False) ∨ w.heap.size ≤ B4; omega)
 replace HU := HU.trans1 hU5 (by show (B4 = pb) ∨ w.heap.size ≤ B4; omega)
 replace hb1 := hb1.upd1 hU5 (by omega)
 replace hb2 := hb2.upd1 hU5 (by omega)
 replace hb3 := hb3.upd1 hU5 (by omega)
 refine Wl_nil (W_seq (W_region ?_))
 refine Wl_v (r_mkf4 (v0 := .pointer (some ⟨B3, 0, none⟩)) (v1 := .pointer (some ⟨B4, 0, none⟩)) (v2 := .pointer (some ⟨B2, 0, none⟩)) (v3 := .pointer (some ⟨B1, 0, none⟩)) rfl rfl rfl rfl) ?_
 refine Wl_defer rfl ?_
 refine Wl_nil (W_seq (W_region ?_))
 refine Wmv (.func (.func gf) #[] caps) ?_
 refine Wl_call (r_clos0 hgf rfl (by simp)) (hget w5 HN) ?_
 rintro v w6 ⟨x, er, rfl, hx1, hx2, at1, hpn, hU6, hΦ⟩
 have HP : Upd No w w5 := HN
 replace hp := hpn
 clear hpn
 have hzw6 := hU6.size
 replace HU := HU.trans1 hU6 (by show (pb = pb) ∨ w.heap.size ≤ pb; omega)
 replace hb1 := hb1.upd1 hU6 (by omega)
 replace hb2 := hb2.upd1 hU6 (by omega)
 replace hb3 := hb3.upd1 hU6 (by omega)
 replace hb4 := hb4.upd1 hU6 (by omega)
 have HX : Upd (fun b => b = pb ∨ (w.heap.size ≤ b ∧ b < w5.heap.size)) w6 w6 := Upd.refl _ _
 refine Wl_v (r_ext (v := x) rfl rfl) ?_
 refine Wl_v (r_ext (v := .int .i64 er) rfl rfl) ?_
 refine Wl_store (v := x) (cs' := [x]) sizeOf93 rfl rfl hx1 hx2 hb2 rfl rfl ?_
 intro w7 hU7 hzz7 hb2n
 replace hb2 := hb2n; clear hb2n
 have hzw7 := hU7.size
 replace hp := hp.upd1 hU7 (by omega)
 replace HU := HU.trans1 hU7 (by show (B2 = pb) ∨ w.heap.size ≤ B2; omega)
 replace hb1 := hb1.upd1 hU7 (by omega)
 replace hb3 := hb3.upd1 hU7 (by omega)
 replace hb4 := hb4.upd1 hU7 (by omega)
 replace HX := HX.trans1 hU7 (by show (B2 = pb ∨ (w.heap.size ≤ B2 ∧ B2 < w5.heap.size)) ∨ w6.heap.size ≤ B2; omega)
 refine Wl_store (v := .int .i64 er) (cs' := [.int .i64 er]) sizeOf26 rfl rfl rfl rfl hb3 rfl rfl ?_
 intro w8 hU8 hzz8 hb3n
 replace hb3 := hb3n; clear hb3n
 have hzw8 := hU8.size
 replace hp := hp.upd1 hU8 (by omega)
 replace HU := HU.trans1 hU8 (by show (B3 = pb) ∨ w.heap.size ≤ B3; omega)
 replace hb1 := hb1.upd1 hU8 (by omega)
 replace hb2 := hb2.upd1 hU8 (by omega)
 replace hb4 := hb4.upd1 hU8 (by omega)
 replace HX := HX.trans1 hU8 (by show (B3 = pb ∨ (w.heap.size ≤ B3 ∧ B3 < w5.heap.size)) ∨ w6.heap.size ≤ B3; omega)
 refine Wl_nil ?_
 refine W_ret ?_
 refine ret_ds rfl ?_
 by_cases hq : er = 0
 ·refine lv_call (by simp) call112 rfl (readdU64_ok _ _ hb3 hb4 hb2 hb1 hp (by omega) hq) ?_
  rintro e1 u1 w9 ⟨rfl, v1, rfl, rfl, hU9⟩
  have hzw9 := hU9.size
  replace hp := hp.upd0 hU9
  replace HU := HU.trans0 hU9
  replace hb2 := hb2.upd0 hU9
  replace hb3 := hb3.upd0 hU9
  replace HX := HX.trans0 hU9
  refine lv_nil (v := .tuple #[x, .int .i64 er]) (resc2 results104 rfl rfl isAgg93 isAgg26 hb2 hb3) ?_
  exact ⟨_, rfl, x, er, at1, w5, w6, by simp [hq], by simpa [hq] using hp, HP, hΦ, HX, HU⟩
 refine lv_call (by simp) call112 rfl (readdU64_err _ _ hb3 hb4 hb2 hb1 hp (by omega) hq) ?_
 rintro e1 u1 w9 ⟨rfl, v1, rfl, rfl, hee, hxx, hpp, hU9⟩
 have hzw9 := hU9.size
 replace HU := HU.trans hU9 (by intro x hx; have hx2 : x = pb ∨ x = B2 := hx; show (x = pb) ∨ w.heap.size ≤ x; omega)
 replace HX := HX.trans hU9 (by intro x hx; have hx2 : x = pb ∨ x = B2 := hx; show (x = pb ∨ (w.heap.size ≤ x ∧ x < w5.heap.size)) ∨ w6.heap.size ≤ x; omega)
 refine lv_nil (v := .tuple #[.int .u64 0, .int .i64 er]) (resc2 results104 rfl rfl isAgg93 isAgg26 hxx hee) ?_
 exact ⟨_, rfl, x, er, at1, w5, w6, by simp [hq], by simpa [hq] using hpp, HP, hΦ, HX, HU⟩
theorem readdBs_ok {be bf bx bc pb : Nat} {x s : Value} {er at0 at1 : Int} (u : FrameMode) (w : World) (he : Blk w be [.int .i64 er]) (hf : Blk w bf [.int .i64 at0]) (hx : Blk w bx [x]) (hc : Blk w bc [.pointer (some ⟨pb, 0, none⟩)]) (hp : Blk w pb [s, .int .i64 at1]) (d1 : pb ≠ be ∧ pb ≠ bf ∧ pb ≠ bx ∧ pb ≠ bc ∧ bx ≠ be ∧ bx ≠ bf ∧ bx ≠ bc) (hq : er = 0) :
  CD Tryd.prog 110 #[.pointer (some ⟨be, 0, none⟩), .pointer (some ⟨bf, 0, none⟩), .pointer (some ⟨bx, 0, none⟩), .pointer (some ⟨bc, 0, none⟩)] u w (fun e u' w' => u' = u ∧ Ret (fun v w' => v = .tuple #[] ∧ Upd (fun b => False) w w') e w') := by
 have HU := Upd.rno w
 refine CD_of_W func110 rfl ntmps110 (by simp) ?_
 refine W_seq (W_region ?_)
 refine Wl_load (v := .int .i64 er) isAgg26 rfl he rfl ?_
 refine Wl_v (r_ne rfl rfl) ?_
 refine Wl_nil ?_
 have q1 : ¬ (er ≠ 0) := (by simp [hq])
 rw [decide_eq_false q1]
 refine W_cond_f rfl ?_
 refine W_skip ?_
 refine cd_nrm (v := .tuple #[]) (res0 results110) ?_
 exact ⟨_, rfl, rfl, HU⟩
theorem readdBs_err {be bf bx bc pb : Nat} {x s : Value} {er at0 at1 : Int} (u : FrameMode) (w : World) (he : Blk w be [.int .i64 er]) (hf : Blk w bf [.int .i64 at0]) (hx : Blk w bx [x]) (hc : Blk w bc [.pointer (some ⟨pb, 0, none⟩)]) (hp : Blk w pb [s, .int .i64 at1]) (d1 : pb ≠ be ∧ pb ≠ bf ∧ pb ≠ bx ∧ pb ≠ bc ∧ bx ≠ be ∧ bx ≠ bf ∧ bx ≠ bc) (hq : er ≠ 0) :
  CD Tryd.prog 110 #[.pointer (some ⟨be, 0, none⟩), .pointer (some ⟨bf, 0, none⟩), .pointer (some ⟨bx, 0, none⟩), .pointer (some ⟨bc, 0, none⟩)] u w (fun e u' w' => u' = u ∧ Ret (fun v w' => v = .tuple #[] ∧ Blk w' be [.int .i64 er] ∧ Blk w' bx [.slice none 0 0] ∧ Blk w' pb [s, .int .i64 at0] ∧ Upd (fun b => b = pb ∨ b = bx) w w') e w') := by
 have HU : Upd (fun b => b = pb ∨ b = bx) w w := Upd.refl _ _
 refine CD_of_W func110 rfl ntmps110 (by simp) ?_
 refine W_seq (W_region ?_)
 refine Wl_load (v := .int .i64 er) isAgg26 rfl he rfl ?_
 refine Wl_v (r_ne rfl rfl) ?_
 refine Wl_nil ?_
 have q1 : er ≠ 0 := hq
 rw [decide_eq_true q1]
 refine W_cond_t rfl ?_
 refine W_seq (W_region ?_)
 refine Was (.slice none 0 0) ?_
 refine Wl_nil (W_region ?_)
 refine Wl_load (v := .pointer (some ⟨pb, 0, none⟩)) isAgg112 rfl hc rfl ?_
 refine Wmv (.slice none 0 0) ?_
 refine Wl_load (v := .int .i64 at0) isAgg3 rfl hf rfl ?_
 refine Wl_store (v := .slice none 0 0) (cs' := [.slice none 0 0]) sizeOf22 rfl rfl rfl rfl hx rfl rfl ?_
 intro w1 hU1 hzz1 hxn
 replace hx := hxn; clear hxn
 have hzw1 := hU1.size
 replace he := he.upd1 hU1 (by omega)
 replace hp := hp.upd1 hU1 (by omega)
 replace HU := HU.trans1 hU1 (by show (bx = pb ∨ bx = bx) ∨ w.heap.size ≤ bx; omega)
 refine Wl_v (r_nil rfl) ?_
 refine Wl_v (r_fld underlying128 rfl sizeOf3 rfl rfl) ?_
 refine Wl_store (v := .int .i64 at0) (cs' := [s, .int .i64 at0]) sizeOf3 rfl rfl rfl rfl hp rfl rfl ?_
 intro w2 hU2 hzz2 hpn
 replace hp := hpn; clear hpn
 have hzw2 := hU2.size
 replace he := he.upd1 hU2 (by omega)
 replace hx := hx.upd1 hU2 (by omega)
 replace HU := HU.trans1 hU2 (by show (pb = pb ∨ pb = bx) ∨ w.heap.size ≤ pb; omega)
 refine Wl_nil ?_
 refine cd_nrm (v := .tuple #[]) (res0 results110) ?_
 exact ⟨_, rfl, rfl, he, hx, hp, HU⟩
theorem readBs_spec {pb gf : Nat} {caps : Array Value} {s : Value} {at0 : Int} {Φ : Value → Int → Int → World → World → Prop} (w : World) (hp : Blk w pb [s, .int .i64 at0]) (hgf : ∀ ar w, (callFunc gf ar).run Tryd.prog w = .ok (.enter gf ar) w) (hget : ∀ w1, Upd No w w1 → Calls Tryd.prog gf caps w1 (Ret fun v w2 => ∃ x er, v = .tuple #[x, .int .i64 er] ∧ x.cells = #[x] ∧ x.oneCell' = true ∧ ∃ at1, Blk w2 pb [s, .int .i64 at1] ∧ Upd (Is pb) w1 w2 ∧ Φ x er at1 w1 w2)) :
  Calls Tryd.prog 100 #[.pointer (some ⟨pb, 0, none⟩), .func (.func gf) #[] caps] w (Ret fun v w' => ∃ x er at1 w1 w2, v = .tuple #[if er = 0 then x else .slice none 0 0, .int .i64 er] ∧ Blk w' pb [s, .int .i64 (if er = 0 then at1 else at0)] ∧ Upd No w w1 ∧ Φ x er at1 w1 w2 ∧ Upd (fun b => b = pb ∨ (w.heap.size ≤ b ∧ b < w1.heap.size)) w2 w' ∧ Upd (Is pb) w w') := by
 have HU : Upd (fun b => b = pb) w w := Upd.refl _ _
 have HN : Upd No w w := Upd.refl _ _
 have hpl := hp.lt
 refine calls_of_W func100 rfl ntmps100 (by simp) ?_
 refine W_seq (W_region ?_)
 refine Wl_box (v := .pointer (some ⟨pb, 0, none⟩)) (cs := [.pointer (some ⟨pb, 0, none⟩)]) rfl rfl ?_
 intro B1 w1 hB1 hU1 hzz1 hb1
 have hzw1 := hU1.size
 replace hp := hp.upd0 hU1
 replace HN := HN.trans0 hU1
 replace HU := HU.trans0 hU1
 refine Wl_alloc (cs := [.slice none 0 0]) zeroValue22 rfl ?_
 intro B2 w2 hB2 hU2 hzz2 hb2
 have hzw2 := hU2.size
 replace hp := hp.upd0 hU2
 replace HN := HN.trans0 hU2
 replace HU := HU.trans0 hU2
 replace hb1 := hb1.upd0 hU2
 refine Wl_alloc (cs := [.int .i64 0]) zeroValue26 rfl ?_
 intro B3 w3 hB3 hU3 hzz3 hb3
 have hzw3 := hU3.size
 replace hp := hp.upd0 hU3
 replace HN := HN.trans0 hU3
 replace HU := HU.trans0 hU3
 replace hb1 := hb1.upd0 hU3
 replace hb2 := hb2.upd0 hU3
 refine Wl_nil (W_seq (W_seq (W_region ?_)))
 refine Wl_load (v := .pointer (some ⟨pb, 0, none⟩)) isAgg112 rfl hb1 rfl ?_
 refine Wl_v (r_eqpn_s underlying112 rfl rfl) ?_
 refine Wl_nil ?_
 refine W_cond_f rfl ?_
 refine W_skip (W_seq (W_region ?_))
 refine Wl_load (v := .pointer (some ⟨pb, 0, none⟩)) isAgg112 rfl hb1 rfl ?_
 refine Wl_v (r_nil rfl) ?_
 refine Wl_v (r_fld underlying128 rfl sizeOf3 rfl rfl) ?_
 refine Wl_load (v := .int .i64 at0) isAgg3 rfl hp rfl ?_
 refine Wl_alloc (cs := [.int .i64 0]) zeroValue3 rfl ?_
 intro B4 w4 hB4 hU4 hzz4 hb4
 have hzw4 := hU4.size
 replace hp := hp.upd0 hU4
 replace HN := HN.trans0 hU4
 replace HU := HU.trans0 hU4
 replace hb1 := hb1.upd0 hU4
 replace hb2 := hb2.upd0 hU4
 replace hb3 := hb3.upd0 hU4
 refine Wl_store (v := .int .i64 at0) (cs' := [.int .i64 at0]) sizeOf3 rfl rfl rfl rfl hb4 rfl rfl ?_
 intro w5 hU5 hzz5 hb4n
 replace hb4 := hb4n; clear hb4n
 have hzw5 := hU5.size
 replace hp := hp.upd1 hU5 (by omega)
 replace HN := HN.trans1 hU5 (by show (False) ∨ w.heap.size ≤ B4; omega)
 replace HU := HU.trans1 hU5 (by show (B4 = pb) ∨ w.heap.size ≤ B4; omega)
 replace hb1 := hb1.upd1 hU5 (by omega)
 replace hb2 := hb2.upd1 hU5 (by omega)
 replace hb3 := hb3.upd1 hU5 (by omega)
 refine Wl_nil (W_seq (W_region ?_))
 refine Wl_v (r_mkf4 (v0 := .pointer (some ⟨B3, 0, none⟩)) (v1 := .pointer (some ⟨B4, 0, none⟩)) (v2 := .pointer (some ⟨B2, 0, none⟩)) (v3 := .pointer (some ⟨B1, 0, none⟩)) rfl rfl rfl rfl) ?_
 refine Wl_defer rfl ?_
 refine Wl_nil (W_seq (W_region ?_))
 refine Wmv (.func (.func gf) #[] caps) ?_
 refine Wl_call (r_clos0 hgf rfl (by simp)) (hget w5 HN) ?_
 rintro v w6 ⟨x, er, rfl, hx1, hx2, at1, hpn, hU6, hΦ⟩
 have HP : Upd No w w5 := HN
 replace hp := hpn
 clear hpn
 have hzw6 := hU6.size
 replace HU := HU.trans1 hU6 (by show (pb = pb) ∨ w.heap.size ≤ pb; omega)
 replace hb1 := hb1.upd1 hU6 (by omega)
 replace hb2 := hb2.upd1 hU6 (by omega)
 replace hb3 := hb3.upd1 hU6 (by omega)
 replace hb4 := hb4.upd1 hU6 (by omega)
 have HX : Upd (fun b => b = pb ∨ (w.heap.size ≤ b ∧ b < w5.heap.size)) w6 w6 := Upd.refl _ _
 refine Wl_v (r_ext (v := x) rfl rfl) ?_
 refine Wl_v (r_ext (v := .int .i64 er) rfl rfl) ?_
 refine Wl_store (v := x) (cs' := [x]) sizeOf22 rfl rfl hx1 hx2 hb2 rfl rfl ?_
 intro w7 hU7 hzz7 hb2n
 replace hb2 := hb2n; clear hb2n
 have hzw7 := hU7.size
 replace hp := hp.upd1 hU7 (by omega)
 replace HU := HU.trans1 hU7 (by show (B2 = pb) ∨ w.heap.size ≤ B2; omega)
 replace hb1 := hb1.upd1 hU7 (by omega)
 replace hb3 := hb3.upd1 hU7 (by omega)
 replace hb4 := hb4.upd1 hU7 (by omega)
 replace HX := HX.trans1 hU7 (by show (B2 = pb ∨ (w.heap.size ≤ B2 ∧ B2 < w5.heap.size)) ∨ w6.heap.size ≤ B2; omega)
 refine Wl_store (v := .int .i64 er) (cs' := [.int .i64 er]) sizeOf26 rfl rfl rfl rfl hb3 rfl rfl ?_
 intro w8 hU8 hzz8 hb3n
 replace hb3 := hb3n; clear hb3n
 have hzw8 := hU8.size
 replace hp := hp.upd1 hU8 (by omega)
 replace HU := HU.trans1 hU8 (by show (B3 = pb) ∨ w.heap.size ≤ B3; omega)
 replace hb1 := hb1.upd1 hU8 (by omega)
 replace hb2 := hb2.upd1 hU8 (by omega)
 replace hb4 := hb4.upd1 hU8 (by omega)
 replace HX := HX.trans1 hU8 (by show (B3 = pb ∨ (w.heap.size ≤ B3 ∧ B3 < w5.heap.size)) ∨ w6.heap.size ≤ B3; omega)
 refine Wl_nil ?_
 refine W_ret ?_
 refine ret_ds rfl ?_
 by_cases hq : er = 0
 ·refine lv_call (by simp) call110 rfl (readdBs_ok _ _ hb3 hb4 hb2 hb1 hp (by omega) hq) ?_
  rintro e1 u1 w9 ⟨rfl, v1, rfl, rfl, hU9⟩
  have hzw9 := hU9.size
  replace hp := hp.upd0 hU9
  replace HU := HU.trans0 hU9
  replace hb2 := hb2.upd0 hU9
  replace hb3 := hb3.upd0 hU9
  replace HX := HX.trans0 hU9
  refine lv_nil (v := .tuple #[x, .int .i64 er]) (resc2 results100 rfl rfl isAgg22 isAgg26 hb2 hb3) ?_
  exact ⟨_, rfl, x, er, at1, w5, w6, by simp [hq], by simpa [hq] using hp, HP, hΦ, HX, HU⟩
 refine lv_call (by simp) call110 rfl (readdBs_err _ _ hb3 hb4 hb2 hb1 hp (by omega) hq) ?_
 rintro e1 u1 w9 ⟨rfl, v1, rfl, rfl, hee, hxx, hpp, hU9⟩
 have hzw9 := hU9.size
 replace HU := HU.trans hU9 (by intro x hx; have hx2 : x = pb ∨ x = B2 := hx; show (x = pb) ∨ w.heap.size ≤ x; omega)
 replace HX := HX.trans hU9 (by intro x hx; have hx2 : x = pb ∨ x = B2 := hx; show (x = pb ∨ (w.heap.size ≤ x ∧ x < w5.heap.size)) ∨ w6.heap.size ≤ x; omega)
 refine lv_nil (v := .tuple #[.slice none 0 0, .int .i64 er]) (resc2 results100 rfl rfl isAgg22 isAgg26 hxx hee) ?_
 exact ⟨_, rfl, x, er, at1, w5, w6, by simp [hq], by simpa [hq] using hpp, HP, hΦ, HX, HU⟩
theorem readdU32_ok {be bf bx bc pb : Nat} {x s : Value} {er at0 at1 : Int} (u : FrameMode) (w : World) (he : Blk w be [.int .i64 er]) (hf : Blk w bf [.int .i64 at0]) (hx : Blk w bx [x]) (hc : Blk w bc [.pointer (some ⟨pb, 0, none⟩)]) (hp : Blk w pb [s, .int .i64 at1]) (d1 : pb ≠ be ∧ pb ≠ bf ∧ pb ≠ bx ∧ pb ≠ bc ∧ bx ≠ be ∧ bx ≠ bf ∧ bx ≠ bc) (hq : er = 0) :
  CD Tryd.prog 106 #[.pointer (some ⟨be, 0, none⟩), .pointer (some ⟨bf, 0, none⟩), .pointer (some ⟨bx, 0, none⟩), .pointer (some ⟨bc, 0, none⟩)] u w (fun e u' w' => u' = u ∧ Ret (fun v w' => v = .tuple #[] ∧ Upd (fun b => False) w w') e w') := by
 have HU := Upd.rno w
 refine CD_of_W func106 rfl ntmps106 (by simp) ?_
 refine W_seq (W_region ?_)
 refine Wl_load (v := .int .i64 er) isAgg26 rfl he rfl ?_
 refine Wl_v (r_ne rfl rfl) ?_
 refine Wl_nil ?_
 have q1 : ¬ (er ≠ 0) := (by simp [hq])
 rw [decide_eq_false q1]
 refine W_cond_f rfl ?_
 refine W_skip ?_
 refine cd_nrm (v := .tuple #[]) (res0 results106) ?_
 exact ⟨_, rfl, rfl, HU⟩
theorem readdU32_err {be bf bx bc pb : Nat} {x s : Value} {er at0 at1 : Int} (u : FrameMode) (w : World) (he : Blk w be [.int .i64 er]) (hf : Blk w bf [.int .i64 at0]) (hx : Blk w bx [x]) (hc : Blk w bc [.pointer (some ⟨pb, 0, none⟩)]) (hp : Blk w pb [s, .int .i64 at1]) (d1 : pb ≠ be ∧ pb ≠ bf ∧ pb ≠ bx ∧ pb ≠ bc ∧ bx ≠ be ∧ bx ≠ bf ∧ bx ≠ bc) (hq : er ≠ 0) :
  CD Tryd.prog 106 #[.pointer (some ⟨be, 0, none⟩), .pointer (some ⟨bf, 0, none⟩), .pointer (some ⟨bx, 0, none⟩), .pointer (some ⟨bc, 0, none⟩)] u w (fun e u' w' => u' = u ∧ Ret (fun v w' => v = .tuple #[] ∧ Blk w' be [.int .i64 er] ∧ Blk w' bx [.int .u32 0] ∧ Blk w' pb [s, .int .i64 at0] ∧ Upd (fun b => b = pb ∨ b = bx) w w') e w') := by
 have HU : Upd (fun b => b = pb ∨ b = bx) w w := Upd.refl _ _
 refine CD_of_W func106 rfl ntmps106 (by simp) ?_
 refine W_seq (W_region ?_)
 refine Wl_load (v := .int .i64 er) isAgg26 rfl he rfl ?_
 refine Wl_v (r_ne rfl rfl) ?_
 refine Wl_nil ?_
 have q1 : er ≠ 0 := hq
 rw [decide_eq_true q1]
 refine W_cond_t rfl ?_
 refine W_seq (W_region ?_)
 refine Was (.int .u32 0) ?_
 refine Wl_nil (W_region ?_)
 refine Wl_load (v := .pointer (some ⟨pb, 0, none⟩)) isAgg112 rfl hc rfl ?_
 refine Wmv (.int .u32 0) ?_
 refine Wl_load (v := .int .i64 at0) isAgg3 rfl hf rfl ?_
 refine Wl_store (v := .int .u32 0) (cs' := [.int .u32 0]) sizeOf39 rfl rfl rfl rfl hx rfl rfl ?_
 intro w1 hU1 hzz1 hxn
 replace hx := hxn; clear hxn
 have hzw1 := hU1.size
 replace he := he.upd1 hU1 (by omega)
 replace hp := hp.upd1 hU1 (by omega)
 replace HU := HU.trans1 hU1 (by show (bx = pb ∨ bx = bx) ∨ w.heap.size ≤ bx; omega)
 refine Wl_v (r_nil rfl) ?_
 refine Wl_v (r_fld underlying128 rfl sizeOf3 rfl rfl) ?_
 refine Wl_store (v := .int .i64 at0) (cs' := [s, .int .i64 at0]) sizeOf3 rfl rfl rfl rfl hp rfl rfl ?_
 intro w2 hU2 hzz2 hpn
 replace hp := hpn; clear hpn
 have hzw2 := hU2.size
 replace he := he.upd1 hU2 (by omega)
 replace hx := hx.upd1 hU2 (by omega)
 replace HU := HU.trans1 hU2 (by show (pb = pb ∨ pb = bx) ∨ w.heap.size ≤ pb; omega)
 refine Wl_nil ?_
 refine cd_nrm (v := .tuple #[]) (res0 results106) ?_
 exact ⟨_, rfl, rfl, he, hx, hp, HU⟩
theorem readU32_spec {pb gf : Nat} {caps : Array Value} {s : Value} {at0 : Int} {Φ : Value → Int → Int → World → World → Prop} (w : World) (hp : Blk w pb [s, .int .i64 at0]) (hgf : ∀ ar w, (callFunc gf ar).run Tryd.prog w = .ok (.enter gf ar) w) (hget : ∀ w1, Upd No w w1 → Calls Tryd.prog gf caps w1 (Ret fun v w2 => ∃ x er, v = .tuple #[x, .int .i64 er] ∧ x.cells = #[x] ∧ x.oneCell' = true ∧ ∃ at1, Blk w2 pb [s, .int .i64 at1] ∧ Upd (Is pb) w1 w2 ∧ Φ x er at1 w1 w2)) :
  Calls Tryd.prog 91 #[.pointer (some ⟨pb, 0, none⟩), .func (.func gf) #[] caps] w (Ret fun v w' => ∃ x er at1 w1 w2, v = .tuple #[if er = 0 then x else .int .u32 0, .int .i64 er] ∧ Blk w' pb [s, .int .i64 (if er = 0 then at1 else at0)] ∧ Upd No w w1 ∧ Φ x er at1 w1 w2 ∧ Upd (fun b => b = pb ∨ (w.heap.size ≤ b ∧ b < w1.heap.size)) w2 w' ∧ Upd (Is pb) w w') := by
 have HU : Upd (fun b => b = pb) w w := Upd.refl _ _
 have HN : Upd No w w := Upd.refl _ _
 have hpl := hp.lt
 refine calls_of_W func91 rfl ntmps91 (by simp) ?_
 refine W_seq (W_region ?_)
 refine Wl_box (v := .pointer (some ⟨pb, 0, none⟩)) (cs := [.pointer (some ⟨pb, 0, none⟩)]) rfl rfl ?_
 intro B1 w1 hB1 hU1 hzz1 hb1
 have hzw1 := hU1.size
 replace hp := hp.upd0 hU1
 replace HN := HN.trans0 hU1
 replace HU := HU.trans0 hU1
 refine Wl_alloc (cs := [.int .u32 0]) zeroValue39 rfl ?_
 intro B2 w2 hB2 hU2 hzz2 hb2
 have hzw2 := hU2.size
 replace hp := hp.upd0 hU2
 replace HN := HN.trans0 hU2
 replace HU := HU.trans0 hU2
 replace hb1 := hb1.upd0 hU2
 refine Wl_alloc (cs := [.int .i64 0]) zeroValue26 rfl ?_
 intro B3 w3 hB3 hU3 hzz3 hb3
 have hzw3 := hU3.size
 replace hp := hp.upd0 hU3
 replace HN := HN.trans0 hU3
 replace HU := HU.trans0 hU3
 replace hb1 := hb1.upd0 hU3
 replace hb2 := hb2.upd0 hU3
 refine Wl_nil (W_seq (W_seq (W_region ?_)))
 refine Wl_load (v := .pointer (some ⟨pb, 0, none⟩)) isAgg112 rfl hb1 rfl ?_
 refine Wl_v (r_eqpn_s underlying112 rfl rfl) ?_
 refine Wl_nil ?_
 refine W_cond_f rfl ?_
 refine W_skip (W_seq (W_region ?_))
 refine Wl_load (v := .pointer (some ⟨pb, 0, none⟩)) isAgg112 rfl hb1 rfl ?_
 refine Wl_v (r_nil rfl) ?_
 refine Wl_v (r_fld underlying128 rfl sizeOf3 rfl rfl) ?_
 refine Wl_load (v := .int .i64 at0) isAgg3 rfl hp rfl ?_
 refine Wl_alloc (cs := [.int .i64 0]) zeroValue3 rfl ?_
 intro B4 w4 hB4 hU4 hzz4 hb4
 have hzw4 := hU4.size
 replace hp := hp.upd0 hU4
 replace HN := HN.trans0 hU4
 replace HU := HU.trans0 hU4
 replace hb1 := hb1.upd0 hU4
 replace hb2 := hb2.upd0 hU4
 replace hb3 := hb3.upd0 hU4
 refine Wl_store (v := .int .i64 at0) (cs' := [.int .i64 at0]) sizeOf3 rfl rfl rfl rfl hb4 rfl rfl ?_
 intro w5 hU5 hzz5 hb4n
 replace hb4 := hb4n; clear hb4n
 have hzw5 := hU5.size
 replace hp := hp.upd1 hU5 (by omega)
 replace HN := HN.trans1 hU5 (by show (False) ∨ w.heap.size ≤ B4; omega)
 replace HU := HU.trans1 hU5 (by show (B4 = pb) ∨ w.heap.size ≤ B4; omega)
 replace hb1 := hb1.upd1 hU5 (by omega)
 replace hb2 := hb2.upd1 hU5 (by omega)
 replace hb3 := hb3.upd1 hU5 (by omega)
 refine Wl_nil (W_seq (W_region ?_))
 refine Wl_v (r_mkf4 (v0 := .pointer (some ⟨B3, 0, none⟩)) (v1 := .pointer (some ⟨B4, 0, none⟩)) (v2 := .pointer (some ⟨B2, 0, none⟩)) (v3 := .pointer (some ⟨B1, 0, none⟩)) rfl rfl rfl rfl) ?_
 refine Wl_defer rfl ?_
 refine Wl_nil (W_seq (W_region ?_))
 refine Wmv (.func (.func gf) #[] caps) ?_
 refine Wl_call (r_clos0 hgf rfl (by simp)) (hget w5 HN) ?_
 rintro v w6 ⟨x, er, rfl, hx1, hx2, at1, hpn, hU6, hΦ⟩
 have HP : Upd No w w5 := HN
 replace hp := hpn
 clear hpn
 have hzw6 := hU6.size
 replace HU := HU.trans1 hU6 (by show (pb = pb) ∨ w.heap.size ≤ pb; omega)
 replace hb1 := hb1.upd1 hU6 (by omega)
 replace hb2 := hb2.upd1 hU6 (by omega)
 replace hb3 := hb3.upd1 hU6 (by omega)
 replace hb4 := hb4.upd1 hU6 (by omega)
 have HX : Upd (fun b => b = pb ∨ (w.heap.size ≤ b ∧ b < w5.heap.size)) w6 w6 := Upd.refl _ _
 refine Wl_v (r_ext (v := x) rfl rfl) ?_
 refine Wl_v (r_ext (v := .int .i64 er) rfl rfl) ?_
 refine Wl_store (v := x) (cs' := [x]) sizeOf39 rfl rfl hx1 hx2 hb2 rfl rfl ?_
 intro w7 hU7 hzz7 hb2n
 replace hb2 := hb2n; clear hb2n
 have hzw7 := hU7.size
 replace hp := hp.upd1 hU7 (by omega)
 replace HU := HU.trans1 hU7 (by show (B2 = pb) ∨ w.heap.size ≤ B2; omega)
 replace hb1 := hb1.upd1 hU7 (by omega)
 replace hb3 := hb3.upd1 hU7 (by omega)
 replace hb4 := hb4.upd1 hU7 (by omega)
 replace HX := HX.trans1 hU7 (by show (B2 = pb ∨ (w.heap.size ≤ B2 ∧ B2 < w5.heap.size)) ∨ w6.heap.size ≤ B2; omega)
 refine Wl_store (v := .int .i64 er) (cs' := [.int .i64 er]) sizeOf26 rfl rfl rfl rfl hb3 rfl rfl ?_
 intro w8 hU8 hzz8 hb3n
 replace hb3 := hb3n; clear hb3n
 have hzw8 := hU8.size
 replace hp := hp.upd1 hU8 (by omega)
 replace HU := HU.trans1 hU8 (by show (B3 = pb) ∨ w.heap.size ≤ B3; omega)
 replace hb1 := hb1.upd1 hU8 (by omega)
 replace hb2 := hb2.upd1 hU8 (by omega)
 replace hb4 := hb4.upd1 hU8 (by omega)
 replace HX := HX.trans1 hU8 (by show (B3 = pb ∨ (w.heap.size ≤ B3 ∧ B3 < w5.heap.size)) ∨ w6.heap.size ≤ B3; omega)
 refine Wl_nil ?_
 refine W_ret ?_
 refine ret_ds rfl ?_
 by_cases hq : er = 0
 ·refine lv_call (by simp) call106 rfl (readdU32_ok _ _ hb3 hb4 hb2 hb1 hp (by omega) hq) ?_
  rintro e1 u1 w9 ⟨rfl, v1, rfl, rfl, hU9⟩
  have hzw9 := hU9.size
  replace hp := hp.upd0 hU9
  replace HU := HU.trans0 hU9
  replace hb2 := hb2.upd0 hU9
  replace hb3 := hb3.upd0 hU9
  replace HX := HX.trans0 hU9
  refine lv_nil (v := .tuple #[x, .int .i64 er]) (resc2 results91 rfl rfl isAgg39 isAgg26 hb2 hb3) ?_
  exact ⟨_, rfl, x, er, at1, w5, w6, by simp [hq], by simpa [hq] using hp, HP, hΦ, HX, HU⟩
 refine lv_call (by simp) call106 rfl (readdU32_err _ _ hb3 hb4 hb2 hb1 hp (by omega) hq) ?_
 rintro e1 u1 w9 ⟨rfl, v1, rfl, rfl, hee, hxx, hpp, hU9⟩
 have hzw9 := hU9.size
 replace HU := HU.trans hU9 (by intro x hx; have hx2 : x = pb ∨ x = B2 := hx; show (x = pb) ∨ w.heap.size ≤ x; omega)
 replace HX := HX.trans hU9 (by intro x hx; have hx2 : x = pb ∨ x = B2 := hx; show (x = pb ∨ (w.heap.size ≤ x ∧ x < w5.heap.size)) ∨ w6.heap.size ≤ x; omega)
 refine lv_nil (v := .tuple #[.int .u32 0, .int .i64 er]) (resc2 results91 rfl rfl isAgg39 isAgg26 hxx hee) ?_
 exact ⟨_, rfl, x, er, at1, w5, w6, by simp [hq], by simpa [hq] using hpp, HP, hΦ, HX, HU⟩
theorem readdBy_ok {be bf bx bc pb : Nat} {x s : Value} {er at0 at1 : Int} (u : FrameMode) (w : World) (he : Blk w be [.int .i64 er]) (hf : Blk w bf [.int .i64 at0]) (hx : Blk w bx [x]) (hc : Blk w bc [.pointer (some ⟨pb, 0, none⟩)]) (hp : Blk w pb [s, .int .i64 at1]) (d1 : pb ≠ be ∧ pb ≠ bf ∧ pb ≠ bx ∧ pb ≠ bc ∧ bx ≠ be ∧ bx ≠ bf ∧ bx ≠ bc) (hq : er = 0) :
  CD Tryd.prog 111 #[.pointer (some ⟨be, 0, none⟩), .pointer (some ⟨bf, 0, none⟩), .pointer (some ⟨bx, 0, none⟩), .pointer (some ⟨bc, 0, none⟩)] u w (fun e u' w' => u' = u ∧ Ret (fun v w' => v = .tuple #[] ∧ Upd (fun b => False) w w') e w') := by
 have HU := Upd.rno w
 refine CD_of_W func111 rfl ntmps111 (by simp) ?_
 refine W_seq (W_region ?_)
 refine Wl_load (v := .int .i64 er) isAgg26 rfl he rfl ?_
 refine Wl_v (r_ne rfl rfl) ?_
 refine Wl_nil ?_
 have q1 : ¬ (er ≠ 0) := (by simp [hq])
 rw [decide_eq_false q1]
 refine W_cond_f rfl ?_
 refine W_skip ?_
 refine cd_nrm (v := .tuple #[]) (res0 results111) ?_
 exact ⟨_, rfl, rfl, HU⟩
theorem readdBy_err {be bf bx bc pb : Nat} {x s : Value} {er at0 at1 : Int} (u : FrameMode) (w : World) (he : Blk w be [.int .i64 er]) (hf : Blk w bf [.int .i64 at0]) (hx : Blk w bx [x]) (hc : Blk w bc [.pointer (some ⟨pb, 0, none⟩)]) (hp : Blk w pb [s, .int .i64 at1]) (d1 : pb ≠ be ∧ pb ≠ bf ∧ pb ≠ bx ∧ pb ≠ bc ∧ bx ≠ be ∧ bx ≠ bf ∧ bx ≠ bc) (hq : er ≠ 0) :
  CD Tryd.prog 111 #[.pointer (some ⟨be, 0, none⟩), .pointer (some ⟨bf, 0, none⟩), .pointer (some ⟨bx, 0, none⟩), .pointer (some ⟨bc, 0, none⟩)] u w (fun e u' w' => u' = u ∧ Ret (fun v w' => v = .tuple #[] ∧ Blk w' be [.int .i64 er] ∧ Blk w' bx [.int .u8 0] ∧ Blk w' pb [s, .int .i64 at0] ∧ Upd (fun b => b = pb ∨ b = bx) w w') e w') := by
 have HU : Upd (fun b => b = pb ∨ b = bx) w w := Upd.refl _ _
 refine CD_of_W func111 rfl ntmps111 (by simp) ?_
 refine W_seq (W_region ?_)
 refine Wl_load (v := .int .i64 er) isAgg26 rfl he rfl ?_
 refine Wl_v (r_ne rfl rfl) ?_
 refine Wl_nil ?_
 have q1 : er ≠ 0 := hq
 rw [decide_eq_true q1]
 refine W_cond_t rfl ?_
 refine W_seq (W_region ?_)
 refine Was (.int .u8 0) ?_
 refine Wl_nil (W_region ?_)
 refine Wl_load (v := .pointer (some ⟨pb, 0, none⟩)) isAgg112 rfl hc rfl ?_
 refine Wmv (.int .u8 0) ?_
 refine Wl_load (v := .int .i64 at0) isAgg3 rfl hf rfl ?_
 refine Wl_store (v := .int .u8 0) (cs' := [.int .u8 0]) sizeOf5 rfl rfl rfl rfl hx rfl rfl ?_
 intro w1 hU1 hzz1 hxn
 replace hx := hxn; clear hxn
 have hzw1 := hU1.size
 replace he := he.upd1 hU1 (by omega)
 replace hp := hp.upd1 hU1 (by omega)
 replace HU := HU.trans1 hU1 (by show (bx = pb ∨ bx = bx) ∨ w.heap.size ≤ bx; omega)
 refine Wl_v (r_nil rfl) ?_
 refine Wl_v (r_fld underlying128 rfl sizeOf3 rfl rfl) ?_
 refine Wl_store (v := .int .i64 at0) (cs' := [s, .int .i64 at0]) sizeOf3 rfl rfl rfl rfl hp rfl rfl ?_
 intro w2 hU2 hzz2 hpn
 replace hp := hpn; clear hpn
 have hzw2 := hU2.size
 replace he := he.upd1 hU2 (by omega)
 replace hx := hx.upd1 hU2 (by omega)
 replace HU := HU.trans1 hU2 (by show (pb = pb ∨ pb = bx) ∨ w.heap.size ≤ pb; omega)
 refine Wl_nil ?_
 refine cd_nrm (v := .tuple #[]) (res0 results111) ?_
 exact ⟨_, rfl, rfl, he, hx, hp, HU⟩
theorem readBy_spec {pb gf : Nat} {caps : Array Value} {s : Value} {at0 : Int} {Φ : Value → Int → Int → World → World → Prop} (w : World) (hp : Blk w pb [s, .int .i64 at0]) (hgf : ∀ ar w, (callFunc gf ar).run Tryd.prog w = .ok (.enter gf ar) w) (hget : ∀ w1, Upd No w w1 → Calls Tryd.prog gf caps w1 (Ret fun v w2 => ∃ x er, v = .tuple #[x, .int .i64 er] ∧ x.cells = #[x] ∧ x.oneCell' = true ∧ ∃ at1, Blk w2 pb [s, .int .i64 at1] ∧ Upd (Is pb) w1 w2 ∧ Φ x er at1 w1 w2)) :
  Calls Tryd.prog 102 #[.pointer (some ⟨pb, 0, none⟩), .func (.func gf) #[] caps] w (Ret fun v w' => ∃ x er at1 w1 w2, v = .tuple #[if er = 0 then x else .int .u8 0, .int .i64 er] ∧ Blk w' pb [s, .int .i64 (if er = 0 then at1 else at0)] ∧ Upd No w w1 ∧ Φ x er at1 w1 w2 ∧ Upd (fun b => b = pb ∨ (w.heap.size ≤ b ∧ b < w1.heap.size)) w2 w' ∧ Upd (Is pb) w w') := by
 have HU : Upd (fun b => b = pb) w w := Upd.refl _ _
 have HN : Upd No w w := Upd.refl _ _
 have hpl := hp.lt
 refine calls_of_W func102 rfl ntmps102 (by simp) ?_
 refine W_seq (W_region ?_)
 refine Wl_box (v := .pointer (some ⟨pb, 0, none⟩)) (cs := [.pointer (some ⟨pb, 0, none⟩)]) rfl rfl ?_
 intro B1 w1 hB1 hU1 hzz1 hb1
 have hzw1 := hU1.size
 replace hp := hp.upd0 hU1
 replace HN := HN.trans0 hU1
 replace HU := HU.trans0 hU1
 refine Wl_alloc (cs := [.int .u8 0]) zeroValue5 rfl ?_
 intro B2 w2 hB2 hU2 hzz2 hb2
 have hzw2 := hU2.size
 replace hp := hp.upd0 hU2
 replace HN := HN.trans0 hU2
 replace HU := HU.trans0 hU2
 replace hb1 := hb1.upd0 hU2
 refine Wl_alloc (cs := [.int .i64 0]) zeroValue26 rfl ?_
 intro B3 w3 hB3 hU3 hzz3 hb3
 have hzw3 := hU3.size
 replace hp := hp.upd0 hU3
 replace HN := HN.trans0 hU3
 replace HU := HU.trans0 hU3
 replace hb1 := hb1.upd0 hU3
 replace hb2 := hb2.upd0 hU3
 refine Wl_nil (W_seq (W_seq (W_region ?_)))
 refine Wl_load (v := .pointer (some ⟨pb, 0, none⟩)) isAgg112 rfl hb1 rfl ?_
 refine Wl_v (r_eqpn_s underlying112 rfl rfl) ?_
 refine Wl_nil ?_
 refine W_cond_f rfl ?_
 refine W_skip (W_seq (W_region ?_))
 refine Wl_load (v := .pointer (some ⟨pb, 0, none⟩)) isAgg112 rfl hb1 rfl ?_
 refine Wl_v (r_nil rfl) ?_
 refine Wl_v (r_fld underlying128 rfl sizeOf3 rfl rfl) ?_
 refine Wl_load (v := .int .i64 at0) isAgg3 rfl hp rfl ?_
 refine Wl_alloc (cs := [.int .i64 0]) zeroValue3 rfl ?_
 intro B4 w4 hB4 hU4 hzz4 hb4
 have hzw4 := hU4.size
 replace hp := hp.upd0 hU4
 replace HN := HN.trans0 hU4
 replace HU := HU.trans0 hU4
 replace hb1 := hb1.upd0 hU4
 replace hb2 := hb2.upd0 hU4
 replace hb3 := hb3.upd0 hU4
 refine Wl_store (v := .int .i64 at0) (cs' := [.int .i64 at0]) sizeOf3 rfl rfl rfl rfl hb4 rfl rfl ?_
 intro w5 hU5 hzz5 hb4n
 replace hb4 := hb4n; clear hb4n
 have hzw5 := hU5.size
 replace hp := hp.upd1 hU5 (by omega)
 replace HN := HN.trans1 hU5 (by show (False) ∨ w.heap.size ≤ B4; omega)
 replace HU := HU.trans1 hU5 (by show (B4 = pb) ∨ w.heap.size ≤ B4; omega)
 replace hb1 := hb1.upd1 hU5 (by omega)
 replace hb2 := hb2.upd1 hU5 (by omega)
 replace hb3 := hb3.upd1 hU5 (by omega)
 refine Wl_nil (W_seq (W_region ?_))
 refine Wl_v (r_mkf4 (v0 := .pointer (some ⟨B3, 0, none⟩)) (v1 := .pointer (some ⟨B4, 0, none⟩)) (v2 := .pointer (some ⟨B2, 0, none⟩)) (v3 := .pointer (some ⟨B1, 0, none⟩)) rfl rfl rfl rfl) ?_
 refine Wl_defer rfl ?_
 refine Wl_nil (W_seq (W_region ?_))
 refine Wmv (.func (.func gf) #[] caps) ?_
 refine Wl_call (r_clos0 hgf rfl (by simp)) (hget w5 HN) ?_
 rintro v w6 ⟨x, er, rfl, hx1, hx2, at1, hpn, hU6, hΦ⟩
 have HP : Upd No w w5 := HN
 replace hp := hpn
 clear hpn
 have hzw6 := hU6.size
 replace HU := HU.trans1 hU6 (by show (pb = pb) ∨ w.heap.size ≤ pb; omega)
 replace hb1 := hb1.upd1 hU6 (by omega)
 replace hb2 := hb2.upd1 hU6 (by omega)
 replace hb3 := hb3.upd1 hU6 (by omega)
 replace hb4 := hb4.upd1 hU6 (by omega)
 have HX : Upd (fun b => b = pb ∨ (w.heap.size ≤ b ∧ b < w5.heap.size)) w6 w6 := Upd.refl _ _
 refine Wl_v (r_ext (v := x) rfl rfl) ?_
 refine Wl_v (r_ext (v := .int .i64 er) rfl rfl) ?_
 refine Wl_store (v := x) (cs' := [x]) sizeOf5 rfl rfl hx1 hx2 hb2 rfl rfl ?_
 intro w7 hU7 hzz7 hb2n
 replace hb2 := hb2n; clear hb2n
 have hzw7 := hU7.size
 replace hp := hp.upd1 hU7 (by omega)
 replace HU := HU.trans1 hU7 (by show (B2 = pb) ∨ w.heap.size ≤ B2; omega)
 replace hb1 := hb1.upd1 hU7 (by omega)
 replace hb3 := hb3.upd1 hU7 (by omega)
 replace hb4 := hb4.upd1 hU7 (by omega)
 replace HX := HX.trans1 hU7 (by show (B2 = pb ∨ (w.heap.size ≤ B2 ∧ B2 < w5.heap.size)) ∨ w6.heap.size ≤ B2; omega)
 refine Wl_store (v := .int .i64 er) (cs' := [.int .i64 er]) sizeOf26 rfl rfl rfl rfl hb3 rfl rfl ?_
 intro w8 hU8 hzz8 hb3n
 replace hb3 := hb3n; clear hb3n
 have hzw8 := hU8.size
 replace hp := hp.upd1 hU8 (by omega)
 replace HU := HU.trans1 hU8 (by show (B3 = pb) ∨ w.heap.size ≤ B3; omega)
 replace hb1 := hb1.upd1 hU8 (by omega)
 replace hb2 := hb2.upd1 hU8 (by omega)
 replace hb4 := hb4.upd1 hU8 (by omega)
 replace HX := HX.trans1 hU8 (by show (B3 = pb ∨ (w.heap.size ≤ B3 ∧ B3 < w5.heap.size)) ∨ w6.heap.size ≤ B3; omega)
 refine Wl_nil ?_
 refine W_ret ?_
 refine ret_ds rfl ?_
 by_cases hq : er = 0
 ·refine lv_call (by simp) call111 rfl (readdBy_ok _ _ hb3 hb4 hb2 hb1 hp (by omega) hq) ?_
  rintro e1 u1 w9 ⟨rfl, v1, rfl, rfl, hU9⟩
  have hzw9 := hU9.size
  replace hp := hp.upd0 hU9
  replace HU := HU.trans0 hU9
  replace hb2 := hb2.upd0 hU9
  replace hb3 := hb3.upd0 hU9
  replace HX := HX.trans0 hU9
  refine lv_nil (v := .tuple #[x, .int .i64 er]) (resc2 results102 rfl rfl isAgg5 isAgg26 hb2 hb3) ?_
  exact ⟨_, rfl, x, er, at1, w5, w6, by simp [hq], by simpa [hq] using hp, HP, hΦ, HX, HU⟩
 refine lv_call (by simp) call111 rfl (readdBy_err _ _ hb3 hb4 hb2 hb1 hp (by omega) hq) ?_
 rintro e1 u1 w9 ⟨rfl, v1, rfl, rfl, hee, hxx, hpp, hU9⟩
 have hzw9 := hU9.size
 replace HU := HU.trans hU9 (by intro x hx; have hx2 : x = pb ∨ x = B2 := hx; show (x = pb) ∨ w.heap.size ≤ x; omega)
 replace HX := HX.trans hU9 (by intro x hx; have hx2 : x = pb ∨ x = B2 := hx; show (x = pb ∨ (w.heap.size ≤ x ∧ x < w5.heap.size)) ∨ w6.heap.size ≤ x; omega)
 refine lv_nil (v := .tuple #[.int .u8 0, .int .i64 er]) (resc2 results102 rfl rfl isAgg5 isAgg26 hxx hee) ?_
 exact ⟨_, rfl, x, er, at1, w5, w6, by simp [hq], by simpa [hq] using hpp, HP, hΦ, HX, HU⟩
theorem new_spec {a : Option Addr} {m c : Nat} {bs : List Int} (w : World) (hs : Sl w (fun g => g < w.heap.size) 1 (.slice a m c) m (ints .u8 bs)) (hm : m ≤ 140737488355328) :
  Calls Tryd.prog 54 #[.slice a m c] w (Ret fun v w' => ∃ pb a' c', v = .pointer (some ⟨pb, 0, none⟩) ∧ Blk w' pb [.slice a' m c', .int .i64 0] ∧ Own w' (fun g => w.heap.size ≤ g ∧ g ≠ pb) 5 1 (.slice a' m c') m (ints .u8 bs) ∧ w.heap.size ≤ pb ∧ Upd No w w') := by
 have HU := Upd.rno w
 refine calls_of_W func54 rfl ntmps54 (by simp) ?_
 refine W_seq (W_region ?_)
 refine Was (.pointer none) ?_
 refine Wl_nil (W_seq (W_region ?_))
 refine Wmv (.slice a m c) ?_
 refine Wl_call (r_call1 rfl call63 rfl) (clone_spec _ hs one_ints (by omega)) ?_
 rintro v w1 ⟨a1, c1, rfl, hO, hU1⟩
 have hzw1 := hU1.size
 replace HU := HU.trans0 hU1
 replace hO := hO.tight
 refine Wl_v (r_build (pl := #[(0, 1), (1, 1)]) (pv := [(0, .slice a1 m c1)]) (cs := #[.slice a1 m c1, .int .i64 0]) zeroValue128 underlying128 (fun w => by kernel_rfl) (by simp only [List.map_toArray, List.map_cons, List.map_nil] <;> rfl) (by kernel_rfl)) ?_
 refine Wl_box (v := .agg #[.slice a1 m c1, .int .i64 0]) (cs := [.slice a1 m c1, .int .i64 0]) rfl rfl ?_
 intro B2 w2 hB2 hU2 hzz2 hb2
 have hzw2 := hU2.size
 replace HU := HU.trans0 hU2
 replace hO := hO.upd0 hU2
 refine Was (.pointer (some ⟨B2, 0, none⟩)) ?_
 refine Wl_nil ?_
 refine W_ret ?_
 refine ret_end (v := .pointer (some ⟨B2, 0, none⟩)) rfl (res1 results54 rfl) ?_
 exact ⟨_, rfl, _, _, _, rfl, hb2, hO.weak (by intro g hg; have h3 : ((w.heap.size ≤ g) ∧ g < w1.heap.size) := hg; show _ ∧ _; omega), by omega, HU⟩
theorem rgetword_spec {a : Option Addr} {n c p : Nat} {bs : List Int} (w : World) (hs : Sl w (fun g => g < w.heap.size) 1 (.slice a n c) n (ints .u8 bs)) (hb : Byt bs) (hpn : p ≤ n) (hn : n ≤ 140737488355328) :
  Calls Tryd.prog 39 #[.slice a n c, .int .i64 ((p : Nat) : Int)] w (Ret fun v w' => v = .tuple #[.int .u32 (gword bs p).1, .int .i64 ((gword bs p).2.1 : Nat), .int .i64 (gword bs p).2.2] ∧ Upd No w w') := by
 have HU := Upd.rno w
 have hl := ilen hs
 have hcap := hs.cap.1
 refine calls_of_W func39 rfl ntmps39 (by simp) ?_
 refine W_seq (W_region ?_)
 refine Was (.int .u32 0) ?_
 refine Was (.int .i64 0) ?_
 refine Was (.int .i64 0) ?_
 refine Wl_nil (W_seq (W_seq (W_region ?_)))
 refine Wmv (.slice a n c) ?_
 refine Wl_v (r_len underlying22 rfl) ?_
 refine Wmv (.int .i64 ((p : Nat) : Int)) ?_
 refine Wl_v (r_sub rfl rfl (wi64 (by omega) (by omega))) ?_
 refine Wl_v (r_lt rfl rfl) ?_
 refine Wl_nil ?_
 by_cases q1 : (((n : Nat) : Int) - ((p : Nat) : Int)) < 4
 ·rw [decide_eq_true q1]
  refine W_cond_t rfl ?_
  refine W_seq (W_region ?_)
  refine Wmv (.int .i64 ((p : Nat) : Int)) ?_
  refine Was (.int .u32 0) ?_
  refine Was (.int .i64 ((p : Nat) : Int)) ?_
  refine Was (.int .i64 3) ?_
  refine Wl_nil ?_
  refine W_ret ?_
  refine ret_end (v := .tuple #[.int .u32 0, .int .i64 ((p : Nat) : Int), .int .i64 3]) rfl (res3 results39 rfl rfl rfl) ?_
  exact ⟨_, rfl, by simp [gword, show bs.length < p + 4 from by omega], HU⟩
 rw [decide_eq_false q1]
 refine W_cond_f rfl ?_
 refine W_skip (W_seq (W_region ?_))
 refine Was (.int .u32 0) ?_
 refine Wl_nil (W_seq (W_seq (W_region ?_)))
 refine Was (.int .i64 3) ?_
 refine Wl_nil (W_block ?_)
 refine W_loop (fun mu ρ ds w' => ∃ (j : Nat), j = mu ∧ ds = [] ∧ Liv ρ [(0, .slice a n c), (1, .int .i64 ((p : Nat) : Int)), (4, .int .u32 0), (5, .int .i64 0), (6, .int .i64 0), (7, .int .u32 (wval (((bs.drop p).take 4).drop j))), (8, .int .i64 (((j : Nat) : Int) - 1))] ∧ j ≤ 4 ∧ Upd No w w') _ ⟨4, rfl, rfl, ⟨rfl, rfl, rfl, rfl, rfl, (Eq.trans (b := .int .u32 0) rfl (vint wval_end.symm)), (Eq.trans (b := .int .i64 3) rfl (vint (by omega))), trivial⟩, (by omega), Upd.refl _ _⟩ ?_
 rintro m1 ρ1 ds1 w1 ⟨j, rfl, rfl, hl1, hj4, hU1⟩
 obtain ⟨ρ1x, rfl⟩ : ∃ ρx, ρ1 = upds ρx [(0, .slice a n c), (1, .int .i64 ((p : Nat) : Int)), (4, .int .u32 0), (5, .int .i64 0), (6, .int .i64 0), (7, .int .u32 (wval (((bs.drop p).take 4).drop j))), (8, .int .i64 (((j : Nat) : Int) - 1))] := ⟨_, upds_self hl1⟩
 clear hl1
 have hzw1 := hU1.size
 replace hs := hs.upd0 hU1
 replace HU := HU.trans0 hU1
 have HL1 := hU1
 refine W_seq (W_seq (W_region ?_))
 refine Wmv (.int .i64 (((j : Nat) : Int) - 1)) ?_
 refine Wl_v (r_ge rfl rfl) ?_
 refine Wl_nil ?_
 by_cases q2 : 0 ≤ (((j : Nat) : Int) - 1)
 ·have hv := wval_next hb (p := p) (j := j) (by omega) (by omega) hj4
  have hx := byt_gd hb (p + (j - 1))
  rw [decide_eq_true q2]
  refine W_cond_t rfl ?_
  refine W_skip (W_seq (W_block (W_region ?_)))
  refine Wmv (.int .u32 (wval (((bs.drop p).take 4).drop j))) ?_
  refine Wl_v (r_mul rfl rfl (wu32 (by omega) (by omega))) ?_
  refine Wmv (.slice a n c) ?_
  refine Wmv (.int .i64 ((p : Nat) : Int)) ?_
  refine Wmv (.int .i64 (((j : Nat) : Int) - 1)) ?_
  refine Wl_v (r_add rfl rfl (wi64 (by omega) (by omega))) ?_
  refine Wl_idxi underlying22 sizeOf5 rfl rfl hs (by omega) (by omega) ?_
  intro ib2 io2 hc2
  rw [show (((p : Nat) : Int) + (((j : Nat) : Int) - 1)).toNat = p + (j - 1) from by omega] at hc2
  refine Wl_loadc isAgg5 rfl hc2 ?_
  refine Wl_v (r_cvt underlying5 underlying39 rfl (wu32 (by omega) (by omega))) ?_
  refine Wl_v (r_add rfl rfl (wu32 (by omega) (by omega))) ?_
  refine Was (.int .u32 ((256 * (wval (((bs.drop p).take 4).drop j))) + (bs.getD (p + (j - 1)) 0))) ?_
  refine Wl_nil (W_region ?_)
  refine Wmv (.int .i64 (((j : Nat) : Int) - 1)) ?_
  refine Wl_v (r_sub rfl rfl (wi64 (by omega) (by omega))) ?_
  refine Was (.int .i64 ((((j : Nat) : Int) - 1) - 1)) ?_
  refine Wl_nil ?_
  refine ⟨_, ?_, (j - 1), rfl, rfl, ⟨rfl, rfl, rfl, rfl, rfl, (Eq.trans (b := .int .u32 ((256 * (wval (((bs.drop p).take 4).drop j))) + (bs.getD (p + (j - 1)) 0))) rfl (vint (by omega))), (Eq.trans (b := .int .i64 ((((j : Nat) : Int) - 1) - 1)) rfl (vint (by omega))), trivial⟩, (by omega), HL1⟩
  omega
 rw [decide_eq_false q2]
 refine W_cond_f rfl ?_
 refine W_exit ?_
 refine W_seq (W_region ?_)
 refine Wmv (.int .u32 (wval (((bs.drop p).take 4).drop j))) ?_
 refine Wmv (.int .i64 ((p : Nat) : Int)) ?_
 refine Wl_v (r_add rfl rfl (wi64 (by omega) (by omega))) ?_
 refine Was (.int .u32 (wval (((bs.drop p).take 4).drop j))) ?_
 refine Was (.int .i64 (((p : Nat) : Int) + 4)) ?_
 refine Was (.int .i64 0) ?_
 refine Wl_nil ?_
 refine W_ret ?_
 refine ret_end (v := .tuple #[.int .u32 (wval (((bs.drop p).take 4).drop j)), .int .i64 (((p : Nat) : Int) + 4), .int .i64 0]) rfl (res3 results39 rfl rfl rfl) ?_
 have hj0 : j = 0 := by omega
 subst hj0
 exact ⟨_, rfl, by simp [gword, show ¬ bs.length < p + 4 from by omega], HU⟩
theorem rget_spec {a : Option Addr} {n c p : Nat} {bs : List Int} (w : World) (hs : Sl w (fun g => g < w.heap.size) 1 (.slice a n c) n (ints .u8 bs)) (hb : Byt bs) (hpn : p ≤ n) (hn : n ≤ 140737488355328) :
  Calls Tryd.prog 58 #[.slice a n c, .int .i64 ((p : Nat) : Int)] w (Ret fun v w' => v = .tuple #[.int .u64 (gvar bs p).1, .int .i64 ((gvar bs p).2.1 : Nat), .int .i64 (gvar bs p).2.2] ∧ Upd No w w') := by
 have HU := Upd.rno w
 have hl := ilen hs
 have hcap := hs.cap.1
 refine calls_of_W func58 rfl ntmps58 (by simp) ?_
 refine W_seq (W_region ?_)
 refine Was (.int .u64 0) ?_
 refine Was (.int .i64 0) ?_
 refine Was (.int .i64 0) ?_
 refine Wl_nil (W_seq (W_region ?_))
 refine Was (.int .i64 0) ?_
 refine Wl_nil (W_seq (W_block ?_))
 refine W_loop (fun mu ρ ds w' => ∃ (k : Nat), 9 - k = mu ∧ ds = [] ∧ Liv ρ [(0, .slice a n c), (1, .int .i64 ((p : Nat) : Int)), (4, .int .u64 0), (5, .int .i64 0), (6, .int .i64 0), (7, .int .i64 ((k : Nat) : Int))] ∧ k ≤ 9 ∧ p + k ≤ n ∧ (∀ i, i < k → 128 ≤ bs.getD (p + i) 0) ∧ Upd No w w') _ ⟨0, rfl, rfl, ⟨rfl, rfl, rfl, rfl, rfl, (by first | rfl | exact vint (by omega) | exact vint (by simp)), trivial⟩, (by omega), (by omega), (fun i hi => absurd hi (by omega)), Upd.refl _ _⟩ ?_
 rintro m1 ρ1 ds1 w1 ⟨k, rfl, rfl, hl1, hk9, hpk, hall, hU1⟩
 obtain ⟨ρ1x, rfl⟩ : ∃ ρx, ρ1 = upds ρx [(0, .slice a n c), (1, .int .i64 ((p : Nat) : Int)), (4, .int .u64 0), (5, .int .i64 0), (6, .int .i64 0), (7, .int .i64 ((k : Nat) : Int))] := ⟨_, upds_self hl1⟩
 clear hl1
 have hzw1 := hU1.size
 replace hs := hs.upd0 hU1
 replace HU := HU.trans0 hU1
 have HL1 := hU1
 refine W_seq (W_seq (W_region ?_))
 refine Wmv (.int .i64 ((k : Nat) : Int)) ?_
 refine Wl_v (r_lt rfl rfl) ?_
 refine Wmv (.bool (decide (((k : Nat) : Int) < 9))) ?_
 by_cases q1 : ((k : Nat) : Int) < 9
 ·rw [decide_eq_true q1]
  refine Wl_guard_t rfl ?_
  refine Wmv (.int .i64 ((p : Nat) : Int)) ?_
  refine Wl_guard_t rfl ?_
  refine Wmv (.int .i64 ((k : Nat) : Int)) ?_
  refine Wl_guard_t rfl ?_
  refine Wl_v (r_add rfl rfl (wi64 (by omega) (by omega))) ?_
  refine Wl_guard_t rfl ?_
  refine Wmv (.slice a n c) ?_
  refine Wl_guard_t rfl ?_
  refine Wl_v (r_len underlying22 rfl) ?_
  refine Wl_guard_t rfl ?_
  refine Wl_v (r_lt rfl rfl) ?_
  refine Wl_v (r_pick_t (v := .bool (decide ((((p : Nat) : Int) + ((k : Nat) : Int)) < ((n : Nat) : Int)))) rfl rfl) ?_
  refine Wmv (.bool (decide ((((p : Nat) : Int) + ((k : Nat) : Int)) < ((n : Nat) : Int)))) ?_
  by_cases q2 : (((p : Nat) : Int) + ((k : Nat) : Int)) < ((n : Nat) : Int)
  ·rw [decide_eq_true q2]
   refine Wl_guard_t rfl ?_
   refine Wmv (.slice a n c) ?_
   refine Wl_guard_t rfl ?_
   refine Wmv (.int .i64 ((p : Nat) : Int)) ?_
   refine Wl_guard_t rfl ?_
   refine Wmv (.int .i64 ((k : Nat) : Int)) ?_
   refine Wl_guard_t rfl ?_
   refine Wl_v (r_add rfl rfl (wi64 (by omega) (by omega))) ?_
   refine Wl_guard_t rfl ?_
   refine Wl_idxi underlying22 sizeOf5 rfl rfl hs (by omega) (by omega) ?_
   intro ib2 io2 hc2
   rw [show (((p : Nat) : Int) + ((k : Nat) : Int)).toNat = p + k from by omega] at hc2
   have hc2x := byt_gd hb (p + k)
   refine Wl_guard_t rfl ?_
   refine Wl_loadc isAgg5 rfl hc2 ?_
   refine Wl_guard_t rfl ?_
   refine Wl_v (r_ge rfl rfl) ?_
   refine Wl_v (r_pick_t (v := .bool (decide (128 ≤ (bs.getD (p + k) 0)))) rfl rfl) ?_
   refine Wl_nil ?_
   by_cases q3 : 128 ≤ (bs.getD (p + k) 0)
   ·rw [decide_eq_true q3]
    refine W_cond_t rfl ?_
    refine W_skip (W_block (W_region ?_))
    refine Wmv (.int .i64 ((k : Nat) : Int)) ?_
    refine Wl_v (r_add rfl rfl (wi64 (by omega) (by omega))) ?_
    refine Was (.int .i64 (((k : Nat) : Int) + 1)) ?_
    refine Wl_nil ?_
    refine ⟨_, ?_, (k + 1), rfl, rfl, ⟨rfl, rfl, rfl, rfl, rfl, (by first | rfl | exact vint (by omega) | exact vint (by simp)), trivial⟩, (by omega), (by omega), (fun i hi => by rcases Nat.lt_or_ge i k with h | h; exact hall i h; rw [show i = k from by omega]; exact q3), HL1⟩
    omega
   rw [decide_eq_false q3]
   refine W_cond_f rfl ?_
   refine W_exit ?_
   refine W_seq (W_seq (W_region ?_))
   refine Wmv (.int .i64 ((k : Nat) : Int)) ?_
   refine Wl_v (r_eq rfl rfl) ?_
   refine Wl_nil ?_
   have q4 : ¬ (((k : Nat) : Int) = 9) := (by omega)
   rw [decide_eq_false q4]
   refine W_cond_f rfl ?_
   refine W_skip (W_seq (W_seq (W_region ?_)))
   refine Wmv (.int .i64 ((p : Nat) : Int)) ?_
   refine Wmv (.int .i64 ((k : Nat) : Int)) ?_
   refine Wl_v (r_add rfl rfl (wi64 (by omega) (by omega))) ?_
   refine Wmv (.slice a n c) ?_
   refine Wl_v (r_len underlying22 rfl) ?_
   refine Wl_v (r_ge rfl rfl) ?_
   refine Wl_nil ?_
   have q5 : ¬ (((n : Nat) : Int) ≤ (((p : Nat) : Int) + ((k : Nat) : Int))) := (by omega)
   rw [decide_eq_false q5]
   refine W_cond_f rfl ?_
   refine W_skip (W_seq (W_seq (W_region ?_)))
   refine Wmv (.int .i64 ((k : Nat) : Int)) ?_
   refine Wl_v (r_gt rfl rfl) ?_
   refine Wmv (.bool (decide (0 < ((k : Nat) : Int)))) ?_
   by_cases q6 : 0 < ((k : Nat) : Int)
   ·rw [decide_eq_true q6]
    refine Wl_guard_t rfl ?_
    refine Wmv (.slice a n c) ?_
    refine Wl_guard_t rfl ?_
    refine Wmv (.int .i64 ((p : Nat) : Int)) ?_
    refine Wl_guard_t rfl ?_
    refine Wmv (.int .i64 ((k : Nat) : Int)) ?_
    refine Wl_guard_t rfl ?_
    refine Wl_v (r_add rfl rfl (wi64 (by omega) (by omega))) ?_
    refine Wl_guard_t rfl ?_
    refine Wl_idxi underlying22 sizeOf5 rfl rfl hs (by omega) (by omega) ?_
    intro ib3 io3 hc3
    rw [show (((p : Nat) : Int) + ((k : Nat) : Int)).toNat = p + k from by omega] at hc3
    have hc3x := byt_gd hb (p + k)
    refine Wl_guard_t rfl ?_
    refine Wl_loadc isAgg5 rfl hc3 ?_
    refine Wl_guard_t rfl ?_
    refine Wl_v (r_eq rfl rfl) ?_
    refine Wl_v (r_pick_t (v := .bool (decide ((bs.getD (p + k) 0) = 0))) rfl rfl) ?_
    refine Wl_nil ?_
    by_cases q7 : (bs.getD (p + k) 0) = 0
    ·have hg := gvar_min (p := p) (k := k) (by omega) (by omega) hall (by omega) q7
     rw [decide_eq_true q7]
     refine W_cond_t rfl ?_
     refine W_seq (W_region ?_)
     refine Wmv (.int .i64 ((p : Nat) : Int)) ?_
     refine Was (.int .u64 0) ?_
     refine Was (.int .i64 ((p : Nat) : Int)) ?_
     refine Was (.int .i64 5) ?_
     refine Wl_nil ?_
     refine W_ret ?_
     refine ret_end (v := .tuple #[.int .u64 0, .int .i64 ((p : Nat) : Int), .int .i64 5]) rfl (res3 results58 rfl rfl rfl) ?_
     rw [hg]
     exact ⟨_, rfl, rfl, HU⟩
    have hg := gvar_else (p := p) (k := k) (by omega) (by omega) hall (by omega) (by omega)
    rw [decide_eq_false q7]
    refine W_cond_f rfl ?_
    refine W_skip (W_seq (W_region ?_))
    refine Was (.int .u64 0) ?_
    refine Wl_nil (W_seq (W_seq (W_region ?_)))
    refine Wmv (.int .i64 ((k : Nat) : Int)) ?_
    refine Was (.int .i64 ((k : Nat) : Int)) ?_
    refine Wl_nil (W_block ?_)
    refine W_loop (fun mu ρ ds w' => ∃ (j : Nat), j = mu ∧ ds = [] ∧ Liv ρ [(0, .slice a n c), (1, .int .i64 ((p : Nat) : Int)), (4, .int .u64 0), (5, .int .i64 0), (6, .int .i64 0), (7, .int .i64 ((k : Nat) : Int)), (8, .int .u64 (val (((bs.drop p).take (k + 1)).drop j))), (9, .int .i64 (((j : Nat) : Int) - 1))] ∧ j ≤ k + 1 ∧ Upd No w1 w') _ ⟨(k + 1), rfl, rfl, ⟨rfl, rfl, rfl, rfl, rfl, rfl, (Eq.trans (b := .int .u64 0) rfl (vint val_end.symm)), (Eq.trans (b := .int .i64 ((k : Nat) : Int)) rfl (vint (by omega))), trivial⟩, (by omega), Upd.refl _ _⟩ ?_
    rintro m4 ρ4 ds4 w4 ⟨j, rfl, rfl, hl4, hj, hU4⟩
    obtain ⟨ρ4x, rfl⟩ : ∃ ρx, ρ4 = upds ρx [(0, .slice a n c), (1, .int .i64 ((p : Nat) : Int)), (4, .int .u64 0), (5, .int .i64 0), (6, .int .i64 0), (7, .int .i64 ((k : Nat) : Int)), (8, .int .u64 (val (((bs.drop p).take (k + 1)).drop j))), (9, .int .i64 (((j : Nat) : Int) - 1))] := ⟨_, upds_self hl4⟩
    clear hl4
    have hzw4 := hU4.size
    replace hs := hs.upd0 hU4
    replace HU := HU.trans0 hU4
    have HL4 := hU4
    refine W_seq (W_seq (W_region ?_))
    refine Wmv (.int .i64 (((j : Nat) : Int) - 1)) ?_
    refine Wl_v (r_ge rfl rfl) ?_
    refine Wl_nil ?_
    by_cases q8 : 0 ≤ (((j : Nat) : Int) - 1)
    ·have hv := val_next (bs := bs) (p := p) (k := k) (j := j) (by omega) (by omega) hj (by omega)
     rw [decide_eq_true q8]
     refine W_cond_t rfl ?_
     refine W_skip (W_seq (W_block (W_region ?_)))
     refine Wmv (.int .u64 (val (((bs.drop p).take (k + 1)).drop j))) ?_
     refine Wl_v (r_mul rfl rfl (wu64 (by omega) (by omega))) ?_
     refine Wmv (.slice a n c) ?_
     refine Wmv (.int .i64 ((p : Nat) : Int)) ?_
     refine Wmv (.int .i64 (((j : Nat) : Int) - 1)) ?_
     refine Wl_v (r_add rfl rfl (wi64 (by omega) (by omega))) ?_
     refine Wl_idxi underlying22 sizeOf5 rfl rfl hs (by omega) (by omega) ?_
     intro ib5 io5 hc5
     rw [show (((p : Nat) : Int) + (((j : Nat) : Int) - 1)).toNat = p + (j - 1) from by omega] at hc5
     have hc5x := byt_gd hb (p + (j - 1))
     refine Wl_loadc isAgg5 rfl hc5 ?_
     refine Wl_v (r_rem rfl rfl (by omega) (tr (by omega))) ?_
     refine Wl_v (r_cvt underlying5 underlying93 rfl (wu64 (by omega) (by omega))) ?_
     refine Wl_v (r_add rfl rfl (wu64 (by omega) (by omega))) ?_
     refine Was (.int .u64 ((128 * (val (((bs.drop p).take (k + 1)).drop j))) + ((bs.getD (p + (j - 1)) 0) % 128))) ?_
     refine Wl_nil (W_region ?_)
     refine Wmv (.int .i64 (((j : Nat) : Int) - 1)) ?_
     refine Wl_v (r_sub rfl rfl (wi64 (by omega) (by omega))) ?_
     refine Was (.int .i64 ((((j : Nat) : Int) - 1) - 1)) ?_
     refine Wl_nil ?_
     refine ⟨_, ?_, (j - 1), rfl, rfl, ⟨rfl, rfl, rfl, rfl, rfl, rfl, (Eq.trans (b := .int .u64 ((128 * (val (((bs.drop p).take (k + 1)).drop j))) + ((bs.getD (p + (j - 1)) 0) % 128))) rfl (vint (by omega))), (Eq.trans (b := .int .i64 ((((j : Nat) : Int) - 1) - 1)) rfl (vint (by omega))), trivial⟩, (by omega), HL4⟩
     omega
    rw [decide_eq_false q8]
    have hj0 : j = 0 := by omega
    rw [hj0, List.drop_zero]
    refine W_cond_f rfl ?_
    refine W_exit ?_
    refine W_seq (W_seq (W_region ?_))
    refine Wmv (.int .u64 (val ((bs.drop p).take (k + 1)))) ?_
    refine Wl_v (r_gt rfl rfl) ?_
    refine Wl_nil ?_
    by_cases q9 : 4611686018427387903 < (val ((bs.drop p).take (k + 1)))
    ·rw [decide_eq_true q9]
     refine W_cond_t rfl ?_
     refine W_seq (W_region ?_)
     refine Wmv (.int .i64 ((p : Nat) : Int)) ?_
     refine Was (.int .u64 0) ?_
     refine Was (.int .i64 ((p : Nat) : Int)) ?_
     refine Was (.int .i64 18) ?_
     refine Wl_nil ?_
     refine W_ret ?_
     refine ret_end (v := .tuple #[.int .u64 0, .int .i64 ((p : Nat) : Int), .int .i64 18]) rfl (res3 results58 rfl rfl rfl) ?_
     rw [hg]
     rw [if_pos q9]
     exact ⟨_, rfl, rfl, HU⟩
    rw [decide_eq_false q9]
    refine W_cond_f rfl ?_
    refine W_skip (W_seq (W_region ?_))
    refine Wmv (.int .u64 (val ((bs.drop p).take (k + 1)))) ?_
    refine Wmv (.int .i64 ((p : Nat) : Int)) ?_
    refine Wmv (.int .i64 ((k : Nat) : Int)) ?_
    refine Wl_v (r_add rfl rfl (wi64 (by omega) (by omega))) ?_
    refine Wl_v (r_add rfl rfl (wi64 (by omega) (by omega))) ?_
    refine Was (.int .u64 (val ((bs.drop p).take (k + 1)))) ?_
    refine Was (.int .i64 ((((p : Nat) : Int) + ((k : Nat) : Int)) + 1)) ?_
    refine Was (.int .i64 0) ?_
    refine Wl_nil ?_
    refine W_ret ?_
    refine ret_end (v := .tuple #[.int .u64 (val ((bs.drop p).take (k + 1))), .int .i64 ((((p : Nat) : Int) + ((k : Nat) : Int)) + 1), .int .i64 0]) rfl (res3 results58 rfl rfl rfl) ?_
    rw [hg]
    rw [if_neg q9]
    exact ⟨_, rfl, rfl, HU⟩
   have hg := gvar_else (p := p) (k := k) (by omega) (by omega) hall (by omega) (by omega)
   rw [decide_eq_false q6]
   refine Wl_guard_f rfl (Wl_guard_f rfl (Wl_guard_f rfl (Wl_guard_f rfl (Wl_guard_f rfl (Wl_guard_f rfl (Wl_guard_f rfl ?_))))))
   refine Wl_v (r_pick_f (v := .bool false) rfl rfl) ?_
   refine Wl_nil ?_
   refine W_cond_f rfl ?_
   refine W_skip (W_seq (W_region ?_))
   refine Was (.int .u64 0) ?_
   refine Wl_nil (W_seq (W_seq (W_region ?_)))
   refine Wmv (.int .i64 ((k : Nat) : Int)) ?_
   refine Was (.int .i64 ((k : Nat) : Int)) ?_
   refine Wl_nil (W_block ?_)
   refine W_loop (fun mu ρ ds w' => ∃ (j : Nat), j = mu ∧ ds = [] ∧ Liv ρ [(0, .slice a n c), (1, .int .i64 ((p : Nat) : Int)), (4, .int .u64 0), (5, .int .i64 0), (6, .int .i64 0), (7, .int .i64 ((k : Nat) : Int)), (8, .int .u64 (val (((bs.drop p).take (k + 1)).drop j))), (9, .int .i64 (((j : Nat) : Int) - 1))] ∧ j ≤ k + 1 ∧ Upd No w1 w') _ ⟨(k + 1), rfl, rfl, ⟨rfl, rfl, rfl, rfl, rfl, rfl, (Eq.trans (b := .int .u64 0) rfl (vint val_end.symm)), (Eq.trans (b := .int .i64 ((k : Nat) : Int)) rfl (vint (by omega))), trivial⟩, (by omega), Upd.refl _ _⟩ ?_
   rintro m6 ρ6 ds6 w6 ⟨j, rfl, rfl, hl6, hj, hU6⟩
   obtain ⟨ρ6x, rfl⟩ : ∃ ρx, ρ6 = upds ρx [(0, .slice a n c), (1, .int .i64 ((p : Nat) : Int)), (4, .int .u64 0), (5, .int .i64 0), (6, .int .i64 0), (7, .int .i64 ((k : Nat) : Int)), (8, .int .u64 (val (((bs.drop p).take (k + 1)).drop j))), (9, .int .i64 (((j : Nat) : Int) - 1))] := ⟨_, upds_self hl6⟩
   clear hl6
   have hzw6 := hU6.size
   replace hs := hs.upd0 hU6
   replace HU := HU.trans0 hU6
   have HL6 := hU6
   refine W_seq (W_seq (W_region ?_))
   refine Wmv (.int .i64 (((j : Nat) : Int) - 1)) ?_
   refine Wl_v (r_ge rfl rfl) ?_
   refine Wl_nil ?_
   by_cases q10 : 0 ≤ (((j : Nat) : Int) - 1)
   ·have hv := val_next (bs := bs) (p := p) (k := k) (j := j) (by omega) (by omega) hj (by omega)
    rw [decide_eq_true q10]
    refine W_cond_t rfl ?_
    refine W_skip (W_seq (W_block (W_region ?_)))
    refine Wmv (.int .u64 (val (((bs.drop p).take (k + 1)).drop j))) ?_
    refine Wl_v (r_mul rfl rfl (wu64 (by omega) (by omega))) ?_
    refine Wmv (.slice a n c) ?_
    refine Wmv (.int .i64 ((p : Nat) : Int)) ?_
    refine Wmv (.int .i64 (((j : Nat) : Int) - 1)) ?_
    refine Wl_v (r_add rfl rfl (wi64 (by omega) (by omega))) ?_
    refine Wl_idxi underlying22 sizeOf5 rfl rfl hs (by omega) (by omega) ?_
    intro ib7 io7 hc7
    rw [show (((p : Nat) : Int) + (((j : Nat) : Int) - 1)).toNat = p + (j - 1) from by omega] at hc7
    have hc7x := byt_gd hb (p + (j - 1))
    refine Wl_loadc isAgg5 rfl hc7 ?_
    refine Wl_v (r_rem rfl rfl (by omega) (tr (by omega))) ?_
    refine Wl_v (r_cvt underlying5 underlying93 rfl (wu64 (by omega) (by omega))) ?_
    refine Wl_v (r_add rfl rfl (wu64 (by omega) (by omega))) ?_
    refine Was (.int .u64 ((128 * (val (((bs.drop p).take (k + 1)).drop j))) + ((bs.getD (p + (j - 1)) 0) % 128))) ?_
    refine Wl_nil (W_region ?_)
    refine Wmv (.int .i64 (((j : Nat) : Int) - 1)) ?_
    refine Wl_v (r_sub rfl rfl (wi64 (by omega) (by omega))) ?_
    refine Was (.int .i64 ((((j : Nat) : Int) - 1) - 1)) ?_
    refine Wl_nil ?_
    refine ⟨_, ?_, (j - 1), rfl, rfl, ⟨rfl, rfl, rfl, rfl, rfl, rfl, (Eq.trans (b := .int .u64 ((128 * (val (((bs.drop p).take (k + 1)).drop j))) + ((bs.getD (p + (j - 1)) 0) % 128))) rfl (vint (by omega))), (Eq.trans (b := .int .i64 ((((j : Nat) : Int) - 1) - 1)) rfl (vint (by omega))), trivial⟩, (by omega), HL6⟩
    omega
   rw [decide_eq_false q10]
   have hj0 : j = 0 := by omega
   rw [hj0, List.drop_zero]
   refine W_cond_f rfl ?_
   refine W_exit ?_
   refine W_seq (W_seq (W_region ?_))
   refine Wmv (.int .u64 (val ((bs.drop p).take (k + 1)))) ?_
   refine Wl_v (r_gt rfl rfl) ?_
   refine Wl_nil ?_
   by_cases q11 : 4611686018427387903 < (val ((bs.drop p).take (k + 1)))
   ·rw [decide_eq_true q11]
    refine W_cond_t rfl ?_
    refine W_seq (W_region ?_)
    refine Wmv (.int .i64 ((p : Nat) : Int)) ?_
    refine Was (.int .u64 0) ?_
    refine Was (.int .i64 ((p : Nat) : Int)) ?_
    refine Was (.int .i64 18) ?_
    refine Wl_nil ?_
    refine W_ret ?_
    refine ret_end (v := .tuple #[.int .u64 0, .int .i64 ((p : Nat) : Int), .int .i64 18]) rfl (res3 results58 rfl rfl rfl) ?_
    rw [hg]
    rw [if_pos q11]
    exact ⟨_, rfl, rfl, HU⟩
   rw [decide_eq_false q11]
   refine W_cond_f rfl ?_
   refine W_skip (W_seq (W_region ?_))
   refine Wmv (.int .u64 (val ((bs.drop p).take (k + 1)))) ?_
   refine Wmv (.int .i64 ((p : Nat) : Int)) ?_
   refine Wmv (.int .i64 ((k : Nat) : Int)) ?_
   refine Wl_v (r_add rfl rfl (wi64 (by omega) (by omega))) ?_
   refine Wl_v (r_add rfl rfl (wi64 (by omega) (by omega))) ?_
   refine Was (.int .u64 (val ((bs.drop p).take (k + 1)))) ?_
   refine Was (.int .i64 ((((p : Nat) : Int) + ((k : Nat) : Int)) + 1)) ?_
   refine Was (.int .i64 0) ?_
   refine Wl_nil ?_
   refine W_ret ?_
   refine ret_end (v := .tuple #[.int .u64 (val ((bs.drop p).take (k + 1))), .int .i64 ((((p : Nat) : Int) + ((k : Nat) : Int)) + 1), .int .i64 0]) rfl (res3 results58 rfl rfl rfl) ?_
   rw [hg]
   rw [if_neg q11]
   exact ⟨_, rfl, rfl, HU⟩
  have hg := gvar_short (p := p) (k := k) (by omega) (by omega) hall
  rw [decide_eq_false q2]
  refine Wl_guard_f rfl (Wl_guard_f rfl (Wl_guard_f rfl (Wl_guard_f rfl (Wl_guard_f rfl (Wl_guard_f rfl (Wl_guard_f rfl ?_))))))
  refine Wl_v (r_pick_f (v := .bool false) rfl rfl) ?_
  refine Wl_nil ?_
  refine W_cond_f rfl ?_
  refine W_exit ?_
  refine W_seq (W_seq (W_region ?_))
  refine Wmv (.int .i64 ((k : Nat) : Int)) ?_
  refine Wl_v (r_eq rfl rfl) ?_
  refine Wl_nil ?_
  have q12 : ¬ (((k : Nat) : Int) = 9) := (by omega)
  rw [decide_eq_false q12]
  refine W_cond_f rfl ?_
  refine W_skip (W_seq (W_seq (W_region ?_)))
  refine Wmv (.int .i64 ((p : Nat) : Int)) ?_
  refine Wmv (.int .i64 ((k : Nat) : Int)) ?_
  refine Wl_v (r_add rfl rfl (wi64 (by omega) (by omega))) ?_
  refine Wmv (.slice a n c) ?_
  refine Wl_v (r_len underlying22 rfl) ?_
  refine Wl_v (r_ge rfl rfl) ?_
  refine Wl_nil ?_
  have q13 : ((n : Nat) : Int) ≤ (((p : Nat) : Int) + ((k : Nat) : Int)) := (by omega)
  rw [decide_eq_true q13]
  refine W_cond_t rfl ?_
  refine W_seq (W_region ?_)
  refine Wmv (.int .i64 ((p : Nat) : Int)) ?_
  refine Was (.int .u64 0) ?_
  refine Was (.int .i64 ((p : Nat) : Int)) ?_
  refine Was (.int .i64 3) ?_
  refine Wl_nil ?_
  refine W_ret ?_
  refine ret_end (v := .tuple #[.int .u64 0, .int .i64 ((p : Nat) : Int), .int .i64 3]) rfl (res3 results58 rfl rfl rfl) ?_
  rw [hg]
  exact ⟨_, rfl, rfl, HU⟩
 have hg := gvar_long (p := p) (k := k) (by omega) hk9 hall (by omega)
 rw [decide_eq_false q1]
 refine Wl_guard_f rfl (Wl_guard_f rfl (Wl_guard_f rfl (Wl_guard_f rfl (Wl_guard_f rfl (Wl_guard_f rfl ?_)))))
 refine Wl_v (r_pick_f (v := .bool false) rfl rfl) ?_
 refine Wmv (.bool false) ?_
 refine Wl_guard_f rfl (Wl_guard_f rfl (Wl_guard_f rfl (Wl_guard_f rfl (Wl_guard_f rfl (Wl_guard_f rfl (Wl_guard_f rfl ?_))))))
 refine Wl_v (r_pick_f (v := .bool false) rfl rfl) ?_
 refine Wl_nil ?_
 refine W_cond_f rfl ?_
 refine W_exit ?_
 refine W_seq (W_seq (W_region ?_))
 refine Wmv (.int .i64 ((k : Nat) : Int)) ?_
 refine Wl_v (r_eq rfl rfl) ?_
 refine Wl_nil ?_
 have q14 : ((k : Nat) : Int) = 9 := (by omega)
 rw [decide_eq_true q14]
 refine W_cond_t rfl ?_
 refine W_seq (W_region ?_)
 refine Wmv (.int .i64 ((p : Nat) : Int)) ?_
 refine Was (.int .u64 0) ?_
 refine Was (.int .i64 ((p : Nat) : Int)) ?_
 refine Was (.int .i64 18) ?_
 refine Wl_nil ?_
 refine W_ret ?_
 refine ret_end (v := .tuple #[.int .u64 0, .int .i64 ((p : Nat) : Int), .int .i64 18]) rfl (res3 results58 rfl rfl rfl) ?_
 rw [hg]
 exact ⟨_, rfl, rfl, HU⟩
theorem rbytes_spec {a : Option Addr} {n c p : Nat} {bs : List Int} {k : Int} {R : Nat → Prop} (w : World) (hs : Sl w R 1 (.slice a n c) n (ints .u8 bs)) (hb : Byt bs) (hpn : p ≤ n) (hn : n ≤ 140737488355328) :
  Calls Tryd.prog 40 #[.slice a n c, .int .i64 ((p : Nat) : Int), .int .i64 k] w (Ret fun v w' => ∃ a' m' c', v = .tuple #[.slice a' m' c', .int .i64 ((gbytes bs p k).2.1 : Nat), .int .i64 (gbytes bs p k).2.2] ∧ Sl w' R 1 (.slice a' m' c') m' (ints .u8 (gbytes bs p k).1) ∧ (gbytes bs p k).1.length = m' ∧ Upd No w w') := by
 have HU := Upd.rno w
 have hl := ilen hs
 have hcap := hs.cap.1
 refine calls_of_W func40 rfl ntmps40 (by simp) ?_
 refine W_seq (W_region ?_)
 refine Was (.slice none 0 0) ?_
 refine Was (.int .i64 0) ?_
 refine Was (.int .i64 0) ?_
 refine Wl_nil (W_seq (W_seq (W_region ?_)))
 refine Wmv (.int .i64 k) ?_
 refine Wl_v (r_lt rfl rfl) ?_
 refine Wl_nil ?_
 by_cases q1 : k < 0
 ·rw [decide_eq_true q1]
  refine W_cond_t rfl ?_
  refine W_seq (W_region ?_)
  refine Wmv (.int .i64 ((p : Nat) : Int)) ?_
  refine Was (.slice none 0 0) ?_
  refine Was (.int .i64 ((p : Nat) : Int)) ?_
  refine Was (.int .i64 2) ?_
  refine Wl_nil ?_
  refine W_ret ?_
  refine ret_end (v := .tuple #[.slice none 0 0, .int .i64 ((p : Nat) : Int), .int .i64 2]) rfl (res3 results40 rfl rfl rfl) ?_
  rw [gbytes_neg (by omega)]
  exact ⟨_, rfl, none, 0, 0, rfl, Sl.nil _ _ _, rfl, HU⟩
 rw [decide_eq_false q1]
 refine W_cond_f rfl ?_
 refine W_skip (W_seq (W_seq (W_region ?_)))
 refine Wmv (.int .i64 k) ?_
 refine Wmv (.slice a n c) ?_
 refine Wl_v (r_len underlying22 rfl) ?_
 refine Wmv (.int .i64 ((p : Nat) : Int)) ?_
 refine Wl_v (r_sub rfl rfl (wi64 (by omega) (by omega))) ?_
 refine Wl_v (r_gt rfl rfl) ?_
 refine Wl_nil ?_
 by_cases q2 : (((n : Nat) : Int) - ((p : Nat) : Int)) < k
 ·rw [decide_eq_true q2]
  refine W_cond_t rfl ?_
  refine W_seq (W_region ?_)
  refine Wmv (.int .i64 ((p : Nat) : Int)) ?_
  refine Was (.slice none 0 0) ?_
  refine Was (.int .i64 ((p : Nat) : Int)) ?_
  refine Was (.int .i64 3) ?_
  refine Wl_nil ?_
  refine W_ret ?_
  refine ret_end (v := .tuple #[.slice none 0 0, .int .i64 ((p : Nat) : Int), .int .i64 3]) rfl (res3 results40 rfl rfl rfl) ?_
  rw [gbytes_long (by omega) (by omega)]
  exact ⟨_, rfl, none, 0, 0, rfl, Sl.nil _ _ _, rfl, HU⟩
 rw [decide_eq_false q2]
 refine W_cond_f rfl ?_
 refine W_skip (W_seq (W_region ?_))
 refine Wmv (.slice a n c) ?_
 refine Wmv (.int .i64 ((p : Nat) : Int)) ?_
 refine Wmv (.int .i64 ((p : Nat) : Int)) ?_
 refine Wmv (.int .i64 k) ?_
 refine Wl_v (r_add rfl rfl (wi64 (by omega) (by omega))) ?_
 refine Wl_v (r_slicen (l' := p) (h' := p + k.toNat) (n' := k.toNat) underlying22 sizeOf5 rfl rfl rfl (by omega) (by omega) (by omega) (by omega) (by omega)) ?_
 refine Wmv (.int .i64 ((p : Nat) : Int)) ?_
 refine Wmv (.int .i64 k) ?_
 refine Wl_v (r_add rfl rfl (wi64 (by omega) (by omega))) ?_
 refine Was (.slice (if c = p then a else a.map (·.add (p * 1))) k.toNat (c - p)) ?_
 refine Was (.int .i64 (((p : Nat) : Int) + k)) ?_
 refine Was (.int .i64 0) ?_
 refine Wl_nil ?_
 refine W_ret ?_
 refine ret_end (v := .tuple #[.slice (if c = p then a else a.map (·.add (p * 1))) k.toNat (c - p), .int .i64 (((p : Nat) : Int) + k), .int .i64 0]) rfl (res3 results40 rfl rfl rfl) ?_
 rw [gbytes_ok (by omega) (by omega)]
 exact ⟨_, rfl, _, _, _, vtup3 rfl (vint (by dsimp only; omega)) rfl, hs.cutn (by omega), by rw [List.length_take, List.length_drop]; omega, HU⟩
theorem peek_spec {pb : Nat} {a : Option Addr} {n c p : Nat} {bs : List Int} {k : Int} {t : Nat} (w : World) (hp : Blk w pb [.slice a n c, .int .i64 ((p : Nat) : Int)]) (hs : Sl w (fun g => g < w.heap.size ∧ g ≠ pb) 1 (.slice a n c) n (ints .u8 bs)) (hb : Byt bs) (hpn : p ≤ n) (hn : n ≤ 140737488355328) (ht : ((t : Nat) : Int) = min (max k 0) (((n : Nat) : Int) - ((p : Nat) : Int))) :
  Calls Tryd.prog 81 #[.pointer (some ⟨pb, 0, none⟩), .int .i64 k] w (Ret fun v w' => ∃ a' c', v = .slice a' t c' ∧ Own w' (Ge w.heap.size) 5 1 (.slice a' t c') t (ints .u8 ((bs.drop p).take t)) ∧ Upd No w w') := by
 have HU := Upd.rno w
 have hl := ilen hs
 have hcap := hs.cap.1
 have hpl := hp.lt
 refine calls_of_W func81 rfl ntmps81 (by simp) ?_
 refine W_seq (W_region ?_)
 refine Was (.slice none 0 0) ?_
 refine Wl_nil (W_seq (W_seq (W_region ?_)))
 refine Wmv (.pointer (some ⟨pb, 0, none⟩)) ?_
 refine Wl_v (r_eqpn_s underlying112 rfl rfl) ?_
 refine Wl_nil ?_
 refine W_cond_f rfl ?_
 refine W_skip (W_seq (W_region ?_))
 refine Wmv (.int .i64 k) ?_
 refine Wl_v (r_max rfl rfl) ?_
 refine Wmv (.pointer (some ⟨pb, 0, none⟩)) ?_
 refine Wl_call (r_call1 rfl call55 rfl) (left_spec _ hp (by omega) (by omega) (by omega)) ?_
 rintro v w1 ⟨rfl, hU1⟩
 have hzw1 := hU1.size
 replace hp := hp.upd0 hU1
 replace hs := hs.upd0 hU1
 replace HU := HU.trans0 hU1
 refine Wl_v (r_min rfl rfl) ?_
 refine Was (.int .i64 (min (max k 0) (((n : Nat) : Int) - ((p : Nat) : Int)))) ?_
 rw [← ht]
 refine Wl_nil (W_seq ?_)
 refine W_drawt rfl (l0 := tf 0 17) (by kernel_rfl) ?_
 refine Tk 0 (tf 1 17) rfl (YI_v (v := .pointer (some ⟨pb, 0, none⟩)) rfl (fun w' hw' => r_mv (v := .pointer (some ⟨pb, 0, none⟩)) rfl)) ?_
 refine Tk 1 (tf 2 17) rfl (YI_v (v := .pointer (some ⟨pb, 0, none⟩)) rfl (fun w' hw' => r_nil rfl)) ?_
 refine Tk 2 (tf 3 17) rfl (YI_v (v := .pointer (some ⟨pb, 0, none⟩)) rfl (fun w' hw' => r_fld underlying128 rfl sizeOf22 rfl rfl)) ?_
 refine Tk 3 (tf 4 17) rfl (YI_v (v := .slice a n c) rfl (fun w' hw' => r_load isAgg22 rfl (by rw [(hp.upd0 hw').cell]; rfl))) ?_
 refine Tk 4 (tf 5 17) rfl (YI_v (v := .pointer (some ⟨pb, 0, none⟩)) rfl (fun w' hw' => r_mv (v := .pointer (some ⟨pb, 0, none⟩)) rfl)) ?_
 refine Tk 5 (tf 6 17) rfl (YI_v (v := .pointer (some ⟨pb, 0, none⟩)) rfl (fun w' hw' => r_nil rfl)) ?_
 refine Tk 6 (tf 7 17) rfl (YI_v (v := .pointer (some ⟨pb, 1, none⟩)) rfl (fun w' hw' => r_fld underlying128 rfl sizeOf3 rfl rfl)) ?_
 refine Tk 7 (tf 8 17) rfl (YI_v (v := .int .i64 ((p : Nat) : Int)) rfl (fun w' hw' => r_load isAgg3 rfl (by rw [(hp.upd0 hw').cell]; rfl))) ?_
 refine Tk 8 (tf 9 17) rfl (YI_v (v := .pointer (some ⟨pb, 0, none⟩)) rfl (fun w' hw' => r_mv (v := .pointer (some ⟨pb, 0, none⟩)) rfl)) ?_
 refine Tk 9 (tf 10 17) rfl (YI_v (v := .pointer (some ⟨pb, 0, none⟩)) rfl (fun w' hw' => r_nil rfl)) ?_
 refine Tk 10 (tf 11 17) rfl (YI_v (v := .pointer (some ⟨pb, 1, none⟩)) rfl (fun w' hw' => r_fld underlying128 rfl sizeOf3 rfl rfl)) ?_
 refine Tk 11 (tf 12 17) rfl (YI_v (v := .int .i64 ((p : Nat) : Int)) rfl (fun w' hw' => r_load isAgg3 rfl (by rw [(hp.upd0 hw').cell]; rfl))) ?_
 refine Tk 12 (tf 13 17) rfl (YI_v (v := .int .i64 ((t : Nat) : Int)) rfl (fun w' hw' => r_mv (v := .int .i64 ((t : Nat) : Int)) rfl)) ?_
 refine Tk 13 (tf 14 17) rfl (YI_v (v := .int .i64 (((p : Nat) : Int) + ((t : Nat) : Int))) rfl (fun w' hw' => r_add rfl rfl (wi64 (by omega) (by omega)))) ?_
 refine Tk 14 (tf 15 17) rfl (YI_v (v := .slice (if c = p then a else a.map (·.add (p * 1))) t (c - p)) rfl (fun w' hw' => r_slicen (l' := p) (h' := p + t) (n' := t) underlying22 sizeOf5 rfl rfl rfl (by omega) (by omega) (by omega) (by omega) (by omega))) ?_
 intro w2 hU2
 have hzw2 := hU2.size
 replace hs := hs.upd0 hU2
 replace HU := HU.trans0 hU2
 refine Wa_one (i := 15) (listed' := tf 16 17) (by kernel_rfl) rfl (by kernel_rfl) ?_
 refine Ws_of_Wl ?_
 have hW : Upd No w1 w2 := hU2
 refine Wl_call (r_call1 rfl call63 rfl) (clone_spec _ (hs.cutn (l := p) (n := t) (by omega)).any one_ints (by omega)) ?_
 rintro v w3 ⟨a_hO, c_hO, rfl, hO, hU3⟩
 have hzw3 := hU3.size
 replace HU := HU.trans0 hU3
 try replace hW := hW.trans0 hU3
 replace hO := hO.tight
 refine Wl_nil ?_
 intro w4 hS4
 refine ⟨fun h => absurd h (by rw [show barOp _ 15 = true from by kernel_rfl]; simp), fun _ => ⟨Upd No w4, ?_⟩⟩
 have hU4 := hS4.upd
 have hzw4 := hU4.size
 replace HU := HU.trans0 hU4
 replace hO := hO.upd0 hU4
 try replace hW := hW.trans0 hU4
 refine Wt_base (Upd.refl _ _) ?_
 refine Tk 16 (tf 17 17) rfl (YI_v (v := .slice a_hO t c_hO) rfl (fun w' hw' => r_as (v := .slice a_hO t c_hO) rfl)) ?_
 intro w5 hU5
 have hzw5 := hU5.size
 replace HU := HU.trans0 hU5
 replace hO := hO.upd0 hU5
 try replace hW := hW.trans0 hU5
 refine Wa_done (by kernel_rfl) ?_
 refine W_ret ?_
 refine ret_end (v := .slice a_hO t c_hO) rfl (res1 results81 rfl) ?_
 exact ⟨_, rfl, _, _, rfl, hO.weak (R' := Ge w.heap.size) (by intro g hg; have h3 : ((w2.heap.size ≤ g) ∧ g < w3.heap.size) := hg; show _ ≤ _; omega), HU⟩
theorem byte_clo {Bc : Nat} {pb : Nat} {a : Option Addr} {n c p : Nat} {bs : List Int} (w : World) (hc : Blk w Bc [.pointer (some ⟨pb, 0, none⟩)]) (hBc : Bc ≠ pb) (hp : Blk w pb [.slice a n c, .int .i64 ((p : Nat) : Int)]) (hs : Sl w (fun g => g < w.heap.size ∧ g ≠ pb) 1 (.slice a n c) n (ints .u8 bs)) (hb : Byt bs) (hpn : p ≤ n) (hn : n ≤ 140737488355328) :
  Calls Tryd.prog 103 #[.pointer (some ⟨Bc, 0, none⟩)] w (Ret fun v w' => ∃ x er, v = .tuple #[x, .int .i64 er] ∧ x.cells = #[x] ∧ x.oneCell' = true ∧ ∃ at1, Blk w' pb [.slice a n c, .int .i64 at1] ∧ Upd (Is pb) w w' ∧ x = .int .u8 (gbyte bs p).1 ∧ er = (gbyte bs p).2.2 ∧ at1 = (((gbyte bs p).2.1 : Nat) : Int)) := by
 have HU : Upd (fun b => b = pb) w w := Upd.refl _ _
 have hl := ilen hs
 have hcap := hs.cap.1
 have hpl := hp.lt
 refine calls_of_W func103 rfl ntmps103 (by simp) ?_
 refine W_seq (W_region ?_)
 refine Was (.int .u8 0) ?_
 refine Was (.int .i64 0) ?_
 refine Wl_nil (W_seq (W_seq (W_region ?_)))
 refine Wl_load (v := .pointer (some ⟨pb, 0, none⟩)) isAgg112 rfl hc rfl ?_
 refine Wl_call (r_call1 rfl call55 rfl) (left_spec _ hp (by omega) (by omega) (by omega)) ?_
 rintro v w1 ⟨rfl, hU1⟩
 have hzw1 := hU1.size
 replace hp := hp.upd0 hU1
 replace hs := hs.upd0 hU1
 replace hc := hc.upd0 hU1
 replace HU := HU.trans0 hU1
 refine Wl_v (r_eq rfl rfl) ?_
 refine Wl_nil ?_
 by_cases q1 : (((n : Nat) : Int) - ((p : Nat) : Int)) = 0
 ·rw [decide_eq_true q1]
  refine W_cond_t rfl ?_
  refine W_seq (W_region ?_)
  refine Was (.int .u8 0) ?_
  refine Was (.int .i64 3) ?_
  refine Wl_nil ?_
  refine W_ret ?_
  refine ret_end (v := .tuple #[.int .u8 0, .int .i64 3]) rfl (res2 results103 rfl rfl) ?_
  rw [gbyte, if_neg (by omega)]
  exact ⟨_, rfl, _, _, rfl, rfl, rfl, _, hp, HU, by first | rfl | exact vint (by dsimp only; omega), by first | rfl | (dsimp only; omega), by first | rfl | (dsimp only; omega)⟩
 obtain ⟨ib, io, ha, hib, hcell⟩ := hs.iat (i := p) (by omega)
 replace hib : ib < w.heap.size ∧ ib ≠ pb := hib
 rw [decide_eq_false q1]
 refine W_cond_f rfl ?_
 refine W_skip (W_seq (W_region ?_))
 refine Wl_load (v := .pointer (some ⟨pb, 0, none⟩)) isAgg112 rfl hc rfl ?_
 refine Wl_v (r_nil rfl) ?_
 refine Wl_v (r_fld underlying128 rfl sizeOf3 rfl rfl) ?_
 refine Wl_load (v := .int .i64 ((p : Nat) : Int)) isAgg3 rfl hp rfl ?_
 refine Wl_v (r_add rfl rfl (wi64 (by omega) (by omega))) ?_
 refine Wl_v (r_nil rfl) ?_
 refine Wl_v (r_fld underlying128 rfl sizeOf3 rfl rfl) ?_
 refine Wl_store (v := .int .i64 (((p : Nat) : Int) + 1)) (cs' := [.slice a n c, .int .i64 (((p : Nat) : Int) + 1)]) sizeOf3 rfl rfl rfl rfl hp rfl rfl ?_
 intro w2 hU2 hzz2 hpn
 replace hp := hpn; clear hpn
 have hzw2 := hU2.size
 replace hc := hc.upd1 hU2 (by omega)
 replace HU := HU.trans1 hU2 (by show (pb = pb) ∨ w.heap.size ≤ pb; omega)
 replace hcell := cell_upd1 hU2 hcell (by show ib ≠ pb; omega)
 refine Wl_nil (W_seq ?_)
 refine W_drawt rfl (l0 := tf 0 13) (by kernel_rfl) ?_
 refine Tk 0 (tf 1 13) rfl (YI_v (v := .pointer (some ⟨pb, 0, none⟩)) rfl (fun w' hw' => r_load isAgg112 rfl (by rw [(hc.upd0 hw').cell]; rfl))) ?_
 refine Tk 1 (tf 2 13) rfl (YI_v (v := .pointer (some ⟨pb, 0, none⟩)) rfl (fun w' hw' => r_nil rfl)) ?_
 refine Tk 2 (tf 3 13) rfl (YI_v (v := .pointer (some ⟨pb, 0, none⟩)) rfl (fun w' hw' => r_fld underlying128 rfl sizeOf22 rfl rfl)) ?_
 refine Tk 3 (tf 4 13) rfl (YI_v (v := .slice a n c) rfl (fun w' hw' => r_load isAgg22 rfl (by rw [(hp.upd0 hw').cell]; rfl))) ?_
 refine Tk 4 (tf 5 13) rfl (YI_v (v := .pointer (some ⟨pb, 0, none⟩)) rfl (fun w' hw' => r_load isAgg112 rfl (by rw [(hc.upd0 hw').cell]; rfl))) ?_
 refine Tk 5 (tf 6 13) rfl (YI_v (v := .pointer (some ⟨pb, 0, none⟩)) rfl (fun w' hw' => r_nil rfl)) ?_
 refine Tk 6 (tf 7 13) rfl (YI_v (v := .pointer (some ⟨pb, 1, none⟩)) rfl (fun w' hw' => r_fld underlying128 rfl sizeOf3 rfl rfl)) ?_
 refine Tk 7 (tf 8 13) rfl (YI_v (v := .int .i64 (((p : Nat) : Int) + 1)) rfl (fun w' hw' => r_load isAgg3 rfl (by rw [(hp.upd0 hw').cell]; rfl))) ?_
 refine Tk 8 (tf 9 13) rfl (YI_v (v := .int .i64 ((((p : Nat) : Int) + 1) - 1)) rfl (fun w' hw' => r_sub rfl rfl (wi64 (by omega) (by omega)))) ?_
 refine Tk 9 (tf 10 13) rfl (YI_v (v := .pointer (some ⟨ib, io + p, none⟩)) rfl (fun w' hw' => r_idx (b := ib) (off := io) (m := n) (c := c) (o' := io + p) underlying22 sizeOf5 (by rw [← ha]; rfl) rfl (by omega) (by omega) (by omega))) ?_
 refine Tk 10 (tf 11 13) rfl (YI_v (v := .int .u8 (bs.getD p 0)) rfl (fun w' hw' => r_load isAgg5 rfl (hw'.cellk hcell))) ?_
 refine Tk 11 (tf 12 13) rfl (YI_v (v := .int .u8 (bs.getD p 0)) rfl (fun w' hw' => r_as (v := .int .u8 (bs.getD p 0)) rfl)) ?_
 refine Tk 12 (tf 13 13) rfl (YI_v (v := .int .i64 0) rfl (fun w' hw' => r_as (v := .int .i64 0) rfl)) ?_
 intro w3 hU3
 have hzw3 := hU3.size
 replace hp := hp.upd0 hU3
 replace HU := HU.trans0 hU3
 replace hcell := cell_upd0 hU3 hcell
 refine Wa_done (by kernel_rfl) ?_
 refine W_ret ?_
 refine ret_end (v := .tuple #[.int .u8 (bs.getD p 0), .int .i64 0]) rfl (res2 results103 rfl rfl) ?_
 rw [gbyte, if_pos (by omega)]
 exact ⟨_, rfl, _, _, rfl, rfl, rfl, _, hp, HU, by first | rfl | exact vint (by dsimp only; omega), by first | rfl | (dsimp only; omega), by first | rfl | (dsimp only; omega)⟩
theorem byte_spec {pb : Nat} {a : Option Addr} {n c p : Nat} {bs : List Int} (w : World) (hp : Blk w pb [.slice a n c, .int .i64 ((p : Nat) : Int)]) (hs : Sl w (fun g => g < w.heap.size ∧ g ≠ pb) 1 (.slice a n c) n (ints .u8 bs)) (hb : Byt bs) (hpn : p ≤ n) (hn : n ≤ 140737488355328) :
  Calls Tryd.prog 84 #[.pointer (some ⟨pb, 0, none⟩)] w (Ret fun v w' => v = .tuple #[.int .u8 (gbyte bs p).1, .int .i64 (gbyte bs p).2.2] ∧ Blk w' pb [.slice a n c, .int .i64 (((gbyte bs p).2.1 : Nat) : Int)] ∧ Upd (Is pb) w w') := by
 have HU : Upd (fun b => b = pb) w w := Upd.refl _ _
 have hl := ilen hs
 have hcap := hs.cap.1
 have hpl := hp.lt
 refine calls_of_W func84 rfl ntmps84 (by simp) ?_
 refine W_seq (W_region ?_)
 refine Wl_box (v := .pointer (some ⟨pb, 0, none⟩)) (cs := [.pointer (some ⟨pb, 0, none⟩)]) rfl rfl ?_
 intro B1 w1 hB1 hU1 hzz1 hb1
 have hzw1 := hU1.size
 replace hp := hp.upd0 hU1
 replace hs := hs.upd0 hU1
 replace HU := HU.trans0 hU1
 refine Was (.int .u8 0) ?_
 refine Was (.int .i64 0) ?_
 refine Wl_nil (W_seq (W_region ?_))
 refine Wl_load (v := .pointer (some ⟨pb, 0, none⟩)) isAgg112 rfl hb1 rfl ?_
 refine Wl_v (r_mkf1 (v0 := .pointer (some ⟨B1, 0, none⟩)) rfl) ?_
 refine Wl_call (r_call2 rfl call102 rfl rfl) (readBy_spec (Φ := fun x er at1 _ _ => x = .int .u8 (gbyte bs p).1 ∧ er = (gbyte bs p).2.2 ∧ at1 = (((gbyte bs p).2.1 : Nat) : Int)) _ hp call103 (fun w1 hN => (byte_clo w1 (hb1.upd0 hN) (by omega) (hp.upd0 hN) ((hs.upd0 hN).cur (show ¬ ((pb < w.heap.size ∧ pb ≠ pb)) by omega)) hb hpn hn))) ?_
 rintro v w2 ⟨x, er, at1, wa, wb, rfl, hpn2, hN, ⟨rfl, rfl, rfl⟩, _, hU2⟩
 have hzw2 := hU2.size
 replace HU := HU.trans1 hU2 (by show (pb = pb) ∨ w.heap.size ≤ pb; omega)
 refine Wl_v (r_ext (v := if (gbyte bs p).2.2 = 0 then .int .u8 (gbyte bs p).1 else .int .u8 0) rfl rfl) ?_
 refine Wl_v (r_ext (v := .int .i64 ((gbyte bs p).2.2)) rfl rfl) ?_
 refine Was (if (gbyte bs p).2.2 = 0 then .int .u8 (gbyte bs p).1 else .int .u8 0) ?_
 refine Was (.int .i64 ((gbyte bs p).2.2)) ?_
 refine Wl_nil ?_
 refine W_ret ?_
 refine ret_end (v := .tuple #[if (gbyte bs p).2.2 = 0 then .int .u8 (gbyte bs p).1 else .int .u8 0, .int .i64 ((gbyte bs p).2.2)]) rfl (res2 results84 rfl rfl) ?_
 have he : (gbyte bs p).2.2 ≠ 0 → (gbyte bs p).1 = 0 ∧ (gbyte bs p).2.1 = p := gbyte_err
 refine ⟨_, rfl, ?_, ?_, HU⟩
 ·by_cases h : (gbyte bs p).2.2 = 0
  ·rw [if_pos h]
  rw [if_neg h, (he h).1]
 by_cases h : (gbyte bs p).2.2 = 0
 ·simpa [h] using hpn2
 rw [(he h).2]; simpa [h] using hpn2
theorem bytes_clo {Bk : Nat} {k : Int} {Bc : Nat} {pb : Nat} {a : Option Addr} {n c p : Nat} {bs : List Int} (w : World) (hk : Blk w Bk [.int .i64 k]) (hBk : Bk ≠ pb) (hc : Blk w Bc [.pointer (some ⟨pb, 0, none⟩)]) (hBc : Bc ≠ pb) (hp : Blk w pb [.slice a n c, .int .i64 ((p : Nat) : Int)]) (hs : Sl w (fun g => g < w.heap.size ∧ g ≠ pb) 1 (.slice a n c) n (ints .u8 bs)) (hb : Byt bs) (hpn : p ≤ n) (hn : n ≤ 140737488355328) :
  Calls Tryd.prog 101 #[.pointer (some ⟨Bk, 0, none⟩), .pointer (some ⟨Bc, 0, none⟩)] w (Ret fun v w' => ∃ x er, v = .tuple #[x, .int .i64 er] ∧ x.cells = #[x] ∧ x.oneCell' = true ∧ ∃ at1, Blk w' pb [.slice a n c, .int .i64 at1] ∧ Upd (Is pb) w w' ∧ ∃ a' m' c', x = .slice a' m' c' ∧ Own w' (Ge w.heap.size) 5 1 (.slice a' m' c') m' (ints .u8 (gbytes bs p k).1) ∧ (gbytes bs p k).1.length = m' ∧ er = (gbytes bs p k).2.2 ∧ at1 = (((gbytes bs p k).2.1 : Nat) : Int)) := by
 have HU : Upd (fun b => b = pb) w w := Upd.refl _ _
 have hl := ilen hs
 have hcap := hs.cap.1
 have hpl := hp.lt
 refine calls_of_W func101 rfl ntmps101 (by simp) ?_
 refine W_seq (W_region ?_)
 refine Was (.slice none 0 0) ?_
 refine Was (.int .i64 0) ?_
 refine Wl_nil (W_seq (W_block (W_seq (W_region ?_))))
 refine Wl_load (v := .int .i64 k) isAgg3 rfl hk rfl ?_
 refine Wl_v (r_lt rfl rfl) ?_
 refine Was (.bool (decide (k < 0))) ?_
 refine Wl_nil ?_
 by_cases q1 : k < 0
 ·rw [decide_eq_true q1]
  refine W_cond_t rfl ?_
  refine W_seq (W_region ?_)
  refine Was (.slice none 0 0) ?_
  refine Was (.int .i64 2) ?_
  refine Wl_nil ?_
  refine W_ret ?_
  refine ret_end (v := .tuple #[.slice none 0 0, .int .i64 2]) rfl (res2 results101 rfl rfl) ?_
  rw [gbytes_neg (by omega)]
  exact ⟨_, rfl, _, _, rfl, rfl, rfl, _, hp, HU, none, 0, 0, rfl, Own.nil _ _ _ _, rfl, rfl, rfl⟩
 rw [decide_eq_false q1]
 refine W_cond_f rfl ?_
 refine W_seq ?_
 refine W_drawt rfl (l0 := tf 0 5) (by kernel_rfl) ?_
 refine Tk 0 (tf 1 5) rfl (YI_v (v := .int .i64 k) rfl (fun w' hw' => r_load isAgg3 rfl (by rw [(hk.upd0 hw').cell]; rfl))) ?_
 refine Tk 1 (tf 2 5) rfl (YI_v (v := .pointer (some ⟨pb, 0, none⟩)) rfl (fun w' hw' => r_load isAgg112 rfl (by rw [(hc.upd0 hw').cell]; rfl))) ?_
 intro w1 hU1
 have hzw1 := hU1.size
 replace hp := hp.upd0 hU1
 replace hs := hs.upd0 hU1
 replace hc := hc.upd0 hU1
 replace hk := hk.upd0 hU1
 replace HU := HU.trans0 hU1
 refine Wa_one (i := 2) (listed' := tf 3 5) (by kernel_rfl) rfl (by kernel_rfl) ?_
 refine Ws_of_Wl ?_
 have hW : Upd No w w1 := hU1
 refine Wl_call (r_call1 rfl call55 rfl) (left_spec _ hp (by omega) (by omega) (by omega)) ?_
 rintro v w2 ⟨rfl, hU2⟩
 have hzw2 := hU2.size
 replace hp := hp.upd0 hU2
 replace hs := hs.upd0 hU2
 replace hc := hc.upd0 hU2
 replace hk := hk.upd0 hU2
 replace HU := HU.trans0 hU2
 try replace hW := hW.trans0 hU2
 refine Wl_nil ?_
 intro w3 hS3
 have hX : Upd No w w3 := hW.trans0 hS3.upd
 refine ⟨fun _ => ⟨hX, ?_⟩, fun h => absurd h (by rw [show barOp _ 2 = false from by kernel_rfl]; simp)⟩
 have hU3 := hS3.upd
 have hzw3 := hU3.size
 replace hp := hp.upd0 hU3
 replace hs := hs.upd0 hU3
 replace hc := hc.upd0 hU3
 replace hk := hk.upd0 hU3
 replace HU := HU.trans0 hU3
 try replace hW := hW.trans0 hU3
 refine Wt_base hX ?_
 refine Tk 3 (tf 4 5) rfl (YI_v (v := .bool (decide ((((n : Nat) : Int) - ((p : Nat) : Int)) < k))) rfl (fun w' hw' => r_gt rfl rfl)) ?_
 refine Tk 4 (tf 5 5) rfl (YI_v (v := .bool (decide ((((n : Nat) : Int) - ((p : Nat) : Int)) < k))) rfl (fun w' hw' => r_as (v := .bool (decide ((((n : Nat) : Int) - ((p : Nat) : Int)) < k))) rfl)) ?_
 intro w4 hU4
 have hzw4 := hU4.size
 replace hp := hp.upd0 hU4
 replace hs := hs.upd0 hU4
 replace hc := hc.upd0 hU4
 replace hk := hk.upd0 hU4
 replace HU := HU.trans0 hU4
 try replace hW := hW.trans0 hU4
 refine Wa_done (by kernel_rfl) ?_
 by_cases q2 : (((n : Nat) : Int) - ((p : Nat) : Int)) < k
 ·rw [decide_eq_true q2]
  refine W_cond_t rfl ?_
  refine W_seq (W_region ?_)
  refine Was (.slice none 0 0) ?_
  refine Was (.int .i64 3) ?_
  refine Wl_nil ?_
  refine W_ret ?_
  refine ret_end (v := .tuple #[.slice none 0 0, .int .i64 3]) rfl (res2 results101 rfl rfl) ?_
  rw [gbytes_long (by omega) (by omega)]
  exact ⟨_, rfl, _, _, rfl, rfl, rfl, _, hp, HU, none, 0, 0, rfl, Own.nil _ _ _ _, rfl, rfl, rfl⟩
 rw [decide_eq_false q2]
 refine W_cond_f rfl ?_
 refine W_skip (W_seq ?_)
 refine W_drawt rfl (l0 := tf 0 9) (by kernel_rfl) ?_
 refine Tk 0 (tf 1 9) rfl (YI_v (v := .pointer (some ⟨pb, 0, none⟩)) rfl (fun w' hw' => r_load isAgg112 rfl (by rw [(hc.upd0 hw').cell]; rfl))) ?_
 refine Tk 1 (tf 2 9) rfl (YI_v (v := .pointer (some ⟨pb, 0, none⟩)) rfl (fun w' hw' => r_nil rfl)) ?_
 refine Tk 2 (tf 3 9) rfl (YI_v (v := .pointer (some ⟨pb, 1, none⟩)) rfl (fun w' hw' => r_fld underlying128 rfl sizeOf3 rfl rfl)) ?_
 refine Tk 3 (tf 4 9) rfl (YI_v (v := .int .i64 ((p : Nat) : Int)) rfl (fun w' hw' => r_load isAgg3 rfl (by rw [(hp.upd0 hw').cell]; rfl))) ?_
 refine Tk 4 (tf 5 9) rfl (YI_v (v := .int .i64 k) rfl (fun w' hw' => r_load isAgg3 rfl (by rw [(hk.upd0 hw').cell]; rfl))) ?_
 refine Tk 5 (tf 6 9) rfl (YI_v (v := .int .i64 (((p : Nat) : Int) + k)) rfl (fun w' hw' => r_add rfl rfl (wi64 (by omega) (by omega)))) ?_
 refine Tk 6 (tf 7 9) rfl (YI_v (v := .pointer (some ⟨pb, 0, none⟩)) rfl (fun w' hw' => r_nil rfl)) ?_
 refine Tk 7 (tf 8 9) rfl (YI_v (v := .pointer (some ⟨pb, 1, none⟩)) rfl (fun w' hw' => r_fld underlying128 rfl sizeOf3 rfl rfl)) ?_
 intro w5 hU5
 have hzw5 := hU5.size
 replace hp := hp.upd0 hU5
 replace hs := hs.upd0 hU5
 replace hc := hc.upd0 hU5
 replace hk := hk.upd0 hU5
 replace HU := HU.trans0 hU5
 try replace hW := hW.trans0 hU5
 refine Wa_one (i := 8) (listed' := tf 9 9) (by kernel_rfl) rfl (by kernel_rfl) ?_
 refine Ws_of_Wl ?_
 have hW : Upd No w4 w5 := hU5
 refine Wl_store (v := .int .i64 (((p : Nat) : Int) + k)) (cs' := [.slice a n c, .int .i64 (((p : Nat) : Int) + k)]) sizeOf3 rfl rfl rfl rfl hp rfl rfl ?_
 intro w6 hU6 hzz6 hpn
 replace hp := hpn; clear hpn
 have hzw6 := hU6.size
 replace hs := hs.upd1 hU6 (show ¬ ((pb < w.heap.size ∧ pb ≠ pb)) by omega)
 replace hc := hc.upd1 hU6 (by omega)
 replace hk := hk.upd1 hU6 (by omega)
 replace HU := HU.trans1 hU6 (by show (pb = pb) ∨ w.heap.size ≤ pb; omega)
 refine Wl_nil ?_
 intro w7 hS7
 refine ⟨fun h => absurd h (by rw [show barOp _ 8 = true from by kernel_rfl]; simp), fun _ => ⟨Upd No w7, ?_⟩⟩
 have hU7 := hS7.upd
 have hzw7 := hU7.size
 replace hp := hp.upd0 hU7
 replace hs := hs.upd0 hU7
 replace hc := hc.upd0 hU7
 replace hk := hk.upd0 hU7
 replace HU := HU.trans0 hU7
 try replace hW := hW.trans0 hU7
 refine Wa_done (by kernel_rfl) ?_
 refine W_seq ?_
 refine W_drawt rfl (l0 := tf 0 18) (by kernel_rfl) ?_
 refine Tk 0 (tf 1 18) rfl (YI_v (v := .pointer (some ⟨pb, 0, none⟩)) rfl (fun w' hw' => r_load isAgg112 rfl (by rw [(hc.upd0 hw').cell]; rfl))) ?_
 refine Tk 1 (tf 2 18) rfl (YI_v (v := .pointer (some ⟨pb, 0, none⟩)) rfl (fun w' hw' => r_nil rfl)) ?_
 refine Tk 2 (tf 3 18) rfl (YI_v (v := .pointer (some ⟨pb, 0, none⟩)) rfl (fun w' hw' => r_fld underlying128 rfl sizeOf22 rfl rfl)) ?_
 refine Tk 3 (tf 4 18) rfl (YI_v (v := .slice a n c) rfl (fun w' hw' => r_load isAgg22 rfl (by rw [(hp.upd0 hw').cell]; rfl))) ?_
 refine Tk 4 (tf 5 18) rfl (YI_v (v := .pointer (some ⟨pb, 0, none⟩)) rfl (fun w' hw' => r_load isAgg112 rfl (by rw [(hc.upd0 hw').cell]; rfl))) ?_
 refine Tk 5 (tf 6 18) rfl (YI_v (v := .pointer (some ⟨pb, 0, none⟩)) rfl (fun w' hw' => r_nil rfl)) ?_
 refine Tk 6 (tf 7 18) rfl (YI_v (v := .pointer (some ⟨pb, 1, none⟩)) rfl (fun w' hw' => r_fld underlying128 rfl sizeOf3 rfl rfl)) ?_
 refine Tk 7 (tf 8 18) rfl (YI_v (v := .int .i64 (((p : Nat) : Int) + k)) rfl (fun w' hw' => r_load isAgg3 rfl (by rw [(hp.upd0 hw').cell]; rfl))) ?_
 refine Tk 8 (tf 9 18) rfl (YI_v (v := .int .i64 k) rfl (fun w' hw' => r_load isAgg3 rfl (by rw [(hk.upd0 hw').cell]; rfl))) ?_
 refine Tk 9 (tf 10 18) rfl (YI_v (v := .int .i64 ((((p : Nat) : Int) + k) - k)) rfl (fun w' hw' => r_sub rfl rfl (wi64 (by omega) (by omega)))) ?_
 refine Tk 10 (tf 11 18) rfl (YI_v (v := .pointer (some ⟨pb, 0, none⟩)) rfl (fun w' hw' => r_load isAgg112 rfl (by rw [(hc.upd0 hw').cell]; rfl))) ?_
 refine Tk 11 (tf 12 18) rfl (YI_v (v := .pointer (some ⟨pb, 0, none⟩)) rfl (fun w' hw' => r_nil rfl)) ?_
 refine Tk 12 (tf 13 18) rfl (YI_v (v := .pointer (some ⟨pb, 1, none⟩)) rfl (fun w' hw' => r_fld underlying128 rfl sizeOf3 rfl rfl)) ?_
 refine Tk 13 (tf 14 18) rfl (YI_v (v := .int .i64 (((p : Nat) : Int) + k)) rfl (fun w' hw' => r_load isAgg3 rfl (by rw [(hp.upd0 hw').cell]; rfl))) ?_
 refine Tk 14 (tf 15 18) rfl (YI_v (v := .slice (if c = p then a else a.map (·.add (p * 1))) k.toNat (c - p)) rfl (fun w' hw' => r_slicen (l' := p) (h' := p + k.toNat) (n' := k.toNat) underlying22 sizeOf5 rfl rfl rfl (by omega) (by omega) (by omega) (by omega) (by omega))) ?_
 intro w8 hU8
 have hzw8 := hU8.size
 replace hp := hp.upd0 hU8
 replace hs := hs.upd0 hU8
 replace HU := HU.trans0 hU8
 try replace hW := hW.trans0 hU8
 refine Wa_one (i := 15) (listed' := tf 16 18) (by kernel_rfl) rfl (by kernel_rfl) ?_
 refine Ws_of_Wl ?_
 have hW : Upd No w7 w8 := hU8
 refine Wl_call (r_call1 rfl call63 rfl) (clone_spec _ (hs.cutn (l := p) (n := k.toNat) (by omega)).any one_ints (by omega)) ?_
 rintro v w9 ⟨a_hO, c_hO, rfl, hO, hU9⟩
 have hzw9 := hU9.size
 replace hp := hp.upd0 hU9
 replace HU := HU.trans0 hU9
 try replace hW := hW.trans0 hU9
 replace hO := hO.tight
 refine Wl_nil ?_
 intro w10 hS10
 refine ⟨fun h => absurd h (by rw [show barOp _ 15 = true from by kernel_rfl]; simp), fun _ => ⟨Upd No w10, ?_⟩⟩
 have hU10 := hS10.upd
 have hzw10 := hU10.size
 replace hp := hp.upd0 hU10
 replace HU := HU.trans0 hU10
 replace hO := hO.upd0 hU10
 try replace hW := hW.trans0 hU10
 refine Wt_base (Upd.refl _ _) ?_
 refine Tk 16 (tf 17 18) rfl (YI_v (v := .slice a_hO k.toNat c_hO) rfl (fun w' hw' => r_as (v := .slice a_hO k.toNat c_hO) rfl)) ?_
 refine Tk 17 (tf 18 18) rfl (YI_v (v := .int .i64 0) rfl (fun w' hw' => r_as (v := .int .i64 0) rfl)) ?_
 intro w11 hU11
 have hzw11 := hU11.size
 replace hp := hp.upd0 hU11
 replace HU := HU.trans0 hU11
 replace hO := hO.upd0 hU11
 try replace hW := hW.trans0 hU11
 refine Wa_done (by kernel_rfl) ?_
 refine W_ret ?_
 refine ret_end (v := .tuple #[.slice a_hO k.toNat c_hO, .int .i64 0]) rfl (res2 results101 rfl rfl) ?_
 rw [gbytes_ok (by omega) (by omega)]
 exact ⟨_, rfl, _, _, rfl, rfl, rfl, _, hp, HU, _, _, _, rfl, hO.weak (R' := Ge w.heap.size) (by intro g hg; have h3 : ((w8.heap.size ≤ g) ∧ g < w9.heap.size) := hg; show _ ≤ _; omega), by dsimp only; rw [List.length_take, List.length_drop]; omega, rfl, by dsimp only; omega⟩
theorem bytes_spec {pb : Nat} {a : Option Addr} {n c p : Nat} {bs : List Int} {k : Int} (w : World) (hp : Blk w pb [.slice a n c, .int .i64 ((p : Nat) : Int)]) (hs : Sl w (fun g => g < w.heap.size ∧ g ≠ pb) 1 (.slice a n c) n (ints .u8 bs)) (hb : Byt bs) (hpn : p ≤ n) (hn : n ≤ 140737488355328) :
  Calls Tryd.prog 82 #[.pointer (some ⟨pb, 0, none⟩), .int .i64 k] w (Ret fun v w' => ∃ a' m' c', v = .tuple #[.slice a' m' c', .int .i64 (gbytes bs p k).2.2] ∧ Blk w' pb [.slice a n c, .int .i64 (((gbytes bs p k).2.1 : Nat) : Int)] ∧ Own w' (Ge w.heap.size) 5 1 (.slice a' m' c') m' (ints .u8 (gbytes bs p k).1) ∧ (gbytes bs p k).1.length = m' ∧ Upd (Is pb) w w') := by
 have HU : Upd (fun b => b = pb) w w := Upd.refl _ _
 have hl := ilen hs
 have hcap := hs.cap.1
 have hpl := hp.lt
 refine calls_of_W func82 rfl ntmps82 (by simp) ?_
 refine W_seq (W_region ?_)
 refine Wl_box (v := .pointer (some ⟨pb, 0, none⟩)) (cs := [.pointer (some ⟨pb, 0, none⟩)]) rfl rfl ?_
 intro B1 w1 hB1 hU1 hzz1 hb1
 have hzw1 := hU1.size
 replace hp := hp.upd0 hU1
 replace hs := hs.upd0 hU1
 replace HU := HU.trans0 hU1
 refine Wl_box (v := .int .i64 k) (cs := [.int .i64 k]) rfl rfl ?_
 intro B2 w2 hB2 hU2 hzz2 hb2
 have hzw2 := hU2.size
 replace hp := hp.upd0 hU2
 replace hs := hs.upd0 hU2
 replace HU := HU.trans0 hU2
 replace hb1 := hb1.upd0 hU2
 refine Was (.slice none 0 0) ?_
 refine Was (.int .i64 0) ?_
 refine Wl_nil (W_seq (W_region ?_))
 refine Wl_load (v := .pointer (some ⟨pb, 0, none⟩)) isAgg112 rfl hb1 rfl ?_
 refine Wl_v (r_mkf2 (v0 := .pointer (some ⟨B2, 0, none⟩)) (v1 := .pointer (some ⟨B1, 0, none⟩)) rfl rfl) ?_
 refine Wl_call (r_call2 rfl call100 rfl rfl) (readBs_spec (Φ := fun x er at1 w1 w2 => ∃ a' m' c', x = .slice a' m' c' ∧ Own w2 (Ge w1.heap.size) 5 1 (.slice a' m' c') m' (ints .u8 (gbytes bs p k).1) ∧ (gbytes bs p k).1.length = m' ∧ er = (gbytes bs p k).2.2 ∧ at1 = (((gbytes bs p k).2.1 : Nat) : Int)) _ hp call101 (fun w1 hN => bytes_clo w1 (hb2.upd0 hN) (by omega) (hb1.upd0 hN) (by omega) (hp.upd0 hN) ((hs.upd0 hN).cur (show ¬ ((pb < w.heap.size ∧ pb ≠ pb)) by omega)) hb hpn hn)) ?_
 rintro v w3 ⟨x, er, at1, wa, wb, rfl, hpn2, hN, ⟨a', m', c', rfl, hO, hlen, rfl, rfl⟩, hX, hU3⟩
 have hNs := hN.size
 replace hO := hO.upd hX (by intro x h1 h2; have h3 : wa.heap.size ≤ x := h1; have h4 : x = pb ∨ (w2.heap.size ≤ x ∧ x < wa.heap.size) := h2; omega)
 have hzw3 := hU3.size
 replace HU := HU.trans1 hU3 (by show (pb = pb) ∨ w.heap.size ≤ pb; omega)
 refine Wl_v (r_ext (v := if (gbytes bs p k).2.2 = 0 then .slice a' m' c' else .slice none 0 0) rfl rfl) ?_
 refine Wl_v (r_ext (v := .int .i64 ((gbytes bs p k).2.2)) rfl rfl) ?_
 refine Was (if (gbytes bs p k).2.2 = 0 then .slice a' m' c' else .slice none 0 0) ?_
 refine Was (.int .i64 ((gbytes bs p k).2.2)) ?_
 refine Wl_nil ?_
 refine W_ret ?_
 refine ret_end (v := .tuple #[if (gbytes bs p k).2.2 = 0 then .slice a' m' c' else .slice none 0 0, .int .i64 ((gbytes bs p k).2.2)]) rfl (res2 results82 rfl rfl) ?_
 by_cases h : (gbytes bs p k).2.2 = 0
 ·refine ⟨_, rfl, a', m', c', by rw [if_pos h], by simpa [h] using hpn2, hO.weak (R' := Ge w.heap.size) (by intro g hg; have h3 : wa.heap.size ≤ g := hg; show _ ≤ _; omega), hlen, HU⟩
 have he := gbytes_err h
 rw [he.1] at hlen
 refine ⟨_, rfl, none, 0, 0, by rw [if_neg h], by rw [he.2]; simpa [h] using hpn2, ?_, ?_, HU⟩
 ·rw [he.1]; exact Own.nil _ _ _ _
 rw [he.1]; rfl
theorem backward1_spec {l B m c : Nat} {a : Option Addr} {xs : List Int} {J : Nat → World → Prop} {Jx : World → Prop} {Sb R : Nat → Prop} (w : World) (hB : Blk w B [.slice a m c]) (hs : Sl w R 1 (.slice a m c) m (ints .u8 xs)) (hm : m ≤ 140737488355328) (hSB : ¬ Sb B) (hSR : ∀ g, R g → ¬ Sb g) (hJ0 : J 0 w) (hy : ∀ j w, j < m → J j w → YieldC Tryd.prog l #[.int .i64 (((m : Nat) : Int) - 1 - ((j : Nat) : Int)), .int .u8 (xs.getD (m - 1 - j) 0)] w (fun e w' => (e = .returned (.bool true) ∧ (Upd Sb w w' ∧ J (j + 1) w')) ∨ (e = .returned (.bool false) ∧ Jx w'))) :
  Calls Tryd.prog 107 #[.func (.yield l) #[] #[], .pointer (some ⟨B, 0, none⟩)] w (Ret fun v w' => J m w' ∨ Jx w') := by
 have HU := Upd.rno w
 refine calls_of_W func107 rfl ntmps107 (by simp) ?_
 refine W_seq (W_region ?_)
 refine Wl_load (v := .slice a m c) isAgg22 rfl hB rfl ?_
 refine Wl_v (r_len underlying22 rfl) ?_
 refine Wl_v (r_sub rfl rfl (wi64 (by omega) (by omega))) ?_
 refine Was (.int .i64 (((m : Nat) : Int) - 1)) ?_
 refine Wl_nil (W_block ?_)
 refine W_loop (fun mu ρ ds w' => ∃ (j : Nat), m - j = mu ∧ ds = [] ∧ Liv ρ [(0, .func (.yield l) #[] #[]), (1, .pointer (some ⟨B, 0, none⟩)), (3, .int .i64 (((m : Nat) : Int) - 1 - ((j : Nat) : Int)))] ∧ j ≤ m ∧ Blk w' B [.slice a m c] ∧ Sl w' R 1 (.slice a m c) m (ints .u8 xs) ∧ J j w') _ ⟨0, rfl, rfl, ⟨rfl, rfl, (Eq.trans (b := .int .i64 (((m : Nat) : Int) - 1)) rfl (vint (by omega))), trivial⟩, (by omega), hB, hs, hJ0⟩ ?_
 rintro m1 ρ1 ds1 w1 ⟨j, rfl, rfl, hl1, hj, hB, hs, hJ0⟩
 obtain ⟨ρ1x, rfl⟩ : ∃ ρx, ρ1 = upds ρx [(0, .func (.yield l) #[] #[]), (1, .pointer (some ⟨B, 0, none⟩)), (3, .int .i64 (((m : Nat) : Int) - 1 - ((j : Nat) : Int)))] := ⟨_, upds_self hl1⟩
 clear hl1
 refine W_seq (W_seq (W_region ?_))
 refine Wmv (.int .i64 (((m : Nat) : Int) - 1 - ((j : Nat) : Int))) ?_
 refine Wl_v (r_ge rfl rfl) ?_
 refine Wl_nil ?_
 by_cases q1 : 0 ≤ (((m : Nat) : Int) - 1 - ((j : Nat) : Int))
 ·rw [decide_eq_true q1]
  refine W_cond_t rfl ?_
  refine W_skip (W_seq (W_block (W_seq (W_region ?_))))
  refine Wmv (.func (.yield l) #[] #[]) ?_
  refine Wmv (.int .i64 (((m : Nat) : Int) - 1 - ((j : Nat) : Int))) ?_
  refine Wl_load (v := .slice a m c) isAgg22 rfl hB rfl ?_
  refine Wmv (.int .i64 (((m : Nat) : Int) - 1 - ((j : Nat) : Int))) ?_
  refine Wl_idxi underlying22 sizeOf5 rfl rfl hs (by omega) (by omega) ?_
  intro ib2 io2 hc2
  rw [show (((m : Nat) : Int) - 1 - ((j : Nat) : Int)).toNat = m - 1 - j from by omega] at hc2
  refine Wl_loadc isAgg5 rfl hc2 ?_
  refine Wl_yield2 rfl rfl rfl (hy j _ (by omega) hJ0) ?_ ?_
  ·rintro w3 ⟨hU3, hJn⟩
   replace hB := hB.upd hU3 hSB
   replace hs := hs.upd hU3 hSR
   replace hJ0 := hJn
   refine Wl_v (r_not (b := true) rfl) ?_
   refine Wl_nil ?_
   refine W_cond_f rfl ?_
   refine W_skip (W_region ?_)
   refine Wmv (.int .i64 (((m : Nat) : Int) - 1 - ((j : Nat) : Int))) ?_
   refine Wl_v (r_sub rfl rfl (wi64 (by omega) (by omega))) ?_
   refine Was (.int .i64 ((((m : Nat) : Int) - 1 - ((j : Nat) : Int)) - 1)) ?_
   refine Wl_nil ?_
   refine ⟨_, ?_, (j + 1), rfl, rfl, ⟨rfl, rfl, (Eq.trans (b := .int .i64 ((((m : Nat) : Int) - 1 - ((j : Nat) : Int)) - 1)) rfl (vint (by omega))), trivial⟩, (by omega), hB, hs, hJ0⟩
   omega
  rintro w4 hJx
  refine Wl_v (r_not (b := false) rfl) ?_
  refine Wl_nil ?_
  refine W_cond_t rfl ?_
  refine W_ret ?_
  refine ret_end (v := .tuple #[]) rfl (res0 results107) ?_
  exact ⟨_, rfl, Or.inr hJx⟩
 rw [decide_eq_false q1]
 refine W_cond_f rfl ?_
 refine W_exit ?_
 refine nrm_end (v := .tuple #[]) rfl (res0 results107) ?_
 obtain hjm : j = m := by omega
 exact ⟨_, rfl, Or.inl (by rw [← hjm]; exact hJ0)⟩
theorem backward_spec {a : Option Addr} {m c : Nat} (w : World)  :
  Calls Tryd.prog 93 #[.slice a m c] w (Ret fun v w' => ∃ B, v = .func (.func 107) #[] #[.pointer (some ⟨B, 0, none⟩)] ∧ Blk w' B [.slice a m c] ∧ w.heap.size ≤ B ∧ Upd No w w') := by
 have HU := Upd.rno w
 refine calls_of_W func93 rfl ntmps93 (by simp) ?_
 refine W_seq (W_region ?_)
 refine Wl_box (v := .slice a m c) (cs := [.slice a m c]) rfl rfl ?_
 intro B1 w1 hB1 hU1 hzz1 hb1
 have hzw1 := hU1.size
 replace HU := HU.trans0 hU1
 refine Was (.nilFunc) ?_
 refine Wl_nil (W_seq (W_region ?_))
 refine Wl_v (r_mkf1 (v0 := .pointer (some ⟨B1, 0, none⟩)) rfl) ?_
 refine Was (.func (.func 107) #[] #[.pointer (some ⟨B1, 0, none⟩)]) ?_
 refine Wl_nil ?_
 refine W_ret ?_
 refine ret_end (v := .func (.func 107) #[] #[.pointer (some ⟨B1, 0, none⟩)]) rfl (res1 results93 rfl) ?_
 exact ⟨_, rfl, B1, rfl, hb1, by omega, HU⟩
theorem cword_clo {Bc : Nat} {pb : Nat} {a : Option Addr} {n c p : Nat} {bs : List Int} (w : World) (hc : Blk w Bc [.pointer (some ⟨pb, 0, none⟩)]) (hBc : Bc ≠ pb) (hp : Blk w pb [.slice a n c, .int .i64 ((p : Nat) : Int)]) (hs : Sl w (fun g => g < w.heap.size ∧ g ≠ pb) 1 (.slice a n c) n (ints .u8 bs)) (hb : Byt bs) (hpn : p ≤ n) (hn : n ≤ 140737488355328) :
  Calls Tryd.prog 92 #[.pointer (some ⟨Bc, 0, none⟩)] w (Ret fun v w' => ∃ x er, v = .tuple #[x, .int .i64 er] ∧ x.cells = #[x] ∧ x.oneCell' = true ∧ ∃ at1, Blk w' pb [.slice a n c, .int .i64 at1] ∧ Upd (Is pb) w w' ∧ x = .int .u32 (gword bs p).1 ∧ er = (gword bs p).2.2 ∧ at1 = (((gword bs p).2.1 : Nat) : Int)) := by
 have HU : Upd (fun b => b = pb) w w := Upd.refl _ _
 have hl := ilen hs
 have hcap := hs.cap.1
 have hpl := hp.lt
 have hcl := hc.lt
 refine calls_of_W func92 rfl ntmps92 (by simp) ?_
 refine W_seq (W_region ?_)
 refine Was (.int .u32 0) ?_
 refine Was (.int .i64 0) ?_
 refine Wl_nil (W_seq (W_region ?_))
 refine Wl_load (v := .pointer (some ⟨pb, 0, none⟩)) isAgg112 rfl hc rfl ?_
 refine Wl_call (r_call2 rfl call82 rfl rfl) (bytes_spec _ hp (hs.cur (by intro h1; have h3 : (pb < w.heap.size ∧ pb ≠ pb) := h1; first | omega | simp at h3)) hb (by omega) (by omega)) ?_
 rintro v w1 ⟨a1, m1, c1, rfl, hp1, hO1, hm_1, hU1⟩
 have hzw1 := hU1.size
 replace HU := HU.trans1 hU1 (by show (pb = pb) ∨ w.heap.size ≤ pb; omega)
 have hbl_hp1 := hp1.lt
 replace hO1 := hO1.tight
 have hl_hO1 := ilen hO1.sl
 have hc_hO1 := hO1.sl.cap.1
 have hlen := gbytes_len (bs := bs) (p := p) (k := 4)
 have h4 : (4 : Int).toNat = 4 := rfl
 refine Wmv (.tuple #[.slice a1 m1 c1, .int .i64 ((gbytes bs p 4).2.2)]) ?_
 refine Wl_v (r_ext (v := .slice a1 m1 c1) rfl rfl) ?_
 refine Wl_v (r_ext (v := .int .i64 ((gbytes bs p 4).2.2)) rfl rfl) ?_
 refine Was (.slice a1 m1 c1) ?_
 refine Was (.int .i64 ((gbytes bs p 4).2.2)) ?_
 refine Wl_nil (W_seq (W_region ?_))
 refine Wl_alloc (cs := [.int .u32 0]) zeroValue39 rfl ?_
 intro B2 w2 hB2 hU2 hzz2 hb2
 have hzw2 := hU2.size
 replace HU := HU.trans0 hU2
 replace hp1 := hp1.upd0 hU2
 replace hO1 := hO1.upd0 hU2
 refine Wl_store (v := .int .u32 0) (cs' := [.int .u32 0]) sizeOf39 rfl rfl rfl rfl hb2 rfl rfl ?_
 intro w3 hU3 hzz3 hb2n
 replace hb2 := hb2n; clear hb2n
 have hzw3 := hU3.size
 replace HU := HU.trans1 hU3 (by show (B2 = pb) ∨ w.heap.size ≤ B2; omega)
 replace hp1 := hp1.upd1 hU3 (by omega)
 replace hO1 := hO1.upd1 hU3 (show ¬ (((w.heap.size ≤ B2) ∧ B2 < w1.heap.size)) by omega)
 refine Wl_nil (W_seq (W_seq (W_region ?_)))
 refine Wmv (.slice a1 m1 c1) ?_
 refine Wl_call (r_call1 rfl call93 rfl) (backward_spec _ ) ?_
 rintro v w4 ⟨B4, rfl, hB4, hBg_4, hU4⟩
 have hzw4 := hU4.size
 replace HU := HU.trans0 hU4
 replace hp1 := hp1.upd0 hU4
 replace hO1 := hO1.upd0 hU4
 replace hb2 := hb2.upd0 hU4
 have hbl_hB4 := hB4.lt
 refine Wl_nil (W_block ?_)
 refine W_range (gf := 107) (ar := fun y => #[y, .pointer (some ⟨B4, 0, none⟩)]) rfl call107 (fun y => by simp) ?_
 intro D5 fn5 w5 hD5 hU5 hzz5 hdf5 hrc50
 have hzw5 := hU5.size
 replace HU := HU.trans0 hU5
 replace hp1 := hp1.upd0 hU5
 replace hO1 := hO1.upd0 hU5
 replace hb2 := hb2.upd0 hU5
 replace hB4 := hB4.upd0 hU5
 obtain ⟨r5, hr5, hrc5⟩ : ∃ r, r = _ ∧ Rec w5 (D5 + 1) r := ⟨_, rfl, hrc50⟩
 clear hrc50
 obtain ⟨J5, hJ5⟩ : ∃ J : Nat → World → Prop, ∀ i w', J i w' ↔ (Rec w' (D5 + 1) r5 ∧ Dfr w' D5 ∧ Blk w' B2 [.int .u32 (wval ((gbytes bs p 4).1.drop (m1 - i)))] ∧ Blk w' pb [.slice a n c, .int .i64 (((gbytes bs p 4).2.1 : Nat) : Int)] ∧ Upd (Is pb) w w') := ⟨_, fun _ _ => Iff.rfl⟩
 obtain ⟨Jx5, hJx5⟩ : ∃ Jx : World → Prop, ∀ w', Jx w' ↔ (False) := ⟨_, fun _ => Iff.rfl⟩
 refine (backward1_spec (l := (D5 + 1)) (J := J5) (Jx := Jx5) (Sb := (fun g => g = B2 ∨ g = D5 + 1)) (R := fun g => ((w.heap.size ≤ g) ∧ g < w1.heap.size)) w5 hB4 hO1.sl (by omega) (by show ¬ (_ ∨ _); omega) (by intro g h1 h2; have h3 : ((w.heap.size ≤ g) ∧ g < w1.heap.size) := h1; have h4 : g = B2 ∨ g = D5 + 1 := h2; omega) ?_ ?_).mono ?_
 ·exact (hJ5 _ _).2 ⟨hrc5, hdf5, (by rw [List.drop_eq_nil_of_le (by omega)]; exact hb2), hp1, HU⟩
 ·intro i6 w6 hi6 hh
  obtain ⟨hrc5, hdf5, hb2, hp1, HU⟩ := (hJ5 _ _).1 hh
  have hrl5 := hrc5.lt
  have hw_ := wval_back (gbytes_byt (p := p) (k := 4) hb) (m := m1) (j := i6) hm_1 (by omega) hi6
  have HB5 : Upd (fun g => g = B2 ∨ g = D5 + 1) w6 w6 := Upd.refl _ _
  refine yieldC_of_W (R := fun b c w' => (b = true ∧ Upd (fun g => g = B2 ∨ g = D5 + 1) w6 w' ∧ J5 (i6 + 1) w') ∨ (b = false ∧ Jx5 w')) hrc5 (by rw [hr5]; rfl) (by rw [hr5]; exact zip2 _ _ _ _ _ _) ?_ ?_
  ·rw [hr5]
   refine W_region ?_
   refine Was (.int .u8 ((gbytes bs p 4).1.getD (m1 - 1 - i6) 0)) ?_
   refine Wl_nil ?_
   refine ⟨rfl, _, hrc5, (by rw [hr5]), ?_⟩
   intro w7 hU7 hzz7 hrc5b
   have hzw7 := hU7.size
   replace hdf5 := hdf5.upd1 hU7 (by omega)
   replace hb2 := hb2.upd1 hU7 (by omega)
   replace hp1 := hp1.upd1 hU7 (by omega)
   replace HU := HU.trans1 hU7 (by show ((D5 + 1) = pb) ∨ w.heap.size ≤ (D5 + 1); omega)
   replace HB5 := HB5.trans1 hU7 (by show ((D5 + 1) = B2 ∨ (D5 + 1) = D5 + 1) ∨ w6.heap.size ≤ (D5 + 1); omega)
   clear hrc5
   have hrc5 := hrc5b
   clear hrc5b
   refine W_block (W_region ?_)
   refine Wl_load (v := .int .u32 (wval ((gbytes bs p 4).1.drop (m1 - i6)))) isAgg39 rfl hb2 rfl ?_
   refine Wl_v (r_shl rfl rfl (by decide) (shl8 (by omega) (by omega))) ?_
   refine Wmv (.int .u8 ((gbytes bs p 4).1.getD (m1 - 1 - i6) 0)) ?_
   refine Wl_v (r_cvt underlying5 underlying39 rfl (wu32 (by omega) (by omega))) ?_
   refine Wl_v (r_or rfl rfl (or8 (by omega) (by omega) (by omega) (by omega))) ?_
   refine Wl_store (v := .int .u32 (256 * (wval ((gbytes bs p 4).1.drop (m1 - i6))) + (gbytes bs p 4).1.getD (m1 - 1 - i6) 0)) (cs' := [.int .u32 (256 * (wval ((gbytes bs p 4).1.drop (m1 - i6))) + (gbytes bs p 4).1.getD (m1 - 1 - i6) 0)]) sizeOf39 rfl rfl rfl rfl hb2 rfl rfl ?_
   intro w8 hU8 hzz8 hb2n
   replace hb2 := hb2n; clear hb2n
   have hzw8 := hU8.size
   replace hrc5 := hrc5.upd1 hU8 (by omega)
   replace hdf5 := hdf5.upd1 hU8 (by omega)
   replace hp1 := hp1.upd1 hU8 (by omega)
   replace HU := HU.trans1 hU8 (by show (B2 = pb) ∨ w.heap.size ≤ B2; omega)
   replace HB5 := HB5.trans1 hU8 (by show (B2 = B2 ∨ B2 = D5 + 1) ∨ w6.heap.size ≤ B2; omega)
   refine Wl_nil ?_
   refine ⟨rfl, _, hrc5, ?_⟩
   intro w9 hU9 hzz9 hrz
   have hzw9 := hU9.size
   replace hdf5 := hdf5.upd1 hU9 (by omega)
   replace hb2 := hb2.upd1 hU9 (by omega)
   replace hp1 := hp1.upd1 hU9 (by omega)
   replace HU := HU.trans1 hU9 (by show ((D5 + 1) = pb) ∨ w.heap.size ≤ (D5 + 1); omega)
   replace HB5 := HB5.trans1 hU9 (by show ((D5 + 1) = B2 ∨ (D5 + 1) = D5 + 1) ∨ w6.heap.size ≤ (D5 + 1); omega)
   exact Or.inl ⟨rfl, HB5, (hJ5 _ _).2 ⟨(by rw [hr5]; rw [hr5] at hrz; exact hrz), hdf5, (by rw [hw_.1]; exact hb2), hp1, HU⟩⟩
  rintro b c w9 (⟨rfl, h1, h2⟩ | ⟨rfl, h1⟩)
  ·exact Or.inl ⟨rfl, h1, h2⟩
  exact Or.inr ⟨rfl, h1⟩
 rintro e w10 ⟨v, rfl, hh | hh⟩
 ·obtain ⟨hrc5, hdf5, hb2, hp1, HU⟩ := (hJ5 _ _).1 hh
  have hrl5 := hrc5.lt
  refine ⟨r5, hrc5, (by rw [hr5]; simp), ?_⟩
  intro w11 hU11 hzz11
  have hzw11 := hU11.size
  replace hdf5 := hdf5.upd1 hU11 (by omega)
  replace hb2 := hb2.upd1 hU11 (by omega)
  replace hp1 := hp1.upd1 hU11 (by omega)
  replace HU := HU.trans1 hU11 (by show ((D5 + 1) = pb) ∨ w.heap.size ≤ (D5 + 1); omega)
  rw [hr5]
  skip
  refine W_seq (W_region ?_)
  refine Wl_load (v := .int .u32 (wval ((gbytes bs p 4).1.drop (m1 - m1)))) isAgg39 rfl hb2 rfl ?_
  refine Wmv (.int .i64 ((gbytes bs p 4).2.2)) ?_
  refine Was (.int .u32 (wval ((gbytes bs p 4).1.drop (m1 - m1)))) ?_
  refine Was (.int .i64 ((gbytes bs p 4).2.2)) ?_
  refine Wl_nil ?_
  refine W_ret ?_
  refine ret_ds rfl ?_
  refine lv_mark (by simp) hdf5 ?_
  intro w12 hU12 hzz12
  have hzw12 := hU12.size
  replace hp1 := hp1.upd1 hU12 (by omega)
  replace HU := HU.trans1 hU12 (by show (D5 = pb) ∨ w.heap.size ≤ D5; omega)
  refine lv_nil (v := .tuple #[.int .u32 (wval ((gbytes bs p 4).1.drop (m1 - m1))), .int .i64 ((gbytes bs p 4).2.2)]) (res2 results92 rfl rfl) ?_
  rw [gword_of (by omega)]
  rw [Nat.sub_self, List.drop_zero]
  exact ⟨_, rfl, _, _, rfl, rfl, rfl, _, hp1, HU, rfl, rfl, rfl⟩
 exact ((hJx5 _).1 hh).elim
theorem cword_spec {pb : Nat} {a : Option Addr} {n c p : Nat} {bs : List Int} (w : World) (hp : Blk w pb [.slice a n c, .int .i64 ((p : Nat) : Int)]) (hs : Sl w (fun g => g < w.heap.size ∧ g ≠ pb) 1 (.slice a n c) n (ints .u8 bs)) (hb : Byt bs) (hpn : p ≤ n) (hn : n ≤ 140737488355328) :
  Calls Tryd.prog 73 #[.pointer (some ⟨pb, 0, none⟩)] w (Ret fun v w' => v = .tuple #[.int .u32 (gword bs p).1, .int .i64 (gword bs p).2.2] ∧ Blk w' pb [.slice a n c, .int .i64 (((gword bs p).2.1 : Nat) : Int)] ∧ Upd (Is pb) w w') := by
 have HU : Upd (fun b => b = pb) w w := Upd.refl _ _
 have hl := ilen hs
 have hcap := hs.cap.1
 have hpl := hp.lt
 refine calls_of_W func73 rfl ntmps73 (by simp) ?_
 refine W_seq (W_region ?_)
 refine Wl_box (v := .pointer (some ⟨pb, 0, none⟩)) (cs := [.pointer (some ⟨pb, 0, none⟩)]) rfl rfl ?_
 intro B1 w1 hB1 hU1 hzz1 hb1
 have hzw1 := hU1.size
 replace hp := hp.upd0 hU1
 replace hs := hs.upd0 hU1
 replace HU := HU.trans0 hU1
 refine Was (.int .u32 0) ?_
 refine Was (.int .i64 0) ?_
 refine Wl_nil (W_seq (W_region ?_))
 refine Wl_load (v := .pointer (some ⟨pb, 0, none⟩)) isAgg112 rfl hb1 rfl ?_
 refine Wl_v (r_mkf1 (v0 := .pointer (some ⟨B1, 0, none⟩)) rfl) ?_
 refine Wl_call (r_call2 rfl call91 rfl rfl) (readU32_spec (Φ := fun x er at1 _ _ => x = .int .u32 (gword bs p).1 ∧ er = (gword bs p).2.2 ∧ at1 = (((gword bs p).2.1 : Nat) : Int)) _ hp call92 (fun w1 hN => (cword_clo w1 (hb1.upd0 hN) (by omega) (hp.upd0 hN) ((hs.upd0 hN).cur (show ¬ ((pb < w.heap.size ∧ pb ≠ pb)) by omega)) hb hpn hn))) ?_
 rintro v w2 ⟨x, er, at1, wa, wb, rfl, hpn2, hN, ⟨rfl, rfl, rfl⟩, _, hU2⟩
 have hzw2 := hU2.size
 replace HU := HU.trans1 hU2 (by show (pb = pb) ∨ w.heap.size ≤ pb; omega)
 refine Wl_v (r_ext (v := if (gword bs p).2.2 = 0 then .int .u32 (gword bs p).1 else .int .u32 0) rfl rfl) ?_
 refine Wl_v (r_ext (v := .int .i64 ((gword bs p).2.2)) rfl rfl) ?_
 refine Was (if (gword bs p).2.2 = 0 then .int .u32 (gword bs p).1 else .int .u32 0) ?_
 refine Was (.int .i64 ((gword bs p).2.2)) ?_
 refine Wl_nil ?_
 refine W_ret ?_
 refine ret_end (v := .tuple #[if (gword bs p).2.2 = 0 then .int .u32 (gword bs p).1 else .int .u32 0, .int .i64 ((gword bs p).2.2)]) rfl (res2 results73 rfl rfl) ?_
 have he : (gword bs p).2.2 ≠ 0 → (gword bs p).1 = 0 ∧ (gword bs p).2.1 = p := gword_err
 refine ⟨_, rfl, ?_, ?_, HU⟩
 ·by_cases h : (gword bs p).2.2 = 0
  ·rw [if_pos h]
  rw [if_neg h, (he h).1]
 by_cases h : (gword bs p).2.2 = 0
 ·simpa [h] using hpn2
 rw [(he h).2]; simpa [h] using hpn2
theorem byte_in {pb : Nat} {a : Option Addr} {n c p : Nat} {bs : List Int} (w : World) (hp : Blk w pb [.slice a n c, .int .i64 ((p : Nat) : Int)]) (hs : Sl w (fun g => g < w.heap.size ∧ g ≠ pb) 1 (.slice a n c) n (ints .u8 bs)) (hb : Byt bs) (hpn : p ≤ n) (hn : n ≤ 140737488355328) (hlt : p < n) :
  Calls Tryd.prog 84 #[.pointer (some ⟨pb, 0, none⟩)] w (Ret fun v w' => v = .tuple #[.int .u8 (bs.getD p 0), .int .i64 0] ∧ Blk w' pb [.slice a n c, .int .i64 ((p + 1 : Nat) : Int)] ∧ Upd (Is pb) w w') := by
 have h := byte_spec w hp hs hb hpn hn
 rw [gbyte_in (by rw [ilen hs]; exact hlt)] at h
 exact h
theorem byte_end {pb : Nat} {a : Option Addr} {n c p : Nat} {bs : List Int} (w : World) (hp : Blk w pb [.slice a n c, .int .i64 ((p : Nat) : Int)]) (hs : Sl w (fun g => g < w.heap.size ∧ g ≠ pb) 1 (.slice a n c) n (ints .u8 bs)) (hb : Byt bs) (hpn : p ≤ n) (hn : n ≤ 140737488355328) (hlt : ¬ p < n) :
  Calls Tryd.prog 84 #[.pointer (some ⟨pb, 0, none⟩)] w (Ret fun v w' => v = .tuple #[.int .u8 0, .int .i64 3] ∧ Blk w' pb [.slice a n c, .int .i64 ((p : Nat) : Int)] ∧ Upd (Is pb) w w') := by
 have h := byte_spec w hp hs hb hpn hn
 rw [gbyte_end (by rw [ilen hs]; exact hlt)] at h
 exact h
theorem cvarint_clo {Bc : Nat} {pb : Nat} {a : Option Addr} {n c p : Nat} {bs : List Int} (w : World) (hc : Blk w Bc [.pointer (some ⟨pb, 0, none⟩)]) (hBc : Bc ≠ pb) (hp : Blk w pb [.slice a n c, .int .i64 ((p : Nat) : Int)]) (hs : Sl w (fun g => g < w.heap.size ∧ g ≠ pb) 1 (.slice a n c) n (ints .u8 bs)) (hb : Byt bs) (hpn : p ≤ n) (hn : n ≤ 140737488355328) :
  Calls Tryd.prog 105 #[.pointer (some ⟨Bc, 0, none⟩)] w (Ret fun v w' => ∃ x er, v = .tuple #[x, .int .i64 er] ∧ x.cells = #[x] ∧ x.oneCell' = true ∧ ∃ at1, Blk w' pb [.slice a n c, .int .i64 at1] ∧ Upd (Is pb) w w' ∧ er = (gvar bs p).2.2 ∧ ((gvar bs p).2.2 = 0 → x = .int .u64 (gvar bs p).1 ∧ at1 = (((gvar bs p).2.1 : Nat) : Int))) := by
 have HU : Upd (fun b => b = pb) w w := Upd.refl _ _
 have hl := ilen hs
 have hcap := hs.cap.1
 have hpl := hp.lt
 have hcl := hc.lt
 refine calls_of_W func105 rfl ntmps105 (by simp) ?_
 refine W_seq (W_region ?_)
 refine Was (.int .u64 0) ?_
 refine Was (.int .i64 0) ?_
 refine Wl_nil (W_seq (W_region ?_))
 refine Was (.int .u64 0) ?_
 refine Wl_nil (W_seq (W_seq (W_region ?_)))
 refine Wmv (.int .i64 0) ?_
 refine Wl_nil (W_block ?_)
 refine W_loop (fun mu ρ ds w' => ∃ (k : Nat), 9 - k = mu ∧ ds = [] ∧ Liv ρ [(0, .pointer (some ⟨Bc, 0, none⟩)), (3, .int .u64 (val ((bs.drop p).take k))), (7, .int .i64 ((k : Nat) : Int))] ∧ k ≤ 9 ∧ p + k ≤ n ∧ (∀ i, i < k → 128 ≤ bs.getD (p + i) 0) ∧ Blk w' pb [.slice a n c, .int .i64 ((p + k : Nat) : Int)] ∧ Upd (Is pb) w w') _ ⟨0, rfl, rfl, ⟨rfl, (Eq.trans (b := .int .u64 0) rfl (vint (by simp [val]))), (Eq.trans (b := .int .i64 0) rfl (vint (by omega))), trivial⟩, (by omega), (by omega), (fun i hi => absurd hi (by omega)), hp, Upd.refl _ _⟩ ?_
 rintro m1 ρ1 ds1 w1 ⟨k, rfl, rfl, hl1, hk9, hpk, hall, hp, hU1⟩
 obtain ⟨ρ1x, rfl⟩ : ∃ ρx, ρ1 = upds ρx [(0, .pointer (some ⟨Bc, 0, none⟩)), (3, .int .u64 (val ((bs.drop p).take k))), (7, .int .i64 ((k : Nat) : Int))] := ⟨_, upds_self hl1⟩
 clear hl1
 have hzw1 := hU1.size
 replace hs := hs.upd1 hU1 (show ¬ ((pb < w.heap.size ∧ pb ≠ pb)) by omega)
 replace hc := hc.upd1 hU1 (by omega)
 replace HU := HU.trans1 hU1 (by show (pb = pb) ∨ w.heap.size ≤ pb; omega)
 have HL1 := hU1
 refine W_seq (W_region ?_)
 refine Wl_v (r_lt rfl rfl) ?_
 refine Wl_nil (W_seq ?_)
 by_cases q1 : ((k : Nat) : Int) < 9
 ·have hvt := val_take (bs := bs) (p := p) (k := k) (by omega)
  rw [decide_eq_true q1]
  refine W_cond_t rfl ?_
  refine W_skip (W_seq (W_block (W_seq (W_region ?_))))
  refine Wmv (.int .i64 ((k : Nat) : Int)) ?_
  refine Was (.int .i64 ((k : Nat) : Int)) ?_
  refine Wl_nil (W_seq (W_region ?_))
  refine Wl_load (v := .pointer (some ⟨pb, 0, none⟩)) isAgg112 rfl hc rfl ?_
  by_cases q2 : p + k < n
  ·have hgb := byt_gd hb (p + k)
   refine Wl_call (r_call1 rfl call84 rfl) (byte_in _ hp (hs.cur (by intro h1; have h3 : (pb < w.heap.size ∧ pb ≠ pb) := h1; first | omega | simp at h3)) hb (by omega) (by omega) (by omega)) ?_
   rintro v w2 ⟨rfl, hp2, hU2⟩
   have hzw2 := hU2.size
   replace HU := HU.trans1 hU2 (by show (pb = pb) ∨ w.heap.size ≤ pb; omega)
   replace HL1 := HL1.trans1 hU2 (by show (pb = pb) ∨ w.heap.size ≤ pb; omega)
   have hbl_hp2 := hp2.lt
   refine Wmv (.tuple #[.int .u8 (bs.getD (p + k) 0), .int .i64 0]) ?_
   refine Wl_v (r_ext (v := .int .u8 (bs.getD (p + k) 0)) rfl rfl) ?_
   refine Wl_v (r_ext (v := .int .i64 0) rfl rfl) ?_
   refine Was (.int .u8 (bs.getD (p + k) 0)) ?_
   refine Was (.int .i64 0) ?_
   refine Wl_nil (W_seq (W_seq (W_region ?_)))
   refine Wmv (.int .i64 0) ?_
   refine Wl_v (v := .bool false) (r_ne (a := 0) (b := 0) rfl rfl) ?_
   refine Wl_nil ?_
   refine W_cond_f rfl ?_
   refine W_skip (W_seq (W_region ?_))
   refine Wmv (.int .u64 (val ((bs.drop p).take k))) ?_
   refine Wmv (.int .u8 (bs.getD (p + k) 0)) ?_
   refine Wl_v (r_and rfl rfl and127) ?_
   refine Wl_v (r_cvt underlying5 underlying93 rfl (wu64 (by omega) (by omega))) ?_
   refine Wmv (.int .i64 ((k : Nat) : Int)) ?_
   refine Wl_v (r_mul rfl rfl (wi64 (by omega) (by omega))) ?_
   refine Wl_v (r_shl rfl rfl (by omega) (shl7 (by omega) (by omega) (by omega))) ?_
   refine Wl_v (r_or rfl rfl (or7 (by omega) hvt.2 (by omega) (by omega) (by omega))) ?_
   have hvm := val_more (bs := bs) (p := p) (k := k) (by omega)
   rw [show (val ((bs.drop p).take k) + bs.getD (p + k) 0 % 128 * 128 ^ k : Int) = val ((bs.drop p).take (k + 1)) from hvm.symm]
   refine Was (.int .u64 (val ((bs.drop p).take (k + 1)))) ?_
   refine Wl_nil (W_seq (W_block (W_seq (W_region ?_))))
   refine Wmv (.int .u8 (bs.getD (p + k) 0)) ?_
   refine Wl_v (r_ge rfl rfl) ?_
   refine Was (.bool (decide (128 ≤ (bs.getD (p + k) 0)))) ?_
   refine Wl_nil ?_
   by_cases q3 : 128 ≤ (bs.getD (p + k) 0)
   ·rw [decide_eq_true q3]
    refine W_cond_t rfl ?_
    refine W_exit ?_
    refine W_region ?_
    refine Wl_v (r_add rfl rfl (wi64 (by omega) (by omega))) ?_
    refine Wmv (.int .i64 (((k : Nat) : Int) + 1)) ?_
    refine Wl_nil ?_
    refine ⟨_, ?_, (k + 1), rfl, rfl, ⟨rfl, (by first | rfl | exact vint (by omega) | exact vint (by simp)), (Eq.trans (b := .int .i64 (((k : Nat) : Int) + 1)) rfl (vint (by omega))), trivial⟩, (by omega), (by omega), (fun i hi => by rcases Nat.lt_or_ge i k with h | h; exact hall i h; rw [show i = k from by omega]; exact q3), hp2, HL1⟩
    omega
   rw [decide_eq_false q3]
   refine W_cond_f rfl ?_
   refine W_seq (W_region ?_)
   refine Wmv (.int .u8 (bs.getD (p + k) 0)) ?_
   refine Wl_v (r_eq rfl rfl) ?_
   refine Wmv (.bool (decide ((bs.getD (p + k) 0) = 0))) ?_
   by_cases q4 : (bs.getD (p + k) 0) = 0
   ·rw [decide_eq_true q4]
    refine Wl_guard_t rfl ?_
    refine Wmv (.int .i64 ((k : Nat) : Int)) ?_
    refine Wl_guard_t rfl ?_
    refine Wl_v (r_gt rfl rfl) ?_
    refine Wl_v (r_pick_t (v := .bool (decide (0 < ((k : Nat) : Int)))) rfl rfl) ?_
    refine Was (.bool (decide (0 < ((k : Nat) : Int)))) ?_
    refine Wl_nil ?_
    by_cases q5 : 0 < ((k : Nat) : Int)
    ·rw [decide_eq_true q5]
     refine W_cond_t rfl ?_
     refine W_seq (W_region ?_)
     refine Was (.int .u64 0) ?_
     refine Was (.int .i64 5) ?_
     refine Wl_nil ?_
     refine W_ret ?_
     refine ret_end (v := .tuple #[.int .u64 0, .int .i64 5]) rfl (res2 results105 rfl rfl) ?_
     rw [show gvar bs p = (0, p, 5) from gvar_min (k := k) (by omega) (by omega) hall (by omega) (by omega)]
     exact ⟨_, rfl, _, _, rfl, rfl, rfl, _, hp2, HU, rfl, fun h => absurd h (by simp)⟩
    rw [decide_eq_false q5]
    refine W_cond_f rfl ?_
    refine W_seq (W_region ?_)
    refine Wmv (.int .u64 (val ((bs.drop p).take (k + 1)))) ?_
    refine Wl_v (r_gt rfl rfl) ?_
    refine Was (.bool (decide (4611686018427387903 < (val ((bs.drop p).take (k + 1)))))) ?_
    refine Wl_nil ?_
    by_cases q6 : 4611686018427387903 < (val ((bs.drop p).take (k + 1)))
    ·rw [decide_eq_true q6]
     refine W_cond_t rfl ?_
     refine W_seq (W_region ?_)
     refine Was (.int .u64 0) ?_
     refine Was (.int .i64 18) ?_
     refine Wl_nil ?_
     refine W_ret ?_
     refine ret_end (v := .tuple #[.int .u64 0, .int .i64 18]) rfl (res2 results105 rfl rfl) ?_
     rw [show gvar bs p = (0, p, 18) from by rw [gvar_else (k := k) (by omega) (by omega) hall (by omega) (by omega), if_pos (by omega)]]
     exact ⟨_, rfl, _, _, rfl, rfl, rfl, _, hp2, HU, rfl, fun h => absurd h (by simp)⟩
    rw [decide_eq_false q6]
    refine W_cond_f rfl ?_
    refine W_skip (W_seq (W_region ?_))
    refine Wmv (.int .u64 (val ((bs.drop p).take (k + 1)))) ?_
    refine Was (.int .u64 (val ((bs.drop p).take (k + 1)))) ?_
    refine Was (.int .i64 0) ?_
    refine Wl_nil ?_
    refine W_ret ?_
    refine ret_end (v := .tuple #[.int .u64 (val ((bs.drop p).take (k + 1))), .int .i64 0]) rfl (res2 results105 rfl rfl) ?_
    rw [show gvar bs p = (val ((bs.drop p).take (k + 1)), p + k + 1, 0) from by rw [gvar_else (k := k) (by omega) (by omega) hall (by omega) (by omega), if_neg (by omega)]]
    exact ⟨_, rfl, _, _, rfl, rfl, rfl, _, hp2, HU, rfl, fun _ => ⟨rfl, rfl⟩⟩
   rw [decide_eq_false q4]
   refine Wl_guard_f rfl (Wl_guard_f rfl ?_)
   refine Wl_v (r_pick_f (v := .bool false) rfl rfl) ?_
   refine Was (.bool false) ?_
   refine Wl_nil ?_
   refine W_cond_f rfl ?_
   refine W_seq (W_region ?_)
   refine Wmv (.int .u64 (val ((bs.drop p).take (k + 1)))) ?_
   refine Wl_v (r_gt rfl rfl) ?_
   refine Was (.bool (decide (4611686018427387903 < (val ((bs.drop p).take (k + 1)))))) ?_
   refine Wl_nil ?_
   by_cases q7 : 4611686018427387903 < (val ((bs.drop p).take (k + 1)))
   ·rw [decide_eq_true q7]
    refine W_cond_t rfl ?_
    refine W_seq (W_region ?_)
    refine Was (.int .u64 0) ?_
    refine Was (.int .i64 18) ?_
    refine Wl_nil ?_
    refine W_ret ?_
    refine ret_end (v := .tuple #[.int .u64 0, .int .i64 18]) rfl (res2 results105 rfl rfl) ?_
    rw [show gvar bs p = (0, p, 18) from by rw [gvar_else (k := k) (by omega) (by omega) hall (by omega) (by omega), if_pos (by omega)]]
    exact ⟨_, rfl, _, _, rfl, rfl, rfl, _, hp2, HU, rfl, fun h => absurd h (by simp)⟩
   rw [decide_eq_false q7]
   refine W_cond_f rfl ?_
   refine W_skip (W_seq (W_region ?_))
   refine Wmv (.int .u64 (val ((bs.drop p).take (k + 1)))) ?_
   refine Was (.int .u64 (val ((bs.drop p).take (k + 1)))) ?_
   refine Was (.int .i64 0) ?_
   refine Wl_nil ?_
   refine W_ret ?_
   refine ret_end (v := .tuple #[.int .u64 (val ((bs.drop p).take (k + 1))), .int .i64 0]) rfl (res2 results105 rfl rfl) ?_
   rw [show gvar bs p = (val ((bs.drop p).take (k + 1)), p + k + 1, 0) from by rw [gvar_else (k := k) (by omega) (by omega) hall (by omega) (by omega), if_neg (by omega)]]
   exact ⟨_, rfl, _, _, rfl, rfl, rfl, _, hp2, HU, rfl, fun _ => ⟨rfl, rfl⟩⟩
  have hgb := byt_gd hb (p + k)
  refine Wl_call (r_call1 rfl call84 rfl) (byte_end _ hp (hs.cur (by intro h1; have h3 : (pb < w.heap.size ∧ pb ≠ pb) := h1; first | omega | simp at h3)) hb (by omega) (by omega) (by omega)) ?_
  rintro v w3 ⟨rfl, hp3, hU3⟩
  have hzw3 := hU3.size
  replace HU := HU.trans1 hU3 (by show (pb = pb) ∨ w.heap.size ≤ pb; omega)
  have hbl_hp3 := hp3.lt
  refine Wmv (.tuple #[.int .u8 0, .int .i64 3]) ?_
  refine Wl_v (r_ext (v := .int .u8 0) rfl rfl) ?_
  refine Wl_v (r_ext (v := .int .i64 3) rfl rfl) ?_
  refine Was (.int .u8 0) ?_
  refine Was (.int .i64 3) ?_
  refine Wl_nil (W_seq (W_seq (W_region ?_)))
  refine Wmv (.int .i64 3) ?_
  refine Wl_v (v := .bool true) (r_ne (a := 3) (b := 0) rfl rfl) ?_
  refine Wl_nil ?_
  refine W_cond_t rfl ?_
  refine W_seq (W_region ?_)
  refine Wmv (.int .i64 3) ?_
  refine Was (.int .u64 0) ?_
  refine Was (.int .i64 3) ?_
  refine Wl_nil ?_
  refine W_ret ?_
  refine ret_end (v := .tuple #[.int .u64 0, .int .i64 3]) rfl (res2 results105 rfl rfl) ?_
  rw [show gvar bs p = (0, p, 3) from gvar_short (k := k) (by omega) (by omega) hall]
  exact ⟨_, rfl, _, _, rfl, rfl, rfl, _, hp3, HU, rfl, fun h => absurd h (by simp)⟩
 rw [decide_eq_false q1]
 refine W_cond_f rfl ?_
 refine W_exit ?_
 refine W_seq (W_region ?_)
 refine Was (.int .u64 0) ?_
 refine Was (.int .i64 18) ?_
 refine Wl_nil ?_
 refine W_ret ?_
 refine ret_end (v := .tuple #[.int .u64 0, .int .i64 18]) rfl (res2 results105 rfl rfl) ?_
 rw [show gvar bs p = (0, p, 18) from gvar_long (k := k) (by omega) (by omega) hall (by omega)]
 exact ⟨_, rfl, _, _, rfl, rfl, rfl, _, hp, HU, rfl, fun h => absurd h (by simp)⟩
theorem cvarint_spec {pb : Nat} {a : Option Addr} {n c p : Nat} {bs : List Int} (w : World) (hp : Blk w pb [.slice a n c, .int .i64 ((p : Nat) : Int)]) (hs : Sl w (fun g => g < w.heap.size ∧ g ≠ pb) 1 (.slice a n c) n (ints .u8 bs)) (hb : Byt bs) (hpn : p ≤ n) (hn : n ≤ 140737488355328) :
  Calls Tryd.prog 89 #[.pointer (some ⟨pb, 0, none⟩)] w (Ret fun v w' => v = .tuple #[.int .u64 (gvar bs p).1, .int .i64 (gvar bs p).2.2] ∧ Blk w' pb [.slice a n c, .int .i64 (((gvar bs p).2.1 : Nat) : Int)] ∧ Upd (Is pb) w w') := by
 have HU : Upd (fun b => b = pb) w w := Upd.refl _ _
 have hl := ilen hs
 have hcap := hs.cap.1
 have hpl := hp.lt
 refine calls_of_W func89 rfl ntmps89 (by simp) ?_
 refine W_seq (W_region ?_)
 refine Wl_box (v := .pointer (some ⟨pb, 0, none⟩)) (cs := [.pointer (some ⟨pb, 0, none⟩)]) rfl rfl ?_
 intro B1 w1 hB1 hU1 hzz1 hb1
 have hzw1 := hU1.size
 replace hp := hp.upd0 hU1
 replace hs := hs.upd0 hU1
 replace HU := HU.trans0 hU1
 refine Was (.int .u64 0) ?_
 refine Was (.int .i64 0) ?_
 refine Wl_nil (W_seq (W_region ?_))
 refine Wl_load (v := .pointer (some ⟨pb, 0, none⟩)) isAgg112 rfl hb1 rfl ?_
 refine Wl_v (r_mkf1 (v0 := .pointer (some ⟨B1, 0, none⟩)) rfl) ?_
 refine Wl_call (r_call2 rfl call104 rfl rfl) (readU64_spec (Φ := fun x er at1 _ _ => er = (gvar bs p).2.2 ∧ ((gvar bs p).2.2 = 0 → x = .int .u64 (gvar bs p).1 ∧ at1 = (((gvar bs p).2.1 : Nat) : Int))) _ hp call105 (fun w1 hN => cvarint_clo w1 (hb1.upd0 hN) (by omega) (hp.upd0 hN) ((hs.upd0 hN).cur (show ¬ ((pb < w.heap.size ∧ pb ≠ pb)) by omega)) hb hpn hn)) ?_
 rintro v w2 ⟨x, er, at1, wa, wb, rfl, hpn2, hN, ⟨rfl, hat⟩, _, hU2⟩
 have hzw2 := hU2.size
 replace HU := HU.trans1 hU2 (by show (pb = pb) ∨ w.heap.size ≤ pb; omega)
 refine Wl_v (r_ext (v := if (gvar bs p).2.2 = 0 then x else .int .u64 0) rfl rfl) ?_
 refine Wl_v (r_ext (v := .int .i64 ((gvar bs p).2.2)) rfl rfl) ?_
 refine Was (if (gvar bs p).2.2 = 0 then x else .int .u64 0) ?_
 refine Was (.int .i64 ((gvar bs p).2.2)) ?_
 refine Wl_nil ?_
 refine W_ret ?_
 refine ret_end (v := .tuple #[if (gvar bs p).2.2 = 0 then x else .int .u64 0, .int .i64 ((gvar bs p).2.2)]) rfl (res2 results89 rfl rfl) ?_
 have he : (gvar bs p).2.2 ≠ 0 → (gvar bs p).1 = 0 ∧ (gvar bs p).2.1 = p := fun h => (gvar_props bs p (by omega)).2.2.2.2.2.2 h
 refine ⟨_, rfl, ?_, ?_, HU⟩
 ·by_cases h : (gvar bs p).2.2 = 0
  ·rw [if_pos h, (hat h).1]
  rw [if_neg h, (he h).1]
 by_cases h : (gvar bs p).2.2 = 0
 ·rw [if_pos h, (hat h).2] at hpn2; exact hpn2
 rw [if_neg h] at hpn2; rw [(he h).2]; exact hpn2
end Go.Proofs.YtbjjhfoeckkacaaDoor
