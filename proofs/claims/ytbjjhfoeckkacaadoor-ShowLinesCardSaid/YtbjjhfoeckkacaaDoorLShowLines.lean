/-
  Several texts of this project, put together.
-/
import Derived.Test.YtbjjhfoeckkacaaDoorSw
import Derived.Test.YtbjjhfoeckkacaaDoorCards
import Derived.Test.YtbjjhfoeckkacaaDoorTie
import Derived.Lay
import Derived.LaidLaws
import Derived.MakeChecks
import Derived.Stop.LaidErr
import Derived.Lib.LaidTab
import Derived.SevenTiedAt
set_option linter.unusedVariables false
set_option linter.unusedSimpArgs false
namespace Go.Proofs.YtbjjhfoeckkacaaDoor.showLines
open Go.Fw Go.ChangeShapes Go.WideShapes Go.ChangeAt Go.RowKit
def encH (x : Int × Int × Int × Bool) : List Value := [.int .i64 x.1, .int .i64 x.2.1, .int .u32 x.2.2.1, .bool (decide (x.2.2.2 = true))]
theorem opHead {H : Type} {enc : TypeId × Value → H} {W : World} {fuel : Nat} {cs : List Value} {y : DataW H × List MemPlace} (h : DataW.trod enc Tryd.prog W 0 (fun _ => true) true fuel 41 cs = some y) : ∃ x : Int × Int × Int × Bool, cs = encH x ∧ (fun x => (-9223372036854775808 ≤ x.1 ∧ x.1 ≤ 9223372036854775807) ∧ (-9223372036854775808 ≤ x.2.1 ∧ x.2.1 ≤ 9223372036854775807) ∧ (0 ≤ x.2.2.1 ∧ x.2.2.1 ≤ 4294967295)) x := by
  obtain ⟨hl, x0, e0, w0⟩ := fld_int (k := .i64) Tryd.underlying41 h (i := 0) rfl Tryd.underlying3 (by kernel_rfl)
  have b0 : -9223372036854775808 ≤ x0 ∧ x0 ≤ 9223372036854775807 := by simpa [Lit.wf, IntKind.min, IntKind.max, IntKind.signed, IntKind.bits] using w0
  obtain ⟨hl, x1, e1, w1⟩ := fld_int (k := .i64) Tryd.underlying41 h (i := 1) rfl Tryd.underlying3 (by kernel_rfl)
  have b1 : -9223372036854775808 ≤ x1 ∧ x1 ≤ 9223372036854775807 := by simpa [Lit.wf, IntKind.min, IntKind.max, IntKind.signed, IntKind.bits] using w1
  obtain ⟨hl, x2, e2, w2⟩ := fld_int (k := .u32) Tryd.underlying41 h (i := 2) rfl Tryd.underlying39 (by kernel_rfl)
  have b2 : 0 ≤ x2 ∧ x2 ≤ 4294967295 := by simpa [Lit.wf, IntKind.min, IntKind.max, IntKind.signed, IntKind.bits] using w2
  obtain ⟨hl, x3, e3⟩ := fld_bool Tryd.underlying41 h (i := 3) rfl Tryd.underlying4 (by kernel_rfl)
  rw [show (Tryd.prog).cellsOf 41 = 4 from by kernel_rfl] at hl
  match cs, hl, e0, e1, e2, e3 with
  | [c0, c1, c2, c3], _, e0, e1, e2, e3 =>
    simp at e0
    simp at e1
    simp at e2
    simp at e3
    subst e0 e1 e2 e3
    exact ⟨(x0, x1, x2, x3), (by cases x3 <;> rfl), ⟨b0, b1, b2⟩⟩
theorem rg_of_wf {xs : List Int} (h : ∀ x ∈ xs, (Lit.int .i64 x).wf = true) (i : Nat) : rg (xs.getD i 0) := by
  rw [List.getD_eq_getElem?_getD]
  cases e : xs[i]? with
  | none => exact ⟨by decide, by decide⟩
  | some y =>
    have := h y (List.mem_of_getElem? e)
    simp [Lit.wf, IntKind.min, IntKind.max, IntKind.signed, IntKind.bits] at this
    exact ⟨by simp; omega, by simp; omega⟩
theorem lines_b {i0 i1 i2 ck : Int} {s3 : Bool} {hd : Hd} {a b d : Option Addr} {n6 n7 n8 c6 c7 c8 : Nat} {ks ss st : List Int} {g0 : Nat} (w : World) (ht : Tab w g0) (h0 : rg i0) (h1 : rg i1) (h2 : rg i2) (h3 : rg hd.1) (h4 : rg hd.2.1) (h5 : 0 ≤ hd.2.2.1 ∧ hd.2.2.1 < 4294967296) (h6 : 0 ≤ ck ∧ ck < 4294967296) (hs6 : Sl w (fun g => g < w.heap.size) 1 (.slice a n6 c6) n6 (ints .i64 ks)) (hs7 : Sl w (fun g => g < w.heap.size) 1 (.slice b n7 c7) n7 (ints .i64 ss)) (hs8 : Sl w (fun g => g < w.heap.size) 1 (.slice d n8 c8) n8 (ints .i64 st)) (r6 : ∀ i, rg (ks.getD i 0)) (r7 : ∀ i, rg (ss.getD i 0)) (r8 : ∀ i, rg (st.getD i 0)) (m6 : n6 ≤ 140737488351232) (m7 : n7 ≤ 140737488351232) (m8 : n8 ≤ 140737488351232) :
  Calls Tryd.prog 5 #[.int .i64 i0, .int .i64 i1, .int .i64 i2, .bool s3, .agg #[.int .i64 hd.1, .int .i64 hd.2.1, .int .u32 hd.2.2.1, .bool (decide (hd.2.2.2 = true))], .int .u32 ck, .slice a n6 c6, .slice b n7 c7, .slice d n8 c8] w (Ret fun v w' => v = .bool true ∧ Upd No w w') := by
  have h := showlines (s3 := s3) w ht h0 h1 h2 h3 h4 h5 h6 hs6 hs7 hs8 r6 r7 r8 m6 m7 m8
  rwa [Bool.decide_eq_true] at h
theorem own : ownKnob Tryd.prog.godebug = none := by kernel_rfl
theorem laid : laidOutB Tryd.prog = true := by kernel_rfl
set_option maxRecDepth 100000 in
theorem contract (H : Type) (enc : TypeId × Value → H) (W : World) (base : Nat) (args : Array Value) (ds gs : List (DataW H)) (before : List MemPlace)
    (hval : ∀ (j : Nat) t v, Tryd.f5.params[j]? = some t → args[j]? = some v → Value.okWide Tryd.prog W .any base t v)
    (hW : DataW.Whole enc Tryd.prog Tryd.f5.params.toList Rows.showLinesSpec.vars false W args.toList ds gs before)
    (hsz : (DataW.weightsEach Tryd.prog (Tryd.f5.params.toList ++ Rows.showLinesSpec.plain.varTypes Tryd.prog) (ds ++ gs)).all (· ≤ reachBytes) = true) (hT : Tab W W.heap.size) :
    Calls Tryd.prog 5 args W fun e W' => ∃ v, e = .returned v ∧ Rows.showLinesSpec.post enc Tryd.prog Tryd.f5 false true false false W args v W' := by
  have hW' := hW
  obtain ⟨p, q, hA0, hV, rfl, hfz, hnd⟩ := hW
  have hA : DataW.TrodAll enc Tryd.prog W 0 (fun _ => true) true Tryd.f5.params.toList args.toList ds p := hA0
  rw [Tryd.params5] at hA hval
  obtain ⟨v0, vs0, d0, ds0, p0, q0, hargs, rfl, rfl, h0, r0⟩ := trodAll_cons hA
  obtain ⟨v1, vs1, d1, ds1, p1, q1, rfl, rfl, rfl, h1, r1⟩ := trodAll_cons r0
  obtain ⟨v2, vs2, d2, ds2, p2, q2, rfl, rfl, rfl, h2, r2⟩ := trodAll_cons r1
  obtain ⟨v3, vs3, d3, ds3, p3, q3, rfl, rfl, rfl, h3, r3⟩ := trodAll_cons r2
  obtain ⟨v4, vs4, d4, ds4, p4, q4, rfl, rfl, rfl, h4, r4⟩ := trodAll_cons r3
  obtain ⟨v5, vs5, d5, ds5, p5, q5, rfl, rfl, rfl, h5, r5⟩ := trodAll_cons r4
  obtain ⟨v6, vs6, d6, ds6, p6, q6, rfl, rfl, rfl, h6, r6⟩ := trodAll_cons r5
  obtain ⟨v7, vs7, d7, ds7, p7, q7, rfl, rfl, rfl, h7, r7⟩ := trodAll_cons r6
  obtain ⟨v8, vs8, d8, ds8, p8, q8, rfl, rfl, rfl, h8, r8⟩ := trodAll_cons r7
  obtain ⟨rfl, rfl, rfl⟩ := trodAll_nil r8
  obtain rfl : args = #[v0, v1, v2, v3, v4, v5, v6, v7, v8] := by cases args; simp_all
  obtain ⟨rfl, rfl⟩ := trodVars_none hV
  obtain ⟨i0, rfl, rfl, rfl, w0⟩ := open_int Tryd.underlying3 (hval 0 3 v0 rfl rfl) h0
  have hi0 : -9223372036854775808 ≤ i0 ∧ i0 ≤ 9223372036854775807 := by simpa [Lit.wf, IntKind.min, IntKind.max, IntKind.signed, IntKind.bits] using w0
  obtain ⟨i1, rfl, rfl, rfl, w1⟩ := open_int Tryd.underlying3 (hval 1 3 v1 rfl rfl) h1
  have hi1 : -9223372036854775808 ≤ i1 ∧ i1 ≤ 9223372036854775807 := by simpa [Lit.wf, IntKind.min, IntKind.max, IntKind.signed, IntKind.bits] using w1
  obtain ⟨i2, rfl, rfl, rfl, w2⟩ := open_int Tryd.underlying3 (hval 2 3 v2 rfl rfl) h2
  have hi2 : -9223372036854775808 ≤ i2 ∧ i2 ≤ 9223372036854775807 := by simpa [Lit.wf, IntKind.min, IntKind.max, IntKind.signed, IntKind.bits] using w2
  obtain ⟨i3, rfl, rfl, rfl⟩ := open_bool Tryd.underlying4 (hval 3 4 v3 rfl rfl) h3
  obtain ⟨cs4, rfl, _⟩ := agg_of_ok Tryd.underlying41 (hval 4 41 v4 rfl rfl)
  obtain ⟨fu4, hf4⟩ := h4
  obtain ⟨x4, hx4, hw4⟩ := opHead hf4
  obtain rfl : cs4 = (encH x4).toArray := by rw [← hx4]; rfl
  obtain ⟨i5, rfl, rfl, rfl, w5⟩ := open_int Tryd.underlying39 (hval 5 39 v5 rfl rfl) h5
  have hi5 : 0 ≤ i5 ∧ i5 ≤ 4294967295 := by simpa [Lit.wf, IntKind.min, IntKind.max, IntKind.signed, IntKind.bits] using w5
  obtain ⟨a6, n6, c6, x6, rfl, hs6, hw6, hd6⟩ := sl_of_trod Tryd.underlying42 Tryd.underlying3 (by kernel_rfl) (hval 6 42 v6 rfl rfl) h6
  have hn6 : n6 * 8 ≤ 140737488351232 := by
    rcases hd6 with rfl | ⟨el, sp, rfl, he⟩
    · simp
    have h1 := sized_slice hsz (j := 6) (t := 42) (e := 3) rfl rfl Tryd.underlying42
    rw [show (Tryd.prog).bytesOf 3 = 8 from by kernel_rfl, show reachBytes = 140737488351232 from rfl] at h1
    omega
  obtain ⟨a7, n7, c7, x7, rfl, hs7, hw7, hd7⟩ := sl_of_trod Tryd.underlying42 Tryd.underlying3 (by kernel_rfl) (hval 7 42 v7 rfl rfl) h7
  have hn7 : n7 * 8 ≤ 140737488351232 := by
    rcases hd7 with rfl | ⟨el, sp, rfl, he⟩
    · simp
    have h1 := sized_slice hsz (j := 7) (t := 42) (e := 3) rfl rfl Tryd.underlying42
    rw [show (Tryd.prog).bytesOf 3 = 8 from by kernel_rfl, show reachBytes = 140737488351232 from rfl] at h1
    omega
  obtain ⟨a8, n8, c8, x8, rfl, hs8, hw8, hd8⟩ := sl_of_trod Tryd.underlying42 Tryd.underlying3 (by kernel_rfl) (hval 8 42 v8 rfl rfl) h8
  have hn8 : n8 * 8 ≤ 140737488351232 := by
    rcases hd8 with rfl | ⟨el, sp, rfl, he⟩
    · simp
    have h1 := sized_slice hsz (j := 8) (t := 42) (e := 3) rfl rfl Tryd.underlying42
    rw [show (Tryd.prog).bytesOf 3 = 8 from by kernel_rfl, show reachBytes = 140737488351232 from rfl] at h1
    omega
  refine (lines_b W hT hi0 hi1 hi2 hw4.1 hw4.2.1 ⟨hw4.2.2.1, (by have := hw4.2.2.2; omega)⟩ ⟨hi5.1, (by omega)⟩ hs6 hs7 hs8 (rg_of_wf hw6) (rg_of_wf hw7) (rg_of_wf hw8) (by omega) (by omega) (by omega)).mono fun e W' ⟨v, he, hv, hU⟩ => ?_
  subst hv
  exact ⟨_, he, law_post laid (by kernel_rfl) rfl Tryd.underlying4 rfl hW' rfl hU⟩
theorem tab_of {W : World} (h : laidMetH Tryd.prog Rows.showLinesRow.laid W) : Tab W W.heap.size := by
  rw [MakeChecks.laidMetH_plain _ _ _ (by kernel_rfl)] at h
  exact ⟨Nat.le_refl _, Lib.tabBelow_of_tabIs (Lib.tabIs_of_head (g := 0) (rest := []) (by kernel_rfl) (by kernel_rfl) Tryd.underlying168 Tryd.underlying93 (by kernel_rfl) (by kernel_rfl) h.tail.tail)⟩
set_option maxRecDepth 100000 in
theorem lifted (os : Os) (started : os.Started) (H : Type) (enc : TypeId × Value → H) :
    ReturnsInHanded {} Tryd.checked os 5 .any (fun w args => (Rows.showLinesSpec.pre enc Tryd.prog Tryd.f5 [] false w args ∧ laidMetH Tryd.prog Rows.showLinesRow.laid w) ∧ sizedMet enc Tryd.prog Tryd.f5 (OpenSpec.ofChange Rows.showLinesSpec) false w args)
      (Rows.showLinesSpec.post enc Tryd.prog Tryd.f5 false true false false) := by
  refine returnsInHanded_of_change_and (C := Tryd.checked) (X := fun w _ => laidMetH Tryd.prog Rows.showLinesRow.laid w) (fun _ _ _ hh h => h.of_heap hh) own started (by kernel_rfl) Tryd.func5
    (ChangeSpec.witness_shaped (enc := enc) (C := Tryd.checked) (os := os) (X := fun w _ => laidMetH Tryd.prog Rows.showLinesRow.laid w) false (World.laidAll Tryd.prog os Rows.showLinesRow.laid) #[.int .i64 0, .int .i64 0, .int .i64 0, .bool false, .agg #[.int .i64 0, .int .i64 0, .int .u32 0, .bool false], .int .u32 0, .slice none 0 0, .slice none 0 0, .slice none 0 0] 8 (World.laidAll_os _ _ _)
      (World.shaped_of_ZipB (by kernel_rfl) (by kernel_rfl)) (by kernel_rfl) (by kernel_rfl) (by kernel_rfl)
      (by rw [MakeChecks.laidMetH_plain _ _ _ (by kernel_rfl)]; exact laidMet_laidAll _ (by kernel_rfl) (by kernel_rfl))) ?_
  intro W base args ds gs before hval hW _ hsz hL _
  exact contract H enc W base args ds gs before hval hW hsz (tab_of hL)
theorem over : Rows.showLinesRow.holds Tryd.pinned (OpenSpec.ofChange Rows.showLinesSpec) :=
  OpenClaim.holds_of_wide 5 Tryd.f5 rfl rfl rfl rfl rfl rfl rfl ⟨rfl, rfl, rfl, rfl, rfl⟩ rfl rfl rfl rfl rfl (by kernel_rfl) Tryd.func5 (by kernel_rfl)
    (of_decide_eq_true (by kernel_rfl)) (by unfold Func.isWrapper; first | (rw [if_pos (by decide +kernel)]; kernel_rfl) | (rw [if_neg (by decide +kernel)]; exact ⟨rfl, rfl⟩))
    (fun os started H enc _ => lifted os started H enc)
theorem proved : Rows.ShowLinesCardSaid :=
  Claim7.holds_tied_plain_at .later [] _ true _ true over (fun _ h => by cases h) (by kernel_rfl) (fun _ h => by cases h) showLines_row_tie rfl ⟨rfl, rfl⟩ (by kernel_rfl) rfl
    (fun f fn hf hfn => by
      obtain rfl : f = 5 := Option.some.inj ((show Tryd.prog.funcNamed Rows.showLinesRow.func = some 5 by kernel_rfl).symm.trans hf) |>.symm
      obtain rfl : fn = Tryd.f5 := (Option.some.inj (Tryd.func5.symm.trans hfn)).symm
      exact ⟨by kernel_rfl, fun j t ht => by
        rw [Tryd.params5] at ht
        have hm : t ∈ [3, 3, 3, 4, 41, 39, 42, 42, 42] := by simpa using Array.mem_of_getElem? ht
        have hall : ([3, 3, 3, 4, 41, 39, 42, 42, 42].all fun u => !Tryd.prog.wantsStandIn u) = true := by kernel_rfl
        exact (show Tryd.prog.wantsStandIn t = false by simpa using List.all_eq_true.1 hall t hm)⟩)
    (by kernel_rfl)
end Go.Proofs.YtbjjhfoeckkacaaDoor.showLines
