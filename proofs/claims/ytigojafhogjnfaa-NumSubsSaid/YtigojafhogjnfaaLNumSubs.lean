/-
  NumSubs: whatever the bytes, the two numbers and the calls, the law yields true, and its arguments read as before. No condition.
-/
import Derived.Test.YtigojafhogjnfaaMh
set_option linter.unusedVariables false
namespace Go.Proofs.Ytigojafhogjnfaa.numSubs
open Go.Fw Go.ChangeShapes Go.WideShapes Go.ChangeAt Go.RowKit
theorem opCall {H : Type} {enc : TypeId × Value → H} {W : World} {fuel : Nat} {cs : List Value} {y : DataW H × List MemPlace} (h : DataW.trod enc Try.prog W 0 (fun _ => true) true fuel 56 cs = some y) : ∃ x : Int × Int, cs = encCall x ∧ (fun x => (-9223372036854775808 ≤ x.1 ∧ x.1 ≤ 9223372036854775807) ∧ (-9223372036854775808 ≤ x.2 ∧ x.2 ≤ 9223372036854775807)) x := by
  obtain ⟨hl, x0, e0, w0⟩ := fld_int (k := .i64) Try.underlying56 h (i := 0) rfl Try.underlying3 (by kernel_rfl)
  have b0 : -9223372036854775808 ≤ x0 ∧ x0 ≤ 9223372036854775807 := by simpa [Lit.wf, IntKind.min, IntKind.max, IntKind.signed, IntKind.bits] using w0
  obtain ⟨hl, x1, e1, w1⟩ := fld_int (k := .i64) Try.underlying56 h (i := 1) rfl Try.underlying3 (by kernel_rfl)
  have b1 : -9223372036854775808 ≤ x1 ∧ x1 ≤ 9223372036854775807 := by simpa [Lit.wf, IntKind.min, IntKind.max, IntKind.signed, IntKind.bits] using w1
  rw [show (Try.prog).cellsOf 56 = 2 from by kernel_rfl] at hl
  match cs, hl, e0, e1 with
  | [c0, c1], _, e0, e1 =>
    simp at e0
    simp at e1
    subst e0 e1
    exact ⟨(x0, x1), rfl, ⟨b0, b1⟩⟩
theorem own : ownKnob Try.prog.godebug = none := by kernel_rfl
theorem laid : laidOutB Try.prog = true := by kernel_rfl
theorem contract (H : Type) (enc : TypeId × Value → H) (W : World) (base : Nat) (args : Array Value) (ds gs : List (DataW H)) (before : List MemPlace)
    (hval : ∀ (j : Nat) t v, Try.f11.params[j]? = some t → args[j]? = some v → Value.okWide Try.prog W .any base t v)
    (hW : DataW.Whole enc Try.prog Try.f11.params.toList Rows.numSubsSpec.vars false W args.toList ds gs before)
    (hsz : (DataW.weightsEach Try.prog (Try.f11.params.toList ++ Rows.numSubsSpec.plain.varTypes Try.prog) (ds ++ gs)).all (· ≤ reachBytes) = true) :
    Calls Try.prog 11 args W fun e W' => ∃ v, e = .returned v ∧ Rows.numSubsSpec.post enc Try.prog Try.f11 false true false false W args v W' := by
  have hW' := hW
  obtain ⟨p, q, hA0, hV, rfl, hfz, hnd⟩ := hW
  have hA : DataW.TrodAll enc Try.prog W 0 (fun _ => true) true Try.f11.params.toList args.toList ds p := hA0
  rw [Try.params11] at hA hval
  obtain ⟨v0, vs0, d0, ds0, p0, q0, hargs, rfl, rfl, h0, r0⟩ := trodAll_cons hA
  obtain ⟨v1, vs1, d1, ds1, p1, q1, rfl, rfl, rfl, h1, r1⟩ := trodAll_cons r0
  obtain ⟨v2, vs2, d2, ds2, p2, q2, rfl, rfl, rfl, h2, r2⟩ := trodAll_cons r1
  obtain ⟨v3, vs3, d3, ds3, p3, q3, rfl, rfl, rfl, h3, r3⟩ := trodAll_cons r2
  obtain ⟨rfl, rfl, rfl⟩ := trodAll_nil r3
  obtain rfl : args = #[v0, v1, v2, v3] := by cases args; simp_all
  obtain ⟨rfl, rfl⟩ := trodVars_none hV
  obtain ⟨a0, n0, c0, x0, rfl, hs0, hw0, hd0⟩ := sl_of_trod Try.underlying22 Try.underlying5 (by kernel_rfl) (hval 0 22 v0 rfl rfl) h0
  have hn0 : n0 * 1 ≤ 140737488351232 := by
    rcases hd0 with rfl | ⟨el, sp, rfl, he⟩
    · simp
    · have h1 := sized_slice hsz (j := 0) (t := 22) (e := 5) rfl rfl Try.underlying22
      rw [show (Try.prog).bytesOf 5 = 1 from by kernel_rfl, show reachBytes = 140737488351232 from rfl] at h1
      omega
  have hb0 := byt_of_wf hw0
  obtain ⟨i1, rfl, rfl, rfl, w1⟩ := open_int Try.underlying3 (hval 1 3 v1 rfl rfl) h1
  have hi1 : -9223372036854775808 ≤ i1 ∧ i1 ≤ 9223372036854775807 := by simpa [Lit.wf, IntKind.min, IntKind.max, IntKind.signed, IntKind.bits] using w1
  obtain ⟨i2, rfl, rfl, rfl, w2⟩ := open_int Try.underlying3 (hval 2 3 v2 rfl rfl) h2
  have hi2 : -9223372036854775808 ≤ i2 ∧ i2 ≤ 9223372036854775807 := by simpa [Lit.wf, IntKind.min, IntKind.max, IntKind.signed, IntKind.bits] using w2
  obtain ⟨a3, n3, c3, x3, rfl, hs3, hw3, hd3⟩ := slr_of_trod (en := encCall) (okx := fun x => (-9223372036854775808 ≤ x.1 ∧ x.1 ≤ 9223372036854775807) ∧ (-9223372036854775808 ≤ x.2 ∧ x.2 ≤ 9223372036854775807)) (0, 0) Try.underlying52 (by kernel_rfl) (by decide) encCall_len (fun _ _ _ h => opCall h) (hval 3 52 v3 rfl rfl) h3
  have hn3 : n3 * 16 ≤ 140737488351232 := by
    rcases hd3 with rfl | ⟨el, sp, rfl, he⟩
    · simp
    · have h1 := sized_slice hsz (j := 3) (t := 52) (e := 56) rfl rfl Try.underlying52
      rw [show (Try.prog).bytesOf 56 = 16 from by kernel_rfl, show reachBytes = 140737488351232 from rfl] at h1
      have h2 : el.length * 16 ≤ (el.length + sp.length) * 16 := Nat.mul_le_mul_right _ (by omega)
      omega
  refine (numsubs W hs0 hb0 (by omega) (by omega) (by omega) hs3 hw3).mono fun e W' ⟨v, he, hv, hU⟩ => ?_
  subst hv
  exact ⟨_, he, law_post laid (by kernel_rfl) rfl Try.underlying4 rfl hW' rfl hU⟩
set_option maxRecDepth 100000 in
theorem lifted (os : Os) (started : os.Started) (H : Type) (enc : TypeId × Value → H) :
    ReturnsInHanded {} Try.checked os 11 .any (Rows.numSubsSpec.pre6 enc Try.prog Try.f11 Rows.numSubsRow.domain false) (Rows.numSubsSpec.post enc Try.prog Try.f11 false true false false) := by
  refine returnsInHanded_of_change_sized (C := Try.checked) own started (by kernel_rfl) Try.func11
    (ChangeSpec.witness6 (enc := enc) (C := Try.checked) false ⟨#[], #[.slice none 0 0, .int .i64 0, .int .i64 0, .slice none 0 0], []⟩ 8 (by kernel_rfl) (by kernel_rfl) (by kernel_rfl) (by kernel_rfl)) ?_
  intro W base args ds gs before hval hW _ hsz _
  exact contract H enc W base args ds gs before hval hW hsz
theorem over : Rows.numSubsRow.holds Try.pinned (OpenSpec.ofChange Rows.numSubsSpec) :=
  OpenClaim.holds_of_wide 11 Try.f11 rfl rfl rfl rfl rfl rfl rfl ⟨rfl, rfl, rfl, rfl, rfl⟩ rfl rfl rfl rfl rfl (by kernel_rfl) Try.func11 (by kernel_rfl)
    (of_decide_eq_true (by kernel_rfl)) (by unfold Func.isWrapper; first | (rw [if_pos (by decide +kernel)]; kernel_rfl) | (rw [if_neg (by decide +kernel)]; exact ⟨rfl, rfl⟩))
    (fun os started H enc _ => lifted os started H enc)
theorem proved : Rows.NumSubsSaid :=
  over
end Go.Proofs.Ytigojafhogjnfaa.numSubs
