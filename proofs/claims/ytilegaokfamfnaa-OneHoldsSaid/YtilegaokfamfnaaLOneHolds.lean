/-
  OneHolds: whatever the arguments, the law yields true, and its arguments read as before. No condition.
-/
import Derived.Test.YtilegaokfamfnaaZo
import Derived.Test.YtilegaokfamfnaaLw
set_option linter.unusedVariables false
set_option linter.unusedSimpArgs false
namespace Go.Proofs.Ytilegaokfamfnaa.oneHolds
open Go.Fw Go.ChangeShapes Go.WideShapes Go.ChangeAt Go.RowKit

theorem own : ownKnob Try.prog.godebug = none := by kernel_rfl
theorem laid : laidOutB Try.prog = true := by kernel_rfl
set_option maxRecDepth 100000 in
theorem contract (H : Type) (enc : TypeId × Value → H) (W : World) (base : Nat) (args : Array Value) (ds gs : List (DataW H)) (before : List MemPlace)
    (hval : ∀ (j : Nat) t v, Try.f10.params[j]? = some t → args[j]? = some v → Value.okWide Try.prog W .any base t v)
    (hW : DataW.Whole enc Try.prog Try.f10.params.toList Rows.oneHoldsSpec.vars false W args.toList ds gs before)
    (hsz : (DataW.weightsEach Try.prog (Try.f10.params.toList ++ Rows.oneHoldsSpec.plain.varTypes Try.prog) (ds ++ gs)).all (· ≤ reachBytes) = true) :
    Calls Try.prog 10 args W fun e W' => ∃ v, e = .returned v ∧ Rows.oneHoldsSpec.post enc Try.prog Try.f10 false true false false W args v W' := by
  have hW' := hW
  obtain ⟨p, q, hA0, hV, rfl, hfz, hnd⟩ := hW
  have hA : DataW.TrodAll enc Try.prog W 0 (fun _ => true) true Try.f10.params.toList args.toList ds p := hA0
  rw [Try.params10] at hA hval
  obtain ⟨v0, vs0, d0, ds0, p0, q0, hargs, rfl, rfl, h0, r0⟩ := trodAll_cons hA
  obtain ⟨v1, vs1, d1, ds1, p1, q1, rfl, rfl, rfl, h1, r1⟩ := trodAll_cons r0
  obtain ⟨v2, vs2, d2, ds2, p2, q2, rfl, rfl, rfl, h2, r2⟩ := trodAll_cons r1
  obtain ⟨v3, vs3, d3, ds3, p3, q3, rfl, rfl, rfl, h3, r3⟩ := trodAll_cons r2
  obtain ⟨rfl, rfl, rfl⟩ := trodAll_nil r3
  obtain rfl : args = #[v0, v1, v2, v3] := by cases args; simp_all
  obtain ⟨rfl, rfl⟩ := trodVars_none hV
  obtain ⟨a0, n0, c0, x0, rfl, hs0, hw0, hd0⟩ := sl_of_trod Try.underlying22 Try.underlying3 (by kernel_rfl) (hval 0 22 v0 rfl rfl) h0
  have hn0 : n0 * 8 ≤ 140737488351232 := by
    rcases hd0 with rfl | ⟨el, sp, rfl, he⟩
    · simp
    · have h1 := sized_slice hsz (j := 0) (t := 22) (e := 3) rfl rfl Try.underlying22
      rw [show (Try.prog).bytesOf 3 = 8 from by kernel_rfl, show reachBytes = 140737488351232 from rfl] at h1
      omega
  obtain ⟨a1, n1, c1, x1, rfl, hs1, hw1, hd1⟩ := sl_of_trod Try.underlying23 Try.underlying5 (by kernel_rfl) (hval 1 23 v1 rfl rfl) h1
  have hn1 : n1 * 1 ≤ 140737488351232 := by
    rcases hd1 with rfl | ⟨el, sp, rfl, he⟩
    · simp
    · have h1 := sized_slice hsz (j := 1) (t := 23) (e := 5) rfl rfl Try.underlying23
      rw [show (Try.prog).bytesOf 5 = 1 from by kernel_rfl, show reachBytes = 140737488351232 from rfl] at h1
      omega
  have hb1 := byt_of_wf hw1
  obtain ⟨i2, rfl, rfl, rfl, w2⟩ := open_int Try.underlying48 (hval 2 48 v2 rfl rfl) h2
  have hi2 : 0 ≤ i2 ∧ i2 ≤ 65535 := by simpa [Lit.wf, IntKind.min, IntKind.max, IntKind.signed, IntKind.bits] using w2
  obtain ⟨a3, n3, c3, x3, rfl, hs3, hw3, hd3⟩ := sl_of_trod Try.underlying23 Try.underlying5 (by kernel_rfl) (hval 3 23 v3 rfl rfl) h3
  have hn3 : n3 * 1 ≤ 140737488351232 := by
    rcases hd3 with rfl | ⟨el, sp, rfl, he⟩
    · simp
    · have h1 := sized_slice hsz (j := 3) (t := 23) (e := 5) rfl rfl Try.underlying23
      rw [show (Try.prog).bytesOf 5 = 1 from by kernel_rfl, show reachBytes = 140737488351232 from rfl] at h1
      omega
  have hb3 := byt_of_wf hw3
  refine (oneholds W hs0 (by omega) hs1 hb1 (by omega) hs3 hb3 (by omega) (by omega)).mono fun e W' ⟨v, he, hv, hU⟩ => ?_
  subst hv
  exact ⟨_, he, law_post laid (by kernel_rfl) rfl Try.underlying4 rfl hW' rfl hU⟩
set_option maxRecDepth 100000 in
theorem lifted (os : Os) (started : os.Started) (H : Type) (enc : TypeId × Value → H) :
    ReturnsInHanded {} Try.checked os 10 .any (Rows.oneHoldsSpec.pre6 enc Try.prog Try.f10 Rows.oneHoldsRow.domain false) (Rows.oneHoldsSpec.post enc Try.prog Try.f10 false true false false) := by
  refine returnsInHanded_of_change_sized (C := Try.checked) own started (by kernel_rfl) Try.func10
    (ChangeSpec.witness6 (enc := enc) (C := Try.checked) false ⟨#[], #[.slice none 0 0, .slice none 0 0, .int .u16 0, .slice none 0 0], []⟩ 8 (by kernel_rfl) (by kernel_rfl) (by kernel_rfl) (by kernel_rfl)) ?_
  intro W base args ds gs before hval hW _ hsz _
  exact contract H enc W base args ds gs before hval hW hsz
theorem over : Rows.oneHoldsRow.holds Try.pinned (OpenSpec.ofChange Rows.oneHoldsSpec) :=
  OpenClaim.holds_of_wide 10 Try.f10 rfl rfl rfl rfl rfl rfl rfl ⟨rfl, rfl, rfl, rfl, rfl⟩ rfl rfl rfl rfl rfl (by kernel_rfl) Try.func10 (by kernel_rfl)
    (of_decide_eq_true (by kernel_rfl)) (by unfold Func.isWrapper; first | (rw [if_pos (by decide +kernel)]; kernel_rfl) | (rw [if_neg (by decide +kernel)]; exact ⟨rfl, rfl⟩))
    (fun os started H enc _ => lifted os started H enc)
theorem proved : Rows.OneHoldsSaid :=
  over
end Go.Proofs.Ytilegaokfamfnaa.oneHolds
