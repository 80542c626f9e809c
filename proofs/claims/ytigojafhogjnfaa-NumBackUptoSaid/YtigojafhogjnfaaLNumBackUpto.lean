/-
  NumBack: whatever the word, the number and the bytes, of 1048576 values and letters together at the most, the law yields true, and its arguments read as before.
-/
import Derived.Test.YtigojafhogjnfaaMe
set_option linter.unusedVariables false
namespace Go.Proofs.Ytigojafhogjnfaa.numBackUpto
open Go.Fw Go.ChangeShapes Go.WideShapes Go.ChangeAt Go.RowKit
theorem one_le {H : Type} (d : DataW H) : 1 ≤ Rows.uptoBulk d := by
  cases d with
  | lit l => cases l <;> simp [Rows.uptoBulk]
  | _ => simp [Rows.uptoBulk]
theorem all_le {H : Type} : ∀ l : List (DataW H), l.length ≤ Rows.uptoBulkAll l
  | [] => by simp
  | x :: l => by have := one_le x; have := all_le l; simp only [Rows.uptoBulkAll, List.length_cons]; omega
theorem mem_le {H : Type} {d : DataW H} : ∀ {l : List (DataW H)}, d ∈ l → Rows.uptoBulk d ≤ Rows.uptoBulkAll l
  | [], h => by cases h
  | x :: l, h => by
    simp only [Rows.uptoBulkAll]
    rcases List.mem_cons.1 h with rfl | h
    · omega
    · have := mem_le h; omega
theorem upto_le {H : Type} {l : List (DataW H)} (hk : Rows.uptoSmall H l = true) {el sp : List (DataW H)} (hd : DataW.slice el sp ∈ l) : el.length ≤ 1048576 := by
  have h1 := mem_le hd
  have h2 := all_le el
  have h3 : Rows.uptoBulkAll l ≤ 1048576 := of_decide_eq_true hk
  simp only [Rows.uptoBulk] at h1
  omega

theorem own : ownKnob Try.prog.godebug = none := by kernel_rfl
theorem laid : laidOutB Try.prog = true := by kernel_rfl
theorem contract (H : Type) (enc : TypeId × Value → H) (W : World) (base : Nat) (args : Array Value) (ds gs : List (DataW H)) (before : List MemPlace)
    (hval : ∀ (j : Nat) t v, Try.f9.params[j]? = some t → args[j]? = some v → Value.okWide Try.prog W .any base t v)
    (hW : DataW.Whole enc Try.prog Try.f9.params.toList Rows.numBackSpec.vars false W args.toList ds gs before)
    (hsz : (DataW.weightsEach Try.prog (Try.f9.params.toList ++ Rows.numBackSpec.plain.varTypes Try.prog) (ds ++ gs)).all (· ≤ reachBytes) = true)
    (hk : Rows.uptoSmall H (ds ++ gs) = true) :
    Calls Try.prog 9 args W fun e W' => ∃ v, e = .returned v ∧ Rows.numBackSpec.post enc Try.prog Try.f9 false true false false W args v W' := by
  have hW' := hW
  obtain ⟨p, q, hA0, hV, rfl, hfz, hnd⟩ := hW
  have hA : DataW.TrodAll enc Try.prog W 0 (fun _ => true) true Try.f9.params.toList args.toList ds p := hA0
  rw [Try.params9] at hA hval
  obtain ⟨v0, vs0, d0, ds0, p0, q0, hargs, rfl, rfl, h0, r0⟩ := trodAll_cons hA
  obtain ⟨v1, vs1, d1, ds1, p1, q1, rfl, rfl, rfl, h1, r1⟩ := trodAll_cons r0
  obtain ⟨v2, vs2, d2, ds2, p2, q2, rfl, rfl, rfl, h2, r2⟩ := trodAll_cons r1
  obtain ⟨v3, vs3, d3, ds3, p3, q3, rfl, rfl, rfl, h3, r3⟩ := trodAll_cons r2
  obtain ⟨rfl, rfl, rfl⟩ := trodAll_nil r3
  obtain rfl : args = #[v0, v1, v2, v3] := by cases args; simp_all
  obtain ⟨rfl, rfl⟩ := trodVars_none hV
  obtain ⟨i0, rfl, rfl, rfl, w0⟩ := open_int Try.underlying23 (hval 0 23 v0 rfl rfl) h0
  have hi0 : 0 ≤ i0 ∧ i0 ≤ 4294967295 := by simpa [Lit.wf, IntKind.min, IntKind.max, IntKind.signed, IntKind.bits] using w0
  obtain ⟨i1, rfl, rfl, rfl, w1⟩ := open_int Try.underlying24 (hval 1 24 v1 rfl rfl) h1
  have hi1 : 0 ≤ i1 ∧ i1 ≤ 18446744073709551615 := by simpa [Lit.wf, IntKind.min, IntKind.max, IntKind.signed, IntKind.bits] using w1
  obtain ⟨a2, n2, c2, x2, rfl, hs2, hw2, hd2⟩ := sl_of_trod Try.underlying22 Try.underlying5 (by kernel_rfl) (hval 2 22 v2 rfl rfl) h2
  have hn2 : n2 * 1 ≤ 140737488351232 := by
    rcases hd2 with rfl | ⟨el, sp, rfl, he⟩
    · simp
    · have h1 := sized_slice hsz (j := 2) (t := 22) (e := 5) rfl rfl Try.underlying22
      rw [show (Try.prog).bytesOf 5 = 1 from by kernel_rfl, show reachBytes = 140737488351232 from rfl] at h1
      omega
  have hb2 := byt_of_wf hw2
  have hu2 : n2 ≤ 1048576 := by
    rcases hd2 with rfl | ⟨el, sp, rfl, he⟩
    · simp
    · have h1 := upto_le hk (el := el) (sp := sp) (by simp)
      omega
  obtain ⟨a3, n3, c3, x3, rfl, hs3, hw3, hd3⟩ := sl_of_trod Try.underlying22 Try.underlying5 (by kernel_rfl) (hval 3 22 v3 rfl rfl) h3
  have hn3 : n3 * 1 ≤ 140737488351232 := by
    rcases hd3 with rfl | ⟨el, sp, rfl, he⟩
    · simp
    · have h1 := sized_slice hsz (j := 3) (t := 22) (e := 5) rfl rfl Try.underlying22
      rw [show (Try.prog).bytesOf 5 = 1 from by kernel_rfl, show reachBytes = 140737488351232 from rfl] at h1
      omega
  have hb3 := byt_of_wf hw3
  have hu3 : n3 ≤ 1048576 := by
    rcases hd3 with rfl | ⟨el, sp, rfl, he⟩
    · simp
    · have h1 := upto_le hk (el := el) (sp := sp) (by simp)
      omega
  refine (numback W (by omega) (by omega) hs2 hb2 hu2 hs3 hb3 hu3).mono fun e W' ⟨v, he, hv, hU⟩ => ?_
  subst hv
  exact ⟨_, he, law_post laid (by kernel_rfl) rfl Try.underlying4 rfl hW' rfl hU⟩
set_option maxRecDepth 100000 in
theorem lifted (os : Os) (started : os.Started) (H : Type) (enc : TypeId × Value → H) (F : Stop.Interp) :
    ReturnsInHanded {} Try.checked os 9 .any ((Rows.OpenSpec.upto Rows.numBackSpec).pre6 enc Try.prog Try.f9 Rows.numBackUptoRow.domain false) (((Rows.OpenSpec.upto Rows.numBackSpec).at F).post enc Try.prog Try.f9 false true false false) := by
  refine returnsInHanded_of_cond_sized (C := Try.checked) (s := Rows.OpenSpec.upto Rows.numBackSpec) (k := Rows.uptoSmall) rfl own started (by kernel_rfl) Try.func9
    (OpenSpec.witness (enc := enc) (C := Try.checked) (s := Rows.OpenSpec.upto Rows.numBackSpec) (k := Rows.uptoSmall) rfl false ⟨#[], #[.int .u32 0, .int .u64 0, .slice none 0 0, .slice none 0 0], []⟩ 8 (by kernel_rfl) (by kernel_rfl) (by kernel_rfl)
      (x := ([.lit (.int .u32 0), .lit (.int .u64 0), .nil, .nil], [], [])) (by kernel_rfl) rfl (by kernel_rfl)) ?_
  intro W base args ds gs before hval hW _ hk hsz _
  exact contract H enc W base args ds gs before hval hW hsz hk
theorem over : Rows.numBackUptoRow.holds Try.pinned (Rows.OpenSpec.upto Rows.numBackSpec) :=
  OpenClaim.holds_of_cond 9 Try.f9 rfl rfl rfl rfl rfl rfl rfl ⟨rfl, rfl, rfl, rfl, rfl⟩ rfl rfl rfl rfl rfl (by kernel_rfl) Try.func9 (by kernel_rfl)
    (of_decide_eq_true (by kernel_rfl)) (by unfold Func.isWrapper; first | (rw [if_pos (by decide +kernel)]; kernel_rfl) | (rw [if_neg (by decide +kernel)]; exact ⟨rfl, rfl⟩))
    (fun os started H enc _ F => lifted os started H enc F)
theorem proved : Rows.NumBackUptoSaid :=
  over
end Go.Proofs.Ytigojafhogjnfaa.numBackUpto
