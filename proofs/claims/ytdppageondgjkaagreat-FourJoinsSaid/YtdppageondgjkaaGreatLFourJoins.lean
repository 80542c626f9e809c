/-
  FourJoins: whatever the arguments, the law yields true, and its arguments read as before. No condition.
-/
import Derived.Test.YtdppageondgjkaaGreatVm
set_option linter.unusedVariables false
set_option linter.unusedSimpArgs false
namespace Go.Proofs.YtdppageondgjkaaGreat.fourJoins
open Go.Fw Go.ChangeShapes Go.WideShapes Go.ChangeAt Go.RowKit
theorem joins_b {a : Option Addr} {n c : Nat} {xs : List (List Int)} {z : Bool} (w : World) (hW : Rws w 0 w.heap.size a n c xs) (hb : ∀ i, Byt (xs.getD i [])) (hn : n ≤ 140737488351232) :
    Calls Tryz.prog 6 #[.slice a n c, .bool z] w (Ret fun v w' => v = .bool true ∧ Upd No w w') := by
  have h := fourjoins (long := z) w hW hb hn
  rwa [Bool.decide_eq_true] at h
theorem own : ownKnob Tryz.prog.godebug = none := by kernel_rfl
theorem laid : laidOutB Tryz.prog = true := by kernel_rfl
set_option maxRecDepth 100000 in
theorem contract (H : Type) (enc : TypeId × Value → H) (W : World) (base : Nat) (args : Array Value) (ds gs : List (DataW H)) (before : List MemPlace)
    (hval : ∀ (j : Nat) t v, Tryz.f6.params[j]? = some t → args[j]? = some v → Value.okWide Tryz.prog W .any base t v)
    (hW : DataW.Whole enc Tryz.prog Tryz.f6.params.toList Rows.fourJoinsSpec.vars false W args.toList ds gs before)
    (hsz : (DataW.weightsEach Tryz.prog (Tryz.f6.params.toList ++ Rows.fourJoinsSpec.plain.varTypes Tryz.prog) (ds ++ gs)).all (· ≤ reachBytes) = true) :
    Calls Tryz.prog 6 args W fun e W' => ∃ v, e = .returned v ∧ Rows.fourJoinsSpec.post enc Tryz.prog Tryz.f6 false true false false W args v W' := by
  have hW' := hW
  obtain ⟨p, q, hA0, hV, rfl, hfz, hnd⟩ := hW
  have hA : DataW.TrodAll enc Tryz.prog W 0 (fun _ => true) true Tryz.f6.params.toList args.toList ds p := hA0
  rw [Tryz.params6] at hA hval
  obtain ⟨v0, vs0, d0, ds0, p0, q0, hargs, rfl, rfl, h0, r0⟩ := trodAll_cons hA
  obtain ⟨v1, vs1, d1, ds1, p1, q1, rfl, rfl, rfl, h1, r1⟩ := trodAll_cons r0
  obtain ⟨rfl, rfl, rfl⟩ := trodAll_nil r1
  obtain rfl : args = #[v0, v1] := by cases args; simp_all
  obtain ⟨rfl, rfl⟩ := trodVars_none hV
  obtain ⟨a0, n0, c0, x0, rfl, hs0, hw0, hd0⟩ := slr_of_trod (en := encS) (okx := fun x => Sl W (fun g => g < W.heap.size) 1 (.slice x.1 x.2.1 x.2.2.1) x.2.1 (ints .u8 x.2.2.2) ∧ Byt x.2.2.2) (none, 0, 0, []) Tryz.underlying41 (by kernel_rfl) (by decide) encS_len (sb_of_trod Tryz.underlying32 Tryz.underlying5 (by kernel_rfl)) (hval 0 41 v0 rfl rfl) h0
  have hr0 := rws_of hs0 hw0
  have hn0 : n0 * 24 ≤ 140737488351232 := by
    rcases hd0 with rfl | ⟨el, sp, rfl, he⟩
    · simp
    · have h1 := sized_slice hsz (j := 0) (t := 41) (e := 32) rfl rfl Tryz.underlying41
      rw [show (Tryz.prog).bytesOf 32 = 24 from by kernel_rfl, show reachBytes = 140737488351232 from rfl] at h1
      have h2 : el.length * 24 ≤ (el.length + sp.length) * 24 := Nat.mul_le_mul_right _ (by omega)
      omega
  obtain ⟨i1, rfl, rfl, rfl⟩ := open_bool Tryz.underlying4 (hval 1 4 v1 rfl rfl) h1
  refine (joins_b W hr0.1 hr0.2 (by omega)).mono fun e W' ⟨v, he, hv, hU⟩ => ?_
  subst hv
  exact ⟨_, he, law_post laid (by kernel_rfl) rfl Tryz.underlying4 rfl hW' rfl hU⟩
set_option maxRecDepth 100000 in
theorem lifted (os : Os) (started : os.Started) (H : Type) (enc : TypeId × Value → H) :
    ReturnsInHanded {} Tryz.checked os 6 .any (Rows.fourJoinsSpec.pre6 enc Tryz.prog Tryz.f6 Rows.fourJoinsRow.domain false) (Rows.fourJoinsSpec.post enc Tryz.prog Tryz.f6 false true false false) := by
  refine returnsInHanded_of_change_sized (C := Tryz.checked) own started (by kernel_rfl) Tryz.func6
    (ChangeSpec.witness6 (enc := enc) (C := Tryz.checked) false ⟨#[], #[.slice none 0 0, .bool false], []⟩ 8 (by kernel_rfl) (by kernel_rfl) (by kernel_rfl) (by kernel_rfl)) ?_
  intro W base args ds gs before hval hW _ hsz _
  exact contract H enc W base args ds gs before hval hW hsz
theorem over : Rows.fourJoinsRow.holds Tryz.pinned (OpenSpec.ofChange Rows.fourJoinsSpec) :=
  OpenClaim.holds_of_wide 6 Tryz.f6 rfl rfl rfl rfl rfl rfl rfl ⟨rfl, rfl, rfl, rfl, rfl⟩ rfl rfl rfl rfl rfl (by kernel_rfl) Tryz.func6 (by kernel_rfl)
    (of_decide_eq_true (by kernel_rfl)) (by unfold Func.isWrapper; first | (rw [if_pos (by decide +kernel)]; kernel_rfl) | (rw [if_neg (by decide +kernel)]; exact ⟨rfl, rfl⟩))
    (fun os started H enc _ => lifted os started H enc)
theorem proved : Rows.FourJoinsSaid :=
  over
end Go.Proofs.YtdppageondgjkaaGreat.fourJoins
