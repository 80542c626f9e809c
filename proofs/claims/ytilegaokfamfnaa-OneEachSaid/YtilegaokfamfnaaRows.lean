/-
  No cell of these rows narrows 'for every input' (looked for: loops, veiled, ifaces, maps, wideKeys, modest, calm, conditions, laid).
  DERIVED. THE GIVEN ROWS OF THIS SEAT. 8 by the template 'for every input the law returns true; each argument reads behind the call as it read before'; 0 by the template 'total and deterministic' (their statements: YtilegaokfamfnaaTotals.lean).
  GIVEN WITH THE SEED: the statements are not yours to turn. If you find one false, say at which input.
  Laid BY PROGRAM, IN A SANDBOX (cutbox-rows.mjs): the forced cells as the released guide's own fill.sh prints them over the translation ed7b9ef51e0295e5… (all of the seat's roots in one cut). By AI agents, Wed Nov 11 2026. No macro, syntax, notation, axiom, sorry.
-/
import Derived.Test.YtilegaokfamfnaaChecked
import GoSem.Claim
import GoSem.ClaimJoined
import GoSem.ClaimMapViews
import Derived.JoinedTies
import Derived.KernelRfl
namespace Go.Proofs.Ytilegaokfamfnaa
/- THE CELL 'sum', in the pinned program and in every row, IS THE sha256 OF THE DUMP (.gsa) THAT YtilegaokfamfnaaProg.lean LOADS. Nothing in Lean hashes anything: it is a label: what it is worth is what the hold of that sum in a sandbox is worth. -/
noncomputable def Try.pinned : Pinned := { name := "ytilegaokfamfnaa", sum := "ed7b9ef51e0295e55d0f82d712ddfb16ffdcc0e50c5301a3a3f8fcd751599a7c", checked := Try.checked }
namespace Rows
def none {H : Type} : Left H := { results := [], args := [] }

/-- 'portmanteaulaw17.OneEncodes': WHATEVER THE INPUT: true; the input reads as it did. -/
def oneEncodesSpec : ChangeSpec := { name := "oneEncodes", fn := fun _ => fun
  | [d1, d2] => { results := [.lit (.bool true)], args := [d1, d2] }
  | _ => none }
def oneEncodesRow : OpenClaim := { program := "ytilegaokfamfnaa", sum := "ed7b9ef51e0295e55d0f82d712ddfb16ffdcc0e50c5301a3a3f8fcd751599a7c", func := "portmanteau/portmanteaulaw17.OneEncodes", spec := "oneEncodes", unfollowed := true, recurses := true, apart := false }
def OneEncodesSaid : Prop := oneEncodesRow.holds Try.pinned (OpenSpec.ofChange oneEncodesSpec)

/-- ITS FALSE NEIGHBOUR: 'it returns false'. Refute it at one input. -/
def oneEncodesWrong : ChangeSpec := { name := "oneEncodes", fn := fun _ => fun
  | [d1, d2] => { results := [.lit (.bool false)], args := [d1, d2] }
  | _ => none }
def OneEncodesWrongFalsely : Prop := oneEncodesRow.holds Try.pinned (OpenSpec.ofChange oneEncodesWrong)

/-- 'portmanteaulaw17.OneSizes': WHATEVER THE INPUT: true; the input reads as it did. -/
def oneSizesSpec : ChangeSpec := { name := "oneSizes", fn := fun _ => fun
  | [d1, d2] => { results := [.lit (.bool true)], args := [d1, d2] }
  | _ => none }
def oneSizesRow : OpenClaim := { program := "ytilegaokfamfnaa", sum := "ed7b9ef51e0295e55d0f82d712ddfb16ffdcc0e50c5301a3a3f8fcd751599a7c", func := "portmanteau/portmanteaulaw17.OneSizes", spec := "oneSizes", unfollowed := true, recurses := true, apart := false }
def OneSizesSaid : Prop := oneSizesRow.holds Try.pinned (OpenSpec.ofChange oneSizesSpec)

/-- ITS FALSE NEIGHBOUR: 'it returns false'. Refute it at one input. -/
def oneSizesWrong : ChangeSpec := { name := "oneSizes", fn := fun _ => fun
  | [d1, d2] => { results := [.lit (.bool false)], args := [d1, d2] }
  | _ => none }
def OneSizesWrongFalsely : Prop := oneSizesRow.holds Try.pinned (OpenSpec.ofChange oneSizesWrong)

/-- 'portmanteaulaw17.OneDecodes': WHATEVER THE INPUT: true; the input reads as it did. -/
def oneDecodesSpec : ChangeSpec := { name := "oneDecodes", fn := fun _ => fun
  | [d1, d2, d3] => { results := [.lit (.bool true)], args := [d1, d2, d3] }
  | _ => none }
def oneDecodesRow : OpenClaim := { program := "ytilegaokfamfnaa", sum := "ed7b9ef51e0295e55d0f82d712ddfb16ffdcc0e50c5301a3a3f8fcd751599a7c", func := "portmanteau/portmanteaulaw17.OneDecodes", spec := "oneDecodes", unfollowed := true, recurses := true, apart := false }
def OneDecodesSaid : Prop := oneDecodesRow.holds Try.pinned (OpenSpec.ofChange oneDecodesSpec)

/-- ITS FALSE NEIGHBOUR: 'it returns false'. Refute it at one input. -/
def oneDecodesWrong : ChangeSpec := { name := "oneDecodes", fn := fun _ => fun
  | [d1, d2, d3] => { results := [.lit (.bool false)], args := [d1, d2, d3] }
  | _ => none }
def OneDecodesWrongFalsely : Prop := oneDecodesRow.holds Try.pinned (OpenSpec.ofChange oneDecodesWrong)

/-- 'portmanteaulaw17.OneCounts': WHATEVER THE INPUT: true; the input reads as it did. -/
def oneCountsSpec : ChangeSpec := { name := "oneCounts", fn := fun _ => fun
  | [d1, d2] => { results := [.lit (.bool true)], args := [d1, d2] }
  | _ => none }
def oneCountsRow : OpenClaim := { program := "ytilegaokfamfnaa", sum := "ed7b9ef51e0295e55d0f82d712ddfb16ffdcc0e50c5301a3a3f8fcd751599a7c", func := "portmanteau/portmanteaulaw17.OneCounts", spec := "oneCounts", unfollowed := true, recurses := true, apart := false }
def OneCountsSaid : Prop := oneCountsRow.holds Try.pinned (OpenSpec.ofChange oneCountsSpec)

/-- ITS FALSE NEIGHBOUR: 'it returns false'. Refute it at one input. -/
def oneCountsWrong : ChangeSpec := { name := "oneCounts", fn := fun _ => fun
  | [d1, d2] => { results := [.lit (.bool false)], args := [d1, d2] }
  | _ => none }
def OneCountsWrongFalsely : Prop := oneCountsRow.holds Try.pinned (OpenSpec.ofChange oneCountsWrong)

/-- 'portmanteaulaw17.OneFirsts': WHATEVER THE INPUT: true; the input reads as it did. -/
def oneFirstsSpec : ChangeSpec := { name := "oneFirsts", fn := fun _ => fun
  | [d1, d2, d3] => { results := [.lit (.bool true)], args := [d1, d2, d3] }
  | _ => none }
def oneFirstsRow : OpenClaim := { program := "ytilegaokfamfnaa", sum := "ed7b9ef51e0295e55d0f82d712ddfb16ffdcc0e50c5301a3a3f8fcd751599a7c", func := "portmanteau/portmanteaulaw17.OneFirsts", spec := "oneFirsts", unfollowed := true, recurses := true, apart := false }
def OneFirstsSaid : Prop := oneFirstsRow.holds Try.pinned (OpenSpec.ofChange oneFirstsSpec)

/-- ITS FALSE NEIGHBOUR: 'it returns false'. Refute it at one input. -/
def oneFirstsWrong : ChangeSpec := { name := "oneFirsts", fn := fun _ => fun
  | [d1, d2, d3] => { results := [.lit (.bool false)], args := [d1, d2, d3] }
  | _ => none }
def OneFirstsWrongFalsely : Prop := oneFirstsRow.holds Try.pinned (OpenSpec.ofChange oneFirstsWrong)

/-- 'portmanteaulaw17.OneHas': WHATEVER THE INPUT: true; the input reads as it did. -/
def oneHasSpec : ChangeSpec := { name := "oneHas", fn := fun _ => fun
  | [d1, d2] => { results := [.lit (.bool true)], args := [d1, d2] }
  | _ => none }
def oneHasRow : OpenClaim := { program := "ytilegaokfamfnaa", sum := "ed7b9ef51e0295e55d0f82d712ddfb16ffdcc0e50c5301a3a3f8fcd751599a7c", func := "portmanteau/portmanteaulaw17.OneHas", spec := "oneHas", unfollowed := true, recurses := true, apart := false }
def OneHasSaid : Prop := oneHasRow.holds Try.pinned (OpenSpec.ofChange oneHasSpec)

/-- ITS FALSE NEIGHBOUR: 'it returns false'. Refute it at one input. -/
def oneHasWrong : ChangeSpec := { name := "oneHas", fn := fun _ => fun
  | [d1, d2] => { results := [.lit (.bool false)], args := [d1, d2] }
  | _ => none }
def OneHasWrongFalsely : Prop := oneHasRow.holds Try.pinned (OpenSpec.ofChange oneHasWrong)

/-- 'portmanteaulaw17.OneEach': WHATEVER THE INPUT: true; the input reads as it did. -/
def oneEachSpec : ChangeSpec := { name := "oneEach", fn := fun _ => fun
  | [d1, d2, d3] => { results := [.lit (.bool true)], args := [d1, d2, d3] }
  | _ => none }
def oneEachRow : OpenClaim := { program := "ytilegaokfamfnaa", sum := "ed7b9ef51e0295e55d0f82d712ddfb16ffdcc0e50c5301a3a3f8fcd751599a7c", func := "portmanteau/portmanteaulaw17.OneEach", spec := "oneEach", unfollowed := true, recurses := true, apart := false }
def OneEachSaid : Prop := oneEachRow.holds Try.pinned (OpenSpec.ofChange oneEachSpec)

/-- ITS FALSE NEIGHBOUR: 'it returns false'. Refute it at one input. -/
def oneEachWrong : ChangeSpec := { name := "oneEach", fn := fun _ => fun
  | [d1, d2, d3] => { results := [.lit (.bool false)], args := [d1, d2, d3] }
  | _ => none }
def OneEachWrongFalsely : Prop := oneEachRow.holds Try.pinned (OpenSpec.ofChange oneEachWrong)

/-- 'portmanteaulaw17.OneHolds': WHATEVER THE INPUT: true; the input reads as it did. -/
def oneHoldsSpec : ChangeSpec := { name := "oneHolds", fn := fun _ => fun
  | [d1, d2, d3, d4] => { results := [.lit (.bool true)], args := [d1, d2, d3, d4] }
  | _ => none }
def oneHoldsRow : OpenClaim := { program := "ytilegaokfamfnaa", sum := "ed7b9ef51e0295e55d0f82d712ddfb16ffdcc0e50c5301a3a3f8fcd751599a7c", func := "portmanteau/portmanteaulaw17.OneHolds", spec := "oneHolds", unfollowed := true, recurses := true, apart := false }
def OneHoldsSaid : Prop := oneHoldsRow.holds Try.pinned (OpenSpec.ofChange oneHoldsSpec)

/-- ITS FALSE NEIGHBOUR: 'it returns false'. Refute it at one input. -/
def oneHoldsWrong : ChangeSpec := { name := "oneHolds", fn := fun _ => fun
  | [d1, d2, d3, d4] => { results := [.lit (.bool false)], args := [d1, d2, d3, d4] }
  | _ => none }
def OneHoldsWrongFalsely : Prop := oneHoldsRow.holds Try.pinned (OpenSpec.ofChange oneHoldsWrong)

/- THE SECOND FORM. 'bulk': how many values and letters a reading holds, each counted each time it is reached (what is shared counts as often as it is met; a slice's spare places count too). A statement '..UptoSaid' is the law's where the arguments, and the package variables that the reading takes, are together of bulk at most 1048576: NARROWER than '..Said'. Prove '..Said' where nothing that the law and all that it calls make is longer than what came in: it says more and counts as full. Else prove '..UptoSaid'. A law counts once. -/
mutual
def uptoBulk {H : Type} : DataW H → Nat
  | .lit (.string bytes) => bytes.length + 1
  | .lit _ => 1
  | .nil => 1
  | .ptr d => uptoBulk d + 1
  | .slice elems spare => uptoBulkAll elems + uptoBulkAll spare + 1
  | .agg parts => uptoBulkAll parts + 1
  | .iface _ d => uptoBulk d + 1
  | .map entries => uptoBulkEntries entries + 1
  | .held _ => 1
def uptoBulkAll {H : Type} : List (DataW H) → Nat
  | [] => 0
  | d :: r => uptoBulk d + uptoBulkAll r
def uptoBulkEntries {H : Type} : List (Lit × DataW H) → Nat
  | [] => 0
  | x :: r => uptoBulkEntry x + uptoBulkEntries r
def uptoBulkEntry {H : Type} : Lit × DataW H → Nat
  | (.string bytes, d) => bytes.length + uptoBulk d + 1
  | (_, d) => uptoBulk d + 1
 end
def uptoSmall : (H : Type) → List (DataW H) → Bool := fun _ ds => decide (uptoBulkAll ds ≤ 1048576)
def OpenSpec.upto (s : _root_.Go.ChangeSpec) : _root_.Go.OpenSpec := { _root_.Go.OpenSpec.ofChange s with cond := some uptoSmall }

/-- 'portmanteaulaw17.OneEncodes', WHERE WHAT IT READS IS OF BULK AT MOST 1048576: true; the input reads as it did. -/
def oneEncodesUptoRow : OpenClaim := { program := "ytilegaokfamfnaa", sum := "ed7b9ef51e0295e55d0f82d712ddfb16ffdcc0e50c5301a3a3f8fcd751599a7c", func := "portmanteau/portmanteaulaw17.OneEncodes", spec := "oneEncodes", unfollowed := true, recurses := true, apart := false, narrowed := true }
def OneEncodesUptoSaid : Prop := oneEncodesUptoRow.holds Try.pinned (OpenSpec.upto oneEncodesSpec)

/-- 'portmanteaulaw17.OneSizes', WHERE WHAT IT READS IS OF BULK AT MOST 1048576: true; the input reads as it did. -/
def oneSizesUptoRow : OpenClaim := { program := "ytilegaokfamfnaa", sum := "ed7b9ef51e0295e55d0f82d712ddfb16ffdcc0e50c5301a3a3f8fcd751599a7c", func := "portmanteau/portmanteaulaw17.OneSizes", spec := "oneSizes", unfollowed := true, recurses := true, apart := false, narrowed := true }
def OneSizesUptoSaid : Prop := oneSizesUptoRow.holds Try.pinned (OpenSpec.upto oneSizesSpec)

/-- 'portmanteaulaw17.OneDecodes', WHERE WHAT IT READS IS OF BULK AT MOST 1048576: true; the input reads as it did. -/
def oneDecodesUptoRow : OpenClaim := { program := "ytilegaokfamfnaa", sum := "ed7b9ef51e0295e55d0f82d712ddfb16ffdcc0e50c5301a3a3f8fcd751599a7c", func := "portmanteau/portmanteaulaw17.OneDecodes", spec := "oneDecodes", unfollowed := true, recurses := true, apart := false, narrowed := true }
def OneDecodesUptoSaid : Prop := oneDecodesUptoRow.holds Try.pinned (OpenSpec.upto oneDecodesSpec)

/-- 'portmanteaulaw17.OneCounts', WHERE WHAT IT READS IS OF BULK AT MOST 1048576: true; the input reads as it did. -/
def oneCountsUptoRow : OpenClaim := { program := "ytilegaokfamfnaa", sum := "ed7b9ef51e0295e55d0f82d712ddfb16ffdcc0e50c5301a3a3f8fcd751599a7c", func := "portmanteau/portmanteaulaw17.OneCounts", spec := "oneCounts", unfollowed := true, recurses := true, apart := false, narrowed := true }
def OneCountsUptoSaid : Prop := oneCountsUptoRow.holds Try.pinned (OpenSpec.upto oneCountsSpec)

/-- 'portmanteaulaw17.OneFirsts', WHERE WHAT IT READS IS OF BULK AT MOST 1048576: true; the input reads as it did. -/
def oneFirstsUptoRow : OpenClaim := { program := "ytilegaokfamfnaa", sum := "ed7b9ef51e0295e55d0f82d712ddfb16ffdcc0e50c5301a3a3f8fcd751599a7c", func := "portmanteau/portmanteaulaw17.OneFirsts", spec := "oneFirsts", unfollowed := true, recurses := true, apart := false, narrowed := true }
def OneFirstsUptoSaid : Prop := oneFirstsUptoRow.holds Try.pinned (OpenSpec.upto oneFirstsSpec)

/-- 'portmanteaulaw17.OneHas', WHERE WHAT IT READS IS OF BULK AT MOST 1048576: true; the input reads as it did. -/
def oneHasUptoRow : OpenClaim := { program := "ytilegaokfamfnaa", sum := "ed7b9ef51e0295e55d0f82d712ddfb16ffdcc0e50c5301a3a3f8fcd751599a7c", func := "portmanteau/portmanteaulaw17.OneHas", spec := "oneHas", unfollowed := true, recurses := true, apart := false, narrowed := true }
def OneHasUptoSaid : Prop := oneHasUptoRow.holds Try.pinned (OpenSpec.upto oneHasSpec)

/-- 'portmanteaulaw17.OneEach', WHERE WHAT IT READS IS OF BULK AT MOST 1048576: true; the input reads as it did. -/
def oneEachUptoRow : OpenClaim := { program := "ytilegaokfamfnaa", sum := "ed7b9ef51e0295e55d0f82d712ddfb16ffdcc0e50c5301a3a3f8fcd751599a7c", func := "portmanteau/portmanteaulaw17.OneEach", spec := "oneEach", unfollowed := true, recurses := true, apart := false, narrowed := true }
def OneEachUptoSaid : Prop := oneEachUptoRow.holds Try.pinned (OpenSpec.upto oneEachSpec)

/-- 'portmanteaulaw17.OneHolds', WHERE WHAT IT READS IS OF BULK AT MOST 1048576: true; the input reads as it did. -/
def oneHoldsUptoRow : OpenClaim := { program := "ytilegaokfamfnaa", sum := "ed7b9ef51e0295e55d0f82d712ddfb16ffdcc0e50c5301a3a3f8fcd751599a7c", func := "portmanteau/portmanteaulaw17.OneHolds", spec := "oneHolds", unfollowed := true, recurses := true, apart := false, narrowed := true }
def OneHoldsUptoSaid : Prop := oneHoldsUptoRow.holds Try.pinned (OpenSpec.upto oneHoldsSpec)

end Rows
end Go.Proofs.Ytilegaokfamfnaa
