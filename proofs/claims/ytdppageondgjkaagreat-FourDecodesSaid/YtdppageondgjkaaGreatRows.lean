/-
  No cell of these rows narrows 'for every input' (looked for: loops, veiled, ifaces, maps, wideKeys, modest, calm, conditions, laid).
  DERIVED. THE GIVEN ROWS OF THIS SEAT. 8 by the template 'for every input the law returns true; each argument reads behind the call as it read before'; 0 by the template 'total and deterministic' (their statements: YtdppageondgjkaaGreatTotals.lean).
  GIVEN WITH THE SEED: the statements are not yours to turn. If you find one false, say at which input.
  Laid BY PROGRAM, IN A SANDBOX (cutbox-rows.mjs): the forced cells as the released guide's own fill.sh prints them over the translation bfe698736f107983… (all of the seat's roots in one cut). By AI agents, Wed Nov 11 2026. No macro, syntax, notation, axiom, sorry.
-/
import Derived.Test.YtdppageondgjkaaGreatChecked
import GoSem.Claim
import GoSem.ClaimJoined
import GoSem.ClaimMapViews
import Derived.JoinedTies
import Derived.KernelRfl
namespace Go.Proofs.YtdppageondgjkaaGreat
/- THE CELL 'sum', in the pinned program and in every row, IS THE sha256 OF THE DUMP (.gsa) THAT YtdppageondgjkaaGreatProg.lean LOADS. Nothing in Lean hashes anything: it is a label: what it is worth is what the hold of that sum in a sandbox is worth. -/
noncomputable def Tryz.pinned : Pinned := { name := "ytdppageondgjkaagreat", sum := "bfe698736f1079838d5a069f178d8491d013b1b7c3f9b1b86492653ce280f755", checked := Tryz.checked }
namespace Rows
def none {H : Type} : Left H := { results := [], args := [] }

/-- 'portmanteaulaw18.FourMay': WHATEVER THE INPUT: true; the input reads as it did. -/
def fourMaySpec : ChangeSpec := { name := "fourMay", fn := fun _ => fun
  | [d] => { results := [.lit (.bool true)], args := [d] }
  | _ => none }
def fourMayRow : OpenClaim := { program := "ytdppageondgjkaagreat", sum := "bfe698736f1079838d5a069f178d8491d013b1b7c3f9b1b86492653ce280f755", func := "portmanteau/portmanteaulaw18.FourMay", spec := "fourMay", unfollowed := true, recurses := true, apart := false }
def FourMaySaid : Prop := fourMayRow.holds Tryz.pinned (OpenSpec.ofChange fourMaySpec)

/-- ITS FALSE NEIGHBOUR: 'it returns false'. Refute it at one input. -/
def fourMayWrong : ChangeSpec := { name := "fourMay", fn := fun _ => fun
  | [d] => { results := [.lit (.bool false)], args := [d] }
  | _ => none }
def FourMayWrongFalsely : Prop := fourMayRow.holds Tryz.pinned (OpenSpec.ofChange fourMayWrong)

/-- 'portmanteaulaw18.FourEncodes': WHATEVER THE INPUT: true; the input reads as it did. -/
def fourEncodesSpec : ChangeSpec := { name := "fourEncodes", fn := fun _ => fun
  | [d1, d2] => { results := [.lit (.bool true)], args := [d1, d2] }
  | _ => none }
def fourEncodesRow : OpenClaim := { program := "ytdppageondgjkaagreat", sum := "bfe698736f1079838d5a069f178d8491d013b1b7c3f9b1b86492653ce280f755", func := "portmanteau/portmanteaulaw18.FourEncodes", spec := "fourEncodes", unfollowed := true, recurses := true, apart := false }
def FourEncodesSaid : Prop := fourEncodesRow.holds Tryz.pinned (OpenSpec.ofChange fourEncodesSpec)

/-- ITS FALSE NEIGHBOUR: 'it returns false'. Refute it at one input. -/
def fourEncodesWrong : ChangeSpec := { name := "fourEncodes", fn := fun _ => fun
  | [d1, d2] => { results := [.lit (.bool false)], args := [d1, d2] }
  | _ => none }
def FourEncodesWrongFalsely : Prop := fourEncodesRow.holds Tryz.pinned (OpenSpec.ofChange fourEncodesWrong)

/-- 'portmanteaulaw18.FourSizes': WHATEVER THE INPUT: true; the input reads as it did. -/
def fourSizesSpec : ChangeSpec := { name := "fourSizes", fn := fun _ => fun
  | [d1, d2] => { results := [.lit (.bool true)], args := [d1, d2] }
  | _ => none }
def fourSizesRow : OpenClaim := { program := "ytdppageondgjkaagreat", sum := "bfe698736f1079838d5a069f178d8491d013b1b7c3f9b1b86492653ce280f755", func := "portmanteau/portmanteaulaw18.FourSizes", spec := "fourSizes", unfollowed := true, recurses := true, apart := false }
def FourSizesSaid : Prop := fourSizesRow.holds Tryz.pinned (OpenSpec.ofChange fourSizesSpec)

/-- ITS FALSE NEIGHBOUR: 'it returns false'. Refute it at one input. -/
def fourSizesWrong : ChangeSpec := { name := "fourSizes", fn := fun _ => fun
  | [d1, d2] => { results := [.lit (.bool false)], args := [d1, d2] }
  | _ => none }
def FourSizesWrongFalsely : Prop := fourSizesRow.holds Tryz.pinned (OpenSpec.ofChange fourSizesWrong)

/-- 'portmanteaulaw18.FourJoins': WHATEVER THE INPUT: true; the input reads as it did. -/
def fourJoinsSpec : ChangeSpec := { name := "fourJoins", fn := fun _ => fun
  | [d1, d2] => { results := [.lit (.bool true)], args := [d1, d2] }
  | _ => none }
def fourJoinsRow : OpenClaim := { program := "ytdppageondgjkaagreat", sum := "bfe698736f1079838d5a069f178d8491d013b1b7c3f9b1b86492653ce280f755", func := "portmanteau/portmanteaulaw18.FourJoins", spec := "fourJoins", unfollowed := true, recurses := true, apart := false }
def FourJoinsSaid : Prop := fourJoinsRow.holds Tryz.pinned (OpenSpec.ofChange fourJoinsSpec)

/-- ITS FALSE NEIGHBOUR: 'it returns false'. Refute it at one input. -/
def fourJoinsWrong : ChangeSpec := { name := "fourJoins", fn := fun _ => fun
  | [d1, d2] => { results := [.lit (.bool false)], args := [d1, d2] }
  | _ => none }
def FourJoinsWrongFalsely : Prop := fourJoinsRow.holds Tryz.pinned (OpenSpec.ofChange fourJoinsWrong)

/-- 'portmanteaulaw18.FourDecodes': WHATEVER THE INPUT: true; the input reads as it did. -/
def fourDecodesSpec : ChangeSpec := { name := "fourDecodes", fn := fun _ => fun
  | [d1, d2, d3] => { results := [.lit (.bool true)], args := [d1, d2, d3] }
  | _ => none }
def fourDecodesRow : OpenClaim := { program := "ytdppageondgjkaagreat", sum := "bfe698736f1079838d5a069f178d8491d013b1b7c3f9b1b86492653ce280f755", func := "portmanteau/portmanteaulaw18.FourDecodes", spec := "fourDecodes", unfollowed := true, recurses := true, apart := false }
def FourDecodesSaid : Prop := fourDecodesRow.holds Tryz.pinned (OpenSpec.ofChange fourDecodesSpec)

/-- ITS FALSE NEIGHBOUR: 'it returns false'. Refute it at one input. -/
def fourDecodesWrong : ChangeSpec := { name := "fourDecodes", fn := fun _ => fun
  | [d1, d2, d3] => { results := [.lit (.bool false)], args := [d1, d2, d3] }
  | _ => none }
def FourDecodesWrongFalsely : Prop := fourDecodesRow.holds Tryz.pinned (OpenSpec.ofChange fourDecodesWrong)

/-- 'portmanteaulaw18.FourStreams': WHATEVER THE INPUT: true; the input reads as it did. -/
def fourStreamsSpec : ChangeSpec := { name := "fourStreams", fn := fun _ => fun
  | [d] => { results := [.lit (.bool true)], args := [d] }
  | _ => none }
def fourStreamsRow : OpenClaim := { program := "ytdppageondgjkaagreat", sum := "bfe698736f1079838d5a069f178d8491d013b1b7c3f9b1b86492653ce280f755", func := "portmanteau/portmanteaulaw18.FourStreams", spec := "fourStreams", unfollowed := true, recurses := true, apart := false }
def FourStreamsSaid : Prop := fourStreamsRow.holds Tryz.pinned (OpenSpec.ofChange fourStreamsSpec)

/-- ITS FALSE NEIGHBOUR: 'it returns false'. Refute it at one input. -/
def fourStreamsWrong : ChangeSpec := { name := "fourStreams", fn := fun _ => fun
  | [d] => { results := [.lit (.bool false)], args := [d] }
  | _ => none }
def FourStreamsWrongFalsely : Prop := fourStreamsRow.holds Tryz.pinned (OpenSpec.ofChange fourStreamsWrong)

/-- 'portmanteaulaw18.FourHolds': WHATEVER THE INPUT: true; the input reads as it did. -/
def fourHoldsSpec : ChangeSpec := { name := "fourHolds", fn := fun _ => fun
  | [d1, d2, d3, d4] => { results := [.lit (.bool true)], args := [d1, d2, d3, d4] }
  | _ => none }
def fourHoldsRow : OpenClaim := { program := "ytdppageondgjkaagreat", sum := "bfe698736f1079838d5a069f178d8491d013b1b7c3f9b1b86492653ce280f755", func := "portmanteau/portmanteaulaw18.FourHolds", spec := "fourHolds", unfollowed := true, recurses := true, apart := false }
def FourHoldsSaid : Prop := fourHoldsRow.holds Tryz.pinned (OpenSpec.ofChange fourHoldsSpec)

/-- ITS FALSE NEIGHBOUR: 'it returns false'. Refute it at one input. -/
def fourHoldsWrong : ChangeSpec := { name := "fourHolds", fn := fun _ => fun
  | [d1, d2, d3, d4] => { results := [.lit (.bool false)], args := [d1, d2, d3, d4] }
  | _ => none }
def FourHoldsWrongFalsely : Prop := fourHoldsRow.holds Tryz.pinned (OpenSpec.ofChange fourHoldsWrong)

/-- 'portmanteaulaw18.FourEach': WHATEVER THE INPUT: true; the input reads as it did. -/
def fourEachSpec : ChangeSpec := { name := "fourEach", fn := fun _ => fun
  | [d1, d2, d3, d4] => { results := [.lit (.bool true)], args := [d1, d2, d3, d4] }
  | _ => none }
def fourEachRow : OpenClaim := { program := "ytdppageondgjkaagreat", sum := "bfe698736f1079838d5a069f178d8491d013b1b7c3f9b1b86492653ce280f755", func := "portmanteau/portmanteaulaw18.FourEach", spec := "fourEach", unfollowed := true, recurses := true, apart := false }
def FourEachSaid : Prop := fourEachRow.holds Tryz.pinned (OpenSpec.ofChange fourEachSpec)

/-- ITS FALSE NEIGHBOUR: 'it returns false'. Refute it at one input. -/
def fourEachWrong : ChangeSpec := { name := "fourEach", fn := fun _ => fun
  | [d1, d2, d3, d4] => { results := [.lit (.bool false)], args := [d1, d2, d3, d4] }
  | _ => none }
def FourEachWrongFalsely : Prop := fourEachRow.holds Tryz.pinned (OpenSpec.ofChange fourEachWrong)

/- THE SECOND FORM. 'bulk': how many values and letters a reading holds, each counted each time it is reached (what is shared counts as often as it is met; a slice's spare places count too). A statement '..UptoSaid' is the law's where the arguments, and the package variables that the reading takes, are together of bulk at most 1048576: NARROWER than '..Said'. Prove '..Said' where nothing that the law and all that it calls make is longer than what came in: it says more and counts as full. Else prove '..UptoSaid'. A law counts once. -/
mutual
def uptoBulk {H : Type} : DataW H → Nat
  | .lit (.string bytes) => bytes.length + 1
  | .lit _ => 1
  | .nil => 1
  | .ptr d => uptoBulk d + 1
  | .slice elems spare => uptoBulkAll elems + uptoBulkAll spare + 1
  | .agg parts => uptoBulkAll parts + 1
  | .iface _ d => uptoBulk d + 1
  | .map entries => uptoBulkEntries entries + 1
  | .held _ => 1
def uptoBulkAll {H : Type} : List (DataW H) → Nat
  | [] => 0
  | d :: r => uptoBulk d + uptoBulkAll r
def uptoBulkEntries {H : Type} : List (Lit × DataW H) → Nat
  | [] => 0
  | x :: r => uptoBulkEntry x + uptoBulkEntries r
def uptoBulkEntry {H : Type} : Lit × DataW H → Nat
  | (.string bytes, d) => bytes.length + uptoBulk d + 1
  | (_, d) => uptoBulk d + 1
 end
def uptoSmall : (H : Type) → List (DataW H) → Bool := fun _ ds => decide (uptoBulkAll ds ≤ 1048576)
def OpenSpec.upto (s : _root_.Go.ChangeSpec) : _root_.Go.OpenSpec := { _root_.Go.OpenSpec.ofChange s with cond := some uptoSmall }

/-- 'portmanteaulaw18.FourMay', WHERE WHAT IT READS IS OF BULK AT MOST 1048576: true; the input reads as it did. -/
def fourMayUptoRow : OpenClaim := { program := "ytdppageondgjkaagreat", sum := "bfe698736f1079838d5a069f178d8491d013b1b7c3f9b1b86492653ce280f755", func := "portmanteau/portmanteaulaw18.FourMay", spec := "fourMay", unfollowed := true, recurses := true, apart := false, narrowed := true }
def FourMayUptoSaid : Prop := fourMayUptoRow.holds Tryz.pinned (OpenSpec.upto fourMaySpec)

/-- 'portmanteaulaw18.FourEncodes', WHERE WHAT IT READS IS OF BULK AT MOST 1048576: true; the input reads as it did. -/
def fourEncodesUptoRow : OpenClaim := { program := "ytdppageondgjkaagreat", sum := "bfe698736f1079838d5a069f178d8491d013b1b7c3f9b1b86492653ce280f755", func := "portmanteau/portmanteaulaw18.FourEncodes", spec := "fourEncodes", unfollowed := true, recurses := true, apart := false, narrowed := true }
def FourEncodesUptoSaid : Prop := fourEncodesUptoRow.holds Tryz.pinned (OpenSpec.upto fourEncodesSpec)

/-- 'portmanteaulaw18.FourSizes', WHERE WHAT IT READS IS OF BULK AT MOST 1048576: true; the input reads as it did. -/
def fourSizesUptoRow : OpenClaim := { program := "ytdppageondgjkaagreat", sum := "bfe698736f1079838d5a069f178d8491d013b1b7c3f9b1b86492653ce280f755", func := "portmanteau/portmanteaulaw18.FourSizes", spec := "fourSizes", unfollowed := true, recurses := true, apart := false, narrowed := true }
def FourSizesUptoSaid : Prop := fourSizesUptoRow.holds Tryz.pinned (OpenSpec.upto fourSizesSpec)

/-- 'portmanteaulaw18.FourJoins', WHERE WHAT IT READS IS OF BULK AT MOST 1048576: true; the input reads as it did. -/
def fourJoinsUptoRow : OpenClaim := { program := "ytdppageondgjkaagreat", sum := "bfe698736f1079838d5a069f178d8491d013b1b7c3f9b1b86492653ce280f755", func := "portmanteau/portmanteaulaw18.FourJoins", spec := "fourJoins", unfollowed := true, recurses := true, apart := false, narrowed := true }
def FourJoinsUptoSaid : Prop := fourJoinsUptoRow.holds Tryz.pinned (OpenSpec.upto fourJoinsSpec)

/-- 'portmanteaulaw18.FourDecodes', WHERE WHAT IT READS IS OF BULK AT MOST 1048576: true; the input reads as it did. -/
def fourDecodesUptoRow : OpenClaim := { program := "ytdppageondgjkaagreat", sum := "bfe698736f1079838d5a069f178d8491d013b1b7c3f9b1b86492653ce280f755", func := "portmanteau/portmanteaulaw18.FourDecodes", spec := "fourDecodes", unfollowed := true, recurses := true, apart := false, narrowed := true }
def FourDecodesUptoSaid : Prop := fourDecodesUptoRow.holds Tryz.pinned (OpenSpec.upto fourDecodesSpec)

/-- 'portmanteaulaw18.FourStreams', WHERE WHAT IT READS IS OF BULK AT MOST 1048576: true; the input reads as it did. -/
def fourStreamsUptoRow : OpenClaim := { program := "ytdppageondgjkaagreat", sum := "bfe698736f1079838d5a069f178d8491d013b1b7c3f9b1b86492653ce280f755", func := "portmanteau/portmanteaulaw18.FourStreams", spec := "fourStreams", unfollowed := true, recurses := true, apart := false, narrowed := true }
def FourStreamsUptoSaid : Prop := fourStreamsUptoRow.holds Tryz.pinned (OpenSpec.upto fourStreamsSpec)

/-- 'portmanteaulaw18.FourHolds', WHERE WHAT IT READS IS OF BULK AT MOST 1048576: true; the input reads as it did. -/
def fourHoldsUptoRow : OpenClaim := { program := "ytdppageondgjkaagreat", sum := "bfe698736f1079838d5a069f178d8491d013b1b7c3f9b1b86492653ce280f755", func := "portmanteau/portmanteaulaw18.FourHolds", spec := "fourHolds", unfollowed := true, recurses := true, apart := false, narrowed := true }
def FourHoldsUptoSaid : Prop := fourHoldsUptoRow.holds Tryz.pinned (OpenSpec.upto fourHoldsSpec)

/-- 'portmanteaulaw18.FourEach', WHERE WHAT IT READS IS OF BULK AT MOST 1048576: true; the input reads as it did. -/
def fourEachUptoRow : OpenClaim := { program := "ytdppageondgjkaagreat", sum := "bfe698736f1079838d5a069f178d8491d013b1b7c3f9b1b86492653ce280f755", func := "portmanteau/portmanteaulaw18.FourEach", spec := "fourEach", unfollowed := true, recurses := true, apart := false, narrowed := true }
def FourEachUptoSaid : Prop := fourEachUptoRow.holds Tryz.pinned (OpenSpec.upto fourEachSpec)

end Rows
end Go.Proofs.YtdppageondgjkaaGreat
