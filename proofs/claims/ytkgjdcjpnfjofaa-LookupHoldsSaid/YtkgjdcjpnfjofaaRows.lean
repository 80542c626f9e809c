/-
  No cell of these rows narrows 'for every input' (looked for: loops, veiled, ifaces, maps, wideKeys, modest, calm, conditions, laid).
  DERIVED. THE GIVEN ROWS OF THIS SEAT. 8 by the template 'for every input the law returns true; each argument reads behind the call as it read before'; 0 by the template 'total and deterministic' (their statements: YtkgjdcjpnfjofaaTotals.lean).
  GIVEN WITH THE SEED: the statements are not yours to turn. If you find one false, say at which input.
  Laid BY PROGRAM, IN A SANDBOX (cutbox-rows.mjs): the forced cells as the released guide's own fill.sh prints them over the translation 0c7b8253969f6943… (all of the seat's roots in one cut). By AI agents, Wed Nov 11 2026. No macro, syntax, notation, axiom, sorry.
-/
import Derived.Test.YtkgjdcjpnfjofaaChecked
import GoSem.Claim
import GoSem.ClaimJoined
import GoSem.ClaimMapViews
import Derived.JoinedTies
import Derived.KernelRfl
namespace Go.Proofs.Ytkgjdcjpnfjofaa
/- THE CELL 'sum', in the pinned program and in every row, IS THE sha256 OF THE DUMP (.gsa) THAT YtkgjdcjpnfjofaaProg.lean LOADS. Nothing in Lean hashes anything: it is a label: what it is worth is what the hold of that sum in a sandbox is worth. -/
noncomputable def Try.pinned : Pinned := { name := "ytkgjdcjpnfjofaa", sum := "0c7b8253969f6943fbb84984075ebe0c5fcddf03657d78cc23f7ed88fec34c9f", checked := Try.checked }
namespace Rows
def none {H : Type} : Left H := { results := [], args := [] }

/-- 'portmanteaulaw15.LookupOf': WHATEVER THE INPUT: true; the input reads as it did. -/
def lookupOfSpec : ChangeSpec := { name := "lookupOf", fn := fun _ => fun
  | [d] => { results := [.lit (.bool true)], args := [d] }
  | _ => none }
def lookupOfRow : OpenClaim := { program := "ytkgjdcjpnfjofaa", sum := "0c7b8253969f6943fbb84984075ebe0c5fcddf03657d78cc23f7ed88fec34c9f", func := "portmanteau/portmanteaulaw15.LookupOf", spec := "lookupOf", unfollowed := true, recurses := true, apart := false }
def LookupOfSaid : Prop := lookupOfRow.holds Try.pinned (OpenSpec.ofChange lookupOfSpec)

/-- ITS FALSE NEIGHBOUR: 'it returns false'. Refute it at one input. -/
def lookupOfWrong : ChangeSpec := { name := "lookupOf", fn := fun _ => fun
  | [d] => { results := [.lit (.bool false)], args := [d] }
  | _ => none }
def LookupOfWrongFalsely : Prop := lookupOfRow.holds Try.pinned (OpenSpec.ofChange lookupOfWrong)

/-- 'portmanteaulaw15.LookupAt': WHATEVER THE INPUT: true; the input reads as it did. -/
def lookupAtSpec : ChangeSpec := { name := "lookupAt", fn := fun _ => fun
  | [d1, d2] => { results := [.lit (.bool true)], args := [d1, d2] }
  | _ => none }
def lookupAtRow : OpenClaim := { program := "ytkgjdcjpnfjofaa", sum := "0c7b8253969f6943fbb84984075ebe0c5fcddf03657d78cc23f7ed88fec34c9f", func := "portmanteau/portmanteaulaw15.LookupAt", spec := "lookupAt", unfollowed := true, recurses := true, apart := false }
def LookupAtSaid : Prop := lookupAtRow.holds Try.pinned (OpenSpec.ofChange lookupAtSpec)

/-- ITS FALSE NEIGHBOUR: 'it returns false'. Refute it at one input. -/
def lookupAtWrong : ChangeSpec := { name := "lookupAt", fn := fun _ => fun
  | [d1, d2] => { results := [.lit (.bool false)], args := [d1, d2] }
  | _ => none }
def LookupAtWrongFalsely : Prop := lookupAtRow.holds Try.pinned (OpenSpec.ofChange lookupAtWrong)

/-- 'portmanteaulaw15.LookupNexts': WHATEVER THE INPUT: true; the input reads as it did. -/
def lookupNextsSpec : ChangeSpec := { name := "lookupNexts", fn := fun _ => fun
  | [d1, d2, d3] => { results := [.lit (.bool true)], args := [d1, d2, d3] }
  | _ => none }
def lookupNextsRow : OpenClaim := { program := "ytkgjdcjpnfjofaa", sum := "0c7b8253969f6943fbb84984075ebe0c5fcddf03657d78cc23f7ed88fec34c9f", func := "portmanteau/portmanteaulaw15.LookupNexts", spec := "lookupNexts", unfollowed := true, recurses := true, apart := false }
def LookupNextsSaid : Prop := lookupNextsRow.holds Try.pinned (OpenSpec.ofChange lookupNextsSpec)

/-- ITS FALSE NEIGHBOUR: 'it returns false'. Refute it at one input. -/
def lookupNextsWrong : ChangeSpec := { name := "lookupNexts", fn := fun _ => fun
  | [d1, d2, d3] => { results := [.lit (.bool false)], args := [d1, d2, d3] }
  | _ => none }
def LookupNextsWrongFalsely : Prop := lookupNextsRow.holds Try.pinned (OpenSpec.ofChange lookupNextsWrong)

/-- 'portmanteaulaw15.LookupTwos': WHATEVER THE INPUT: true; the input reads as it did. -/
def lookupTwosSpec : ChangeSpec := { name := "lookupTwos", fn := fun _ => fun
  | [d1, d2] => { results := [.lit (.bool true)], args := [d1, d2] }
  | _ => none }
def lookupTwosRow : OpenClaim := { program := "ytkgjdcjpnfjofaa", sum := "0c7b8253969f6943fbb84984075ebe0c5fcddf03657d78cc23f7ed88fec34c9f", func := "portmanteau/portmanteaulaw15.LookupTwos", spec := "lookupTwos", unfollowed := true, recurses := true, apart := false }
def LookupTwosSaid : Prop := lookupTwosRow.holds Try.pinned (OpenSpec.ofChange lookupTwosSpec)

/-- ITS FALSE NEIGHBOUR: 'it returns false'. Refute it at one input. -/
def lookupTwosWrong : ChangeSpec := { name := "lookupTwos", fn := fun _ => fun
  | [d1, d2] => { results := [.lit (.bool false)], args := [d1, d2] }
  | _ => none }
def LookupTwosWrongFalsely : Prop := lookupTwosRow.holds Try.pinned (OpenSpec.ofChange lookupTwosWrong)

/-- 'portmanteaulaw15.LookupRuns': WHATEVER THE INPUT: true; the input reads as it did. -/
def lookupRunsSpec : ChangeSpec := { name := "lookupRuns", fn := fun _ => fun
  | [d1, d2] => { results := [.lit (.bool true)], args := [d1, d2] }
  | _ => none }
def lookupRunsRow : OpenClaim := { program := "ytkgjdcjpnfjofaa", sum := "0c7b8253969f6943fbb84984075ebe0c5fcddf03657d78cc23f7ed88fec34c9f", func := "portmanteau/portmanteaulaw15.LookupRuns", spec := "lookupRuns", unfollowed := true, recurses := true, apart := false }
def LookupRunsSaid : Prop := lookupRunsRow.holds Try.pinned (OpenSpec.ofChange lookupRunsSpec)

/-- ITS FALSE NEIGHBOUR: 'it returns false'. Refute it at one input. -/
def lookupRunsWrong : ChangeSpec := { name := "lookupRuns", fn := fun _ => fun
  | [d1, d2] => { results := [.lit (.bool false)], args := [d1, d2] }
  | _ => none }
def LookupRunsWrongFalsely : Prop := lookupRunsRow.holds Try.pinned (OpenSpec.ofChange lookupRunsWrong)

/-- 'portmanteaulaw15.LookupHolds': WHATEVER THE INPUT: true; the input reads as it did. -/
def lookupHoldsSpec : ChangeSpec := { name := "lookupHolds", fn := fun _ => fun
  | [d1, d2] => { results := [.lit (.bool true)], args := [d1, d2] }
  | _ => none }
def lookupHoldsRow : OpenClaim := { program := "ytkgjdcjpnfjofaa", sum := "0c7b8253969f6943fbb84984075ebe0c5fcddf03657d78cc23f7ed88fec34c9f", func := "portmanteau/portmanteaulaw15.LookupHolds", spec := "lookupHolds", unfollowed := true, recurses := true, apart := false }
def LookupHoldsSaid : Prop := lookupHoldsRow.holds Try.pinned (OpenSpec.ofChange lookupHoldsSpec)

/-- ITS FALSE NEIGHBOUR: 'it returns false'. Refute it at one input. -/
def lookupHoldsWrong : ChangeSpec := { name := "lookupHolds", fn := fun _ => fun
  | [d1, d2] => { results := [.lit (.bool false)], args := [d1, d2] }
  | _ => none }
def LookupHoldsWrongFalsely : Prop := lookupHoldsRow.holds Try.pinned (OpenSpec.ofChange lookupHoldsWrong)

/-- 'portmanteaulaw15.LookupSames': WHATEVER THE INPUT: true; the input reads as it did. -/
def lookupSamesSpec : ChangeSpec := { name := "lookupSames", fn := fun _ => fun
  | [d1, d2] => { results := [.lit (.bool true)], args := [d1, d2] }
  | _ => none }
def lookupSamesRow : OpenClaim := { program := "ytkgjdcjpnfjofaa", sum := "0c7b8253969f6943fbb84984075ebe0c5fcddf03657d78cc23f7ed88fec34c9f", func := "portmanteau/portmanteaulaw15.LookupSames", spec := "lookupSames", unfollowed := true, recurses := true, apart := false }
def LookupSamesSaid : Prop := lookupSamesRow.holds Try.pinned (OpenSpec.ofChange lookupSamesSpec)

/-- ITS FALSE NEIGHBOUR: 'it returns false'. Refute it at one input. -/
def lookupSamesWrong : ChangeSpec := { name := "lookupSames", fn := fun _ => fun
  | [d1, d2] => { results := [.lit (.bool false)], args := [d1, d2] }
  | _ => none }
def LookupSamesWrongFalsely : Prop := lookupSamesRow.holds Try.pinned (OpenSpec.ofChange lookupSamesWrong)

/-- 'portmanteaulaw15.LookupNone': WHATEVER THE INPUT: true; the input reads as it did. -/
def lookupNoneSpec : ChangeSpec := { name := "lookupNone", fn := fun _ => fun
  | [d1, d2, d3] => { results := [.lit (.bool true)], args := [d1, d2, d3] }
  | _ => none }
def lookupNoneRow : OpenClaim := { program := "ytkgjdcjpnfjofaa", sum := "0c7b8253969f6943fbb84984075ebe0c5fcddf03657d78cc23f7ed88fec34c9f", func := "portmanteau/portmanteaulaw15.LookupNone", spec := "lookupNone", unfollowed := true, recurses := true, apart := false }
def LookupNoneSaid : Prop := lookupNoneRow.holds Try.pinned (OpenSpec.ofChange lookupNoneSpec)

/-- ITS FALSE NEIGHBOUR: 'it returns false'. Refute it at one input. -/
def lookupNoneWrong : ChangeSpec := { name := "lookupNone", fn := fun _ => fun
  | [d1, d2, d3] => { results := [.lit (.bool false)], args := [d1, d2, d3] }
  | _ => none }
def LookupNoneWrongFalsely : Prop := lookupNoneRow.holds Try.pinned (OpenSpec.ofChange lookupNoneWrong)

/- THE SECOND FORM. 'bulk': how many values and letters a reading holds, each counted each time it is reached (what is shared counts as often as it is met; a slice's spare places count too). A statement '..UptoSaid' is the law's where the arguments, and the package variables that the reading takes, are together of bulk at most 1048576: NARROWER than '..Said'. Prove '..Said' where nothing that the law and all that it calls make is longer than what came in: it says more and counts as full. Else prove '..UptoSaid'. A law counts once. -/
mutual
def uptoBulk {H : Type} : DataW H → Nat
  | .lit (.string bytes) => bytes.length + 1
  | .lit _ => 1
  | .nil => 1
  | .ptr d => uptoBulk d + 1
  | .slice elems spare => uptoBulkAll elems + uptoBulkAll spare + 1
  | .agg parts => uptoBulkAll parts + 1
  | .iface _ d => uptoBulk d + 1
  | .map entries => uptoBulkEntries entries + 1
  | .held _ => 1
def uptoBulkAll {H : Type} : List (DataW H) → Nat
  | [] => 0
  | d :: r => uptoBulk d + uptoBulkAll r
def uptoBulkEntries {H : Type} : List (Lit × DataW H) → Nat
  | [] => 0
  | x :: r => uptoBulkEntry x + uptoBulkEntries r
def uptoBulkEntry {H : Type} : Lit × DataW H → Nat
  | (.string bytes, d) => bytes.length + uptoBulk d + 1
  | (_, d) => uptoBulk d + 1
 end
def uptoSmall : (H : Type) → List (DataW H) → Bool := fun _ ds => decide (uptoBulkAll ds ≤ 1048576)
def OpenSpec.upto (s : _root_.Go.ChangeSpec) : _root_.Go.OpenSpec := { _root_.Go.OpenSpec.ofChange s with cond := some uptoSmall }

/-- 'portmanteaulaw15.LookupOf', WHERE WHAT IT READS IS OF BULK AT MOST 1048576: true; the input reads as it did. -/
def lookupOfUptoRow : OpenClaim := { program := "ytkgjdcjpnfjofaa", sum := "0c7b8253969f6943fbb84984075ebe0c5fcddf03657d78cc23f7ed88fec34c9f", func := "portmanteau/portmanteaulaw15.LookupOf", spec := "lookupOf", unfollowed := true, recurses := true, apart := false, narrowed := true }
def LookupOfUptoSaid : Prop := lookupOfUptoRow.holds Try.pinned (OpenSpec.upto lookupOfSpec)

/-- 'portmanteaulaw15.LookupAt', WHERE WHAT IT READS IS OF BULK AT MOST 1048576: true; the input reads as it did. -/
def lookupAtUptoRow : OpenClaim := { program := "ytkgjdcjpnfjofaa", sum := "0c7b8253969f6943fbb84984075ebe0c5fcddf03657d78cc23f7ed88fec34c9f", func := "portmanteau/portmanteaulaw15.LookupAt", spec := "lookupAt", unfollowed := true, recurses := true, apart := false, narrowed := true }
def LookupAtUptoSaid : Prop := lookupAtUptoRow.holds Try.pinned (OpenSpec.upto lookupAtSpec)

/-- 'portmanteaulaw15.LookupNexts', WHERE WHAT IT READS IS OF BULK AT MOST 1048576: true; the input reads as it did. -/
def lookupNextsUptoRow : OpenClaim := { program := "ytkgjdcjpnfjofaa", sum := "0c7b8253969f6943fbb84984075ebe0c5fcddf03657d78cc23f7ed88fec34c9f", func := "portmanteau/portmanteaulaw15.LookupNexts", spec := "lookupNexts", unfollowed := true, recurses := true, apart := false, narrowed := true }
def LookupNextsUptoSaid : Prop := lookupNextsUptoRow.holds Try.pinned (OpenSpec.upto lookupNextsSpec)

/-- 'portmanteaulaw15.LookupTwos', WHERE WHAT IT READS IS OF BULK AT MOST 1048576: true; the input reads as it did. -/
def lookupTwosUptoRow : OpenClaim := { program := "ytkgjdcjpnfjofaa", sum := "0c7b8253969f6943fbb84984075ebe0c5fcddf03657d78cc23f7ed88fec34c9f", func := "portmanteau/portmanteaulaw15.LookupTwos", spec := "lookupTwos", unfollowed := true, recurses := true, apart := false, narrowed := true }
def LookupTwosUptoSaid : Prop := lookupTwosUptoRow.holds Try.pinned (OpenSpec.upto lookupTwosSpec)

/-- 'portmanteaulaw15.LookupRuns', WHERE WHAT IT READS IS OF BULK AT MOST 1048576: true; the input reads as it did. -/
def lookupRunsUptoRow : OpenClaim := { program := "ytkgjdcjpnfjofaa", sum := "0c7b8253969f6943fbb84984075ebe0c5fcddf03657d78cc23f7ed88fec34c9f", func := "portmanteau/portmanteaulaw15.LookupRuns", spec := "lookupRuns", unfollowed := true, recurses := true, apart := false, narrowed := true }
def LookupRunsUptoSaid : Prop := lookupRunsUptoRow.holds Try.pinned (OpenSpec.upto lookupRunsSpec)

/-- 'portmanteaulaw15.LookupHolds', WHERE WHAT IT READS IS OF BULK AT MOST 1048576: true; the input reads as it did. -/
def lookupHoldsUptoRow : OpenClaim := { program := "ytkgjdcjpnfjofaa", sum := "0c7b8253969f6943fbb84984075ebe0c5fcddf03657d78cc23f7ed88fec34c9f", func := "portmanteau/portmanteaulaw15.LookupHolds", spec := "lookupHolds", unfollowed := true, recurses := true, apart := false, narrowed := true }
def LookupHoldsUptoSaid : Prop := lookupHoldsUptoRow.holds Try.pinned (OpenSpec.upto lookupHoldsSpec)

/-- 'portmanteaulaw15.LookupSames', WHERE WHAT IT READS IS OF BULK AT MOST 1048576: true; the input reads as it did. -/
def lookupSamesUptoRow : OpenClaim := { program := "ytkgjdcjpnfjofaa", sum := "0c7b8253969f6943fbb84984075ebe0c5fcddf03657d78cc23f7ed88fec34c9f", func := "portmanteau/portmanteaulaw15.LookupSames", spec := "lookupSames", unfollowed := true, recurses := true, apart := false, narrowed := true }
def LookupSamesUptoSaid : Prop := lookupSamesUptoRow.holds Try.pinned (OpenSpec.upto lookupSamesSpec)

/-- 'portmanteaulaw15.LookupNone', WHERE WHAT IT READS IS OF BULK AT MOST 1048576: true; the input reads as it did. -/
def lookupNoneUptoRow : OpenClaim := { program := "ytkgjdcjpnfjofaa", sum := "0c7b8253969f6943fbb84984075ebe0c5fcddf03657d78cc23f7ed88fec34c9f", func := "portmanteau/portmanteaulaw15.LookupNone", spec := "lookupNone", unfollowed := true, recurses := true, apart := false, narrowed := true }
def LookupNoneUptoSaid : Prop := lookupNoneUptoRow.holds Try.pinned (OpenSpec.upto lookupNoneSpec)

end Rows
end Go.Proofs.Ytkgjdcjpnfjofaa
