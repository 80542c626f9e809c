/-
  No cell of these rows narrows 'for every input' (looked for: loops, veiled, ifaces, maps, wideKeys, modest, calm, conditions, laid).
  DERIVED. THE GIVEN ROWS OF THIS SEAT. 10 by the template 'for every input the law returns true; each argument reads behind the call as it read before'; 0 by the template 'total and deterministic' (their statements: YtigojafhogjnfaaTotals.lean).
  GIVEN WITH THE SEED: the statements are not yours to turn. If you find one false, say at which input.
  Laid BY PROGRAM, IN A SANDBOX (cutbox-rows.mjs): the forced cells as the released guide's own fill.sh prints them over the translation 5b02dc8bf2c4f7f3… (all of the seat's roots in one cut). By AI agents, Wed Nov 11 2026. No macro, syntax, notation, axiom, sorry.
-/
import Derived.Test.YtigojafhogjnfaaChecked
import GoSem.Claim
import GoSem.ClaimJoined
import GoSem.ClaimMapViews
import Derived.JoinedTies
import Derived.KernelRfl
namespace Go.Proofs.Ytigojafhogjnfaa
/- THE CELL 'sum', in the pinned program and in every row, IS THE sha256 OF THE DUMP (.gsa) THAT YtigojafhogjnfaaProg.lean LOADS. Nothing in Lean hashes anything: it is a label: what it is worth is what the hold of that sum in a sandbox is worth. -/
noncomputable def Try.pinned : Pinned := { name := "ytigojafhogjnfaa", sum := "5b02dc8bf2c4f7f38ab0ced7f5d401c88dbe8e5286138615485062720432758b", checked := Try.checked }
namespace Rows
def none {H : Type} : Left H := { results := [], args := [] }

/-- 'portmanteaulaw01.NumPuts': WHATEVER THE INPUT: true; the input reads as it did. -/
def numPutsSpec : ChangeSpec := { name := "numPuts", fn := fun _ => fun
  | [d1, d2, d3] => { results := [.lit (.bool true)], args := [d1, d2, d3] }
  | _ => none }
def numPutsRow : OpenClaim := { program := "ytigojafhogjnfaa", sum := "5b02dc8bf2c4f7f38ab0ced7f5d401c88dbe8e5286138615485062720432758b", func := "portmanteau/portmanteaulaw01.NumPuts", spec := "numPuts", unfollowed := true, recurses := true, apart := false }
def NumPutsSaid : Prop := numPutsRow.holds Try.pinned (OpenSpec.ofChange numPutsSpec)

/-- ITS FALSE NEIGHBOUR: 'it returns false'. Refute it at one input. -/
def numPutsWrong : ChangeSpec := { name := "numPuts", fn := fun _ => fun
  | [d1, d2, d3] => { results := [.lit (.bool false)], args := [d1, d2, d3] }
  | _ => none }
def NumPutsWrongFalsely : Prop := numPutsRow.holds Try.pinned (OpenSpec.ofChange numPutsWrong)

/-- 'portmanteaulaw01.NumApart': WHATEVER THE INPUT: true; the input reads as it did. -/
def numApartSpec : ChangeSpec := { name := "numApart", fn := fun _ => fun
  | [d1, d2] => { results := [.lit (.bool true)], args := [d1, d2] }
  | _ => none }
def numApartRow : OpenClaim := { program := "ytigojafhogjnfaa", sum := "5b02dc8bf2c4f7f38ab0ced7f5d401c88dbe8e5286138615485062720432758b", func := "portmanteau/portmanteaulaw01.NumApart", spec := "numApart", unfollowed := true, recurses := true, apart := false }
def NumApartSaid : Prop := numApartRow.holds Try.pinned (OpenSpec.ofChange numApartSpec)

/-- ITS FALSE NEIGHBOUR: 'it returns false'. Refute it at one input. -/
def numApartWrong : ChangeSpec := { name := "numApart", fn := fun _ => fun
  | [d1, d2] => { results := [.lit (.bool false)], args := [d1, d2] }
  | _ => none }
def NumApartWrongFalsely : Prop := numApartRow.holds Try.pinned (OpenSpec.ofChange numApartWrong)

/-- 'portmanteaulaw01.NumMost': WHATEVER THE INPUT: true; the input reads as it did. -/
def numMostSpec : ChangeSpec := { name := "numMost", fn := fun _ => fun
  | [] => { results := [.lit (.bool true)], args := [] }
  | _ => none }
def numMostRow : OpenClaim := { program := "ytigojafhogjnfaa", sum := "5b02dc8bf2c4f7f38ab0ced7f5d401c88dbe8e5286138615485062720432758b", func := "portmanteau/portmanteaulaw01.NumMost", spec := "numMost", unfollowed := true, recurses := true, apart := false }
def NumMostSaid : Prop := numMostRow.holds Try.pinned (OpenSpec.ofChange numMostSpec)

/-- ITS FALSE NEIGHBOUR: 'it returns false'. Refute it at one input. -/
def numMostWrong : ChangeSpec := { name := "numMost", fn := fun _ => fun
  | [] => { results := [.lit (.bool false)], args := [] }
  | _ => none }
def NumMostWrongFalsely : Prop := numMostRow.holds Try.pinned (OpenSpec.ofChange numMostWrong)

/-- 'portmanteaulaw01.NumOnce': WHATEVER THE INPUT: true; the input reads as it did. -/
def numOnceSpec : ChangeSpec := { name := "numOnce", fn := fun _ => fun
  | [d] => { results := [.lit (.bool true)], args := [d] }
  | _ => none }
def numOnceRow : OpenClaim := { program := "ytigojafhogjnfaa", sum := "5b02dc8bf2c4f7f38ab0ced7f5d401c88dbe8e5286138615485062720432758b", func := "portmanteau/portmanteaulaw01.NumOnce", spec := "numOnce", unfollowed := true, recurses := true, apart := false }
def NumOnceSaid : Prop := numOnceRow.holds Try.pinned (OpenSpec.ofChange numOnceSpec)

/-- ITS FALSE NEIGHBOUR: 'it returns false'. Refute it at one input. -/
def numOnceWrong : ChangeSpec := { name := "numOnce", fn := fun _ => fun
  | [d] => { results := [.lit (.bool false)], args := [d] }
  | _ => none }
def NumOnceWrongFalsely : Prop := numOnceRow.holds Try.pinned (OpenSpec.ofChange numOnceWrong)

/-- 'portmanteaulaw01.NumOwn': WHATEVER THE INPUT: true; the input reads as it did. -/
def numOwnSpec : ChangeSpec := { name := "numOwn", fn := fun _ => fun
  | [d] => { results := [.lit (.bool true)], args := [d] }
  | _ => none }
def numOwnRow : OpenClaim := { program := "ytigojafhogjnfaa", sum := "5b02dc8bf2c4f7f38ab0ced7f5d401c88dbe8e5286138615485062720432758b", func := "portmanteau/portmanteaulaw01.NumOwn", spec := "numOwn", unfollowed := true, recurses := true, apart := false }
def NumOwnSaid : Prop := numOwnRow.holds Try.pinned (OpenSpec.ofChange numOwnSpec)

/-- ITS FALSE NEIGHBOUR: 'it returns false'. Refute it at one input. -/
def numOwnWrong : ChangeSpec := { name := "numOwn", fn := fun _ => fun
  | [d] => { results := [.lit (.bool false)], args := [d] }
  | _ => none }
def NumOwnWrongFalsely : Prop := numOwnRow.holds Try.pinned (OpenSpec.ofChange numOwnWrong)

/-- 'portmanteaulaw01.NumPeeks': WHATEVER THE INPUT: true; the input reads as it did. -/
def numPeeksSpec : ChangeSpec := { name := "numPeeks", fn := fun _ => fun
  | [d1, d2, d3] => { results := [.lit (.bool true)], args := [d1, d2, d3] }
  | _ => none }
def numPeeksRow : OpenClaim := { program := "ytigojafhogjnfaa", sum := "5b02dc8bf2c4f7f38ab0ced7f5d401c88dbe8e5286138615485062720432758b", func := "portmanteau/portmanteaulaw01.NumPeeks", spec := "numPeeks", unfollowed := true, recurses := true, apart := false }
def NumPeeksSaid : Prop := numPeeksRow.holds Try.pinned (OpenSpec.ofChange numPeeksSpec)

/-- ITS FALSE NEIGHBOUR: 'it returns false'. Refute it at one input. -/
def numPeeksWrong : ChangeSpec := { name := "numPeeks", fn := fun _ => fun
  | [d1, d2, d3] => { results := [.lit (.bool false)], args := [d1, d2, d3] }
  | _ => none }
def NumPeeksWrongFalsely : Prop := numPeeksRow.holds Try.pinned (OpenSpec.ofChange numPeeksWrong)

/-- 'portmanteaulaw01.NumBack': WHATEVER THE INPUT: true; the input reads as it did. -/
def numBackSpec : ChangeSpec := { name := "numBack", fn := fun _ => fun
  | [d1, d2, d3, d4] => { results := [.lit (.bool true)], args := [d1, d2, d3, d4] }
  | _ => none }
def numBackRow : OpenClaim := { program := "ytigojafhogjnfaa", sum := "5b02dc8bf2c4f7f38ab0ced7f5d401c88dbe8e5286138615485062720432758b", func := "portmanteau/portmanteaulaw01.NumBack", spec := "numBack", unfollowed := true, recurses := true, apart := false }
def NumBackSaid : Prop := numBackRow.holds Try.pinned (OpenSpec.ofChange numBackSpec)

/-- ITS FALSE NEIGHBOUR: 'it returns false'. Refute it at one input. -/
def numBackWrong : ChangeSpec := { name := "numBack", fn := fun _ => fun
  | [d1, d2, d3, d4] => { results := [.lit (.bool false)], args := [d1, d2, d3, d4] }
  | _ => none }
def NumBackWrongFalsely : Prop := numBackRow.holds Try.pinned (OpenSpec.ofChange numBackWrong)

/-- 'portmanteaulaw01.NumReads': WHATEVER THE INPUT: true; the input reads as it did. -/
def numReadsSpec : ChangeSpec := { name := "numReads", fn := fun _ => fun
  | [d1, d2] => { results := [.lit (.bool true)], args := [d1, d2] }
  | _ => none }
def numReadsRow : OpenClaim := { program := "ytigojafhogjnfaa", sum := "5b02dc8bf2c4f7f38ab0ced7f5d401c88dbe8e5286138615485062720432758b", func := "portmanteau/portmanteaulaw01.NumReads", spec := "numReads", unfollowed := true, recurses := true, apart := false }
def NumReadsSaid : Prop := numReadsRow.holds Try.pinned (OpenSpec.ofChange numReadsSpec)

/-- ITS FALSE NEIGHBOUR: 'it returns false'. Refute it at one input. -/
def numReadsWrong : ChangeSpec := { name := "numReads", fn := fun _ => fun
  | [d1, d2] => { results := [.lit (.bool false)], args := [d1, d2] }
  | _ => none }
def NumReadsWrongFalsely : Prop := numReadsRow.holds Try.pinned (OpenSpec.ofChange numReadsWrong)

/-- 'portmanteaulaw01.NumSubs': WHATEVER THE INPUT: true; the input reads as it did. -/
def numSubsSpec : ChangeSpec := { name := "numSubs", fn := fun _ => fun
  | [d1, d2, d3, d4] => { results := [.lit (.bool true)], args := [d1, d2, d3, d4] }
  | _ => none }
def numSubsRow : OpenClaim := { program := "ytigojafhogjnfaa", sum := "5b02dc8bf2c4f7f38ab0ced7f5d401c88dbe8e5286138615485062720432758b", func := "portmanteau/portmanteaulaw01.NumSubs", spec := "numSubs", unfollowed := true, recurses := true, apart := false }
def NumSubsSaid : Prop := numSubsRow.holds Try.pinned (OpenSpec.ofChange numSubsSpec)

/-- ITS FALSE NEIGHBOUR: 'it returns false'. Refute it at one input. -/
def numSubsWrong : ChangeSpec := { name := "numSubs", fn := fun _ => fun
  | [d1, d2, d3, d4] => { results := [.lit (.bool false)], args := [d1, d2, d3, d4] }
  | _ => none }
def NumSubsWrongFalsely : Prop := numSubsRow.holds Try.pinned (OpenSpec.ofChange numSubsWrong)

/-- 'portmanteaulaw01.NumNil': WHATEVER THE INPUT: true; the input reads as it did. -/
def numNilSpec : ChangeSpec := { name := "numNil", fn := fun _ => fun
  | [d1, d2] => { results := [.lit (.bool true)], args := [d1, d2] }
  | _ => none }
def numNilRow : OpenClaim := { program := "ytigojafhogjnfaa", sum := "5b02dc8bf2c4f7f38ab0ced7f5d401c88dbe8e5286138615485062720432758b", func := "portmanteau/portmanteaulaw01.NumNil", spec := "numNil", unfollowed := true, recurses := true, apart := false }
def NumNilSaid : Prop := numNilRow.holds Try.pinned (OpenSpec.ofChange numNilSpec)

/-- ITS FALSE NEIGHBOUR: 'it returns false'. Refute it at one input. -/
def numNilWrong : ChangeSpec := { name := "numNil", fn := fun _ => fun
  | [d1, d2] => { results := [.lit (.bool false)], args := [d1, d2] }
  | _ => none }
def NumNilWrongFalsely : Prop := numNilRow.holds Try.pinned (OpenSpec.ofChange numNilWrong)

/- THE SECOND FORM. 'bulk': how many values and letters a reading holds, each counted each time it is reached (what is shared counts as often as it is met; a slice's spare places count too). A statement '..UptoSaid' is the law's where the arguments, and the package variables that the reading takes, are together of bulk at most 1048576: NARROWER than '..Said'. Prove '..Said' where nothing that the law and all that it calls make is longer than what came in: it says more and counts as full. Else prove '..UptoSaid'. A law counts once. -/
mutual
def uptoBulk {H : Type} : DataW H → Nat
  | .lit (.string bytes) => bytes.length + 1
  | .lit _ => 1
  | .nil => 1
  | .ptr d => uptoBulk d + 1
  | .slice elems spare => uptoBulkAll elems + uptoBulkAll spare + 1
  | .agg parts => uptoBulkAll parts + 1
  | .iface _ d => uptoBulk d + 1
  | .map entries => uptoBulkEntries entries + 1
  | .held _ => 1
def uptoBulkAll {H : Type} : List (DataW H) → Nat
  | [] => 0
  | d :: r => uptoBulk d + uptoBulkAll r
def uptoBulkEntries {H : Type} : List (Lit × DataW H) → Nat
  | [] => 0
  | x :: r => uptoBulkEntry x + uptoBulkEntries r
def uptoBulkEntry {H : Type} : Lit × DataW H → Nat
  | (.string bytes, d) => bytes.length + uptoBulk d + 1
  | (_, d) => uptoBulk d + 1
 end
def uptoSmall : (H : Type) → List (DataW H) → Bool := fun _ ds => decide (uptoBulkAll ds ≤ 1048576)
def OpenSpec.upto (s : _root_.Go.ChangeSpec) : _root_.Go.OpenSpec := { _root_.Go.OpenSpec.ofChange s with cond := some uptoSmall }

/-- 'portmanteaulaw01.NumPuts', WHERE WHAT IT READS IS OF BULK AT MOST 1048576: true; the input reads as it did. -/
def numPutsUptoRow : OpenClaim := { program := "ytigojafhogjnfaa", sum := "5b02dc8bf2c4f7f38ab0ced7f5d401c88dbe8e5286138615485062720432758b", func := "portmanteau/portmanteaulaw01.NumPuts", spec := "numPuts", unfollowed := true, recurses := true, apart := false, narrowed := true }
def NumPutsUptoSaid : Prop := numPutsUptoRow.holds Try.pinned (OpenSpec.upto numPutsSpec)

/-- 'portmanteaulaw01.NumApart', WHERE WHAT IT READS IS OF BULK AT MOST 1048576: true; the input reads as it did. -/
def numApartUptoRow : OpenClaim := { program := "ytigojafhogjnfaa", sum := "5b02dc8bf2c4f7f38ab0ced7f5d401c88dbe8e5286138615485062720432758b", func := "portmanteau/portmanteaulaw01.NumApart", spec := "numApart", unfollowed := true, recurses := true, apart := false, narrowed := true }
def NumApartUptoSaid : Prop := numApartUptoRow.holds Try.pinned (OpenSpec.upto numApartSpec)

/-- 'portmanteaulaw01.NumMost', WHERE WHAT IT READS IS OF BULK AT MOST 1048576: true; the input reads as it did. -/
def numMostUptoRow : OpenClaim := { program := "ytigojafhogjnfaa", sum := "5b02dc8bf2c4f7f38ab0ced7f5d401c88dbe8e5286138615485062720432758b", func := "portmanteau/portmanteaulaw01.NumMost", spec := "numMost", unfollowed := true, recurses := true, apart := false, narrowed := true }
def NumMostUptoSaid : Prop := numMostUptoRow.holds Try.pinned (OpenSpec.upto numMostSpec)

/-- 'portmanteaulaw01.NumOnce', WHERE WHAT IT READS IS OF BULK AT MOST 1048576: true; the input reads as it did. -/
def numOnceUptoRow : OpenClaim := { program := "ytigojafhogjnfaa", sum := "5b02dc8bf2c4f7f38ab0ced7f5d401c88dbe8e5286138615485062720432758b", func := "portmanteau/portmanteaulaw01.NumOnce", spec := "numOnce", unfollowed := true, recurses := true, apart := false, narrowed := true }
def NumOnceUptoSaid : Prop := numOnceUptoRow.holds Try.pinned (OpenSpec.upto numOnceSpec)

/-- 'portmanteaulaw01.NumOwn', WHERE WHAT IT READS IS OF BULK AT MOST 1048576: true; the input reads as it did. -/
def numOwnUptoRow : OpenClaim := { program := "ytigojafhogjnfaa", sum := "5b02dc8bf2c4f7f38ab0ced7f5d401c88dbe8e5286138615485062720432758b", func := "portmanteau/portmanteaulaw01.NumOwn", spec := "numOwn", unfollowed := true, recurses := true, apart := false, narrowed := true }
def NumOwnUptoSaid : Prop := numOwnUptoRow.holds Try.pinned (OpenSpec.upto numOwnSpec)

/-- 'portmanteaulaw01.NumPeeks', WHERE WHAT IT READS IS OF BULK AT MOST 1048576: true; the input reads as it did. -/
def numPeeksUptoRow : OpenClaim := { program := "ytigojafhogjnfaa", sum := "5b02dc8bf2c4f7f38ab0ced7f5d401c88dbe8e5286138615485062720432758b", func := "portmanteau/portmanteaulaw01.NumPeeks", spec := "numPeeks", unfollowed := true, recurses := true, apart := false, narrowed := true }
def NumPeeksUptoSaid : Prop := numPeeksUptoRow.holds Try.pinned (OpenSpec.upto numPeeksSpec)

/-- 'portmanteaulaw01.NumBack', WHERE WHAT IT READS IS OF BULK AT MOST 1048576: true; the input reads as it did. -/
def numBackUptoRow : OpenClaim := { program := "ytigojafhogjnfaa", sum := "5b02dc8bf2c4f7f38ab0ced7f5d401c88dbe8e5286138615485062720432758b", func := "portmanteau/portmanteaulaw01.NumBack", spec := "numBack", unfollowed := true, recurses := true, apart := false, narrowed := true }
def NumBackUptoSaid : Prop := numBackUptoRow.holds Try.pinned (OpenSpec.upto numBackSpec)

/-- 'portmanteaulaw01.NumReads', WHERE WHAT IT READS IS OF BULK AT MOST 1048576: true; the input reads as it did. -/
def numReadsUptoRow : OpenClaim := { program := "ytigojafhogjnfaa", sum := "5b02dc8bf2c4f7f38ab0ced7f5d401c88dbe8e5286138615485062720432758b", func := "portmanteau/portmanteaulaw01.NumReads", spec := "numReads", unfollowed := true, recurses := true, apart := false, narrowed := true }
def NumReadsUptoSaid : Prop := numReadsUptoRow.holds Try.pinned (OpenSpec.upto numReadsSpec)

/-- 'portmanteaulaw01.NumSubs', WHERE WHAT IT READS IS OF BULK AT MOST 1048576: true; the input reads as it did. -/
def numSubsUptoRow : OpenClaim := { program := "ytigojafhogjnfaa", sum := "5b02dc8bf2c4f7f38ab0ced7f5d401c88dbe8e5286138615485062720432758b", func := "portmanteau/portmanteaulaw01.NumSubs", spec := "numSubs", unfollowed := true, recurses := true, apart := false, narrowed := true }
def NumSubsUptoSaid : Prop := numSubsUptoRow.holds Try.pinned (OpenSpec.upto numSubsSpec)

/-- 'portmanteaulaw01.NumNil', WHERE WHAT IT READS IS OF BULK AT MOST 1048576: true; the input reads as it did. -/
def numNilUptoRow : OpenClaim := { program := "ytigojafhogjnfaa", sum := "5b02dc8bf2c4f7f38ab0ced7f5d401c88dbe8e5286138615485062720432758b", func := "portmanteau/portmanteaulaw01.NumNil", spec := "numNil", unfollowed := true, recurses := true, apart := false, narrowed := true }
def NumNilUptoSaid : Prop := numNilUptoRow.holds Try.pinned (OpenSpec.upto numNilSpec)

end Rows
end Go.Proofs.Ytigojafhogjnfaa
