/-
  No cell of these rows narrows 'for every input' (looked for: loops, veiled, ifaces, maps, wideKeys, modest, calm, conditions, laid).
  DERIVED. THE GIVEN ROWS OF THIS SEAT. 10 by the template 'for every input the law returns true; each argument reads behind the call as it read before'; 0 by the template 'total and deterministic' (their statements: YtflmjdnhjbiobaaTotals.lean).
  GIVEN WITH THE SEED: the statements are not yours to turn. If you find one false, say at which input.
  Laid BY PROGRAM, IN A SANDBOX (cutbox-rows.mjs): the forced cells as the released guide's own fill.sh prints them over the translation 22ac6f06b02bd3db… (all of the seat's roots in one cut). By AI agents, Wed Nov 11 2026. No macro, syntax, notation, axiom, sorry.
-/
import Derived.Test.YtflmjdnhjbiobaaChecked
import GoSem.Claim
import GoSem.ClaimJoined
import GoSem.ClaimMapViews
import Derived.JoinedTies
import Derived.KernelRfl
namespace Go.Proofs.Ytflmjdnhjbiobaa
/- THE CELL 'sum', in the pinned program and in every row, IS THE sha256 OF THE DUMP (.gsa) THAT YtflmjdnhjbiobaaProg.lean LOADS. Nothing in Lean hashes anything: it is a label: what it is worth is what the hold of that sum in a sandbox is worth. -/
noncomputable def Try.pinned : Pinned := { name := "ytflmjdnhjbiobaa", sum := "22ac6f06b02bd3dba6a8775bd6880f46bd07e59fd964f6503cf3b2ad35e14d1b", checked := Try.checked }
namespace Rows
def none {H : Type} : Left H := { results := [], args := [] }

/-- 'portmanteaulaw38.HeadWindows': WHATEVER THE INPUT: true; the input reads as it did. -/
def headWindowsSpec : ChangeSpec := { name := "headWindows", fn := fun _ => fun
  | [d1, d2] => { results := [.lit (.bool true)], args := [d1, d2] }
  | _ => none }
def headWindowsRow : OpenClaim := { program := "ytflmjdnhjbiobaa", sum := "22ac6f06b02bd3dba6a8775bd6880f46bd07e59fd964f6503cf3b2ad35e14d1b", func := "portmanteau/portmanteaulaw38.HeadWindows", spec := "headWindows", unfollowed := true, recurses := true, apart := false }
def HeadWindowsSaid : Prop := headWindowsRow.holds Try.pinned (OpenSpec.ofChange headWindowsSpec)

/-- ITS FALSE NEIGHBOUR: 'it returns false'. Refute it at one input. -/
def headWindowsWrong : ChangeSpec := { name := "headWindows", fn := fun _ => fun
  | [d1, d2] => { results := [.lit (.bool false)], args := [d1, d2] }
  | _ => none }
def HeadWindowsWrongFalsely : Prop := headWindowsRow.holds Try.pinned (OpenSpec.ofChange headWindowsWrong)

/-- 'portmanteaulaw38.HeadLeast': WHATEVER THE INPUT: true; the input reads as it did. -/
def headLeastSpec : ChangeSpec := { name := "headLeast", fn := fun _ => fun
  | [d1, d2] => { results := [.lit (.bool true)], args := [d1, d2] }
  | _ => none }
def headLeastRow : OpenClaim := { program := "ytflmjdnhjbiobaa", sum := "22ac6f06b02bd3dba6a8775bd6880f46bd07e59fd964f6503cf3b2ad35e14d1b", func := "portmanteau/portmanteaulaw38.HeadLeast", spec := "headLeast", unfollowed := true, recurses := true, apart := false }
def HeadLeastSaid : Prop := headLeastRow.holds Try.pinned (OpenSpec.ofChange headLeastSpec)

/-- ITS FALSE NEIGHBOUR: 'it returns false'. Refute it at one input. -/
def headLeastWrong : ChangeSpec := { name := "headLeast", fn := fun _ => fun
  | [d1, d2] => { results := [.lit (.bool false)], args := [d1, d2] }
  | _ => none }
def HeadLeastWrongFalsely : Prop := headLeastRow.holds Try.pinned (OpenSpec.ofChange headLeastWrong)

/-- 'portmanteaulaw38.HeadPuts': WHATEVER THE INPUT: true; the input reads as it did. -/
def headPutsSpec : ChangeSpec := { name := "headPuts", fn := fun _ => fun
  | [d] => { results := [.lit (.bool true)], args := [d] }
  | _ => none }
def headPutsRow : OpenClaim := { program := "ytflmjdnhjbiobaa", sum := "22ac6f06b02bd3dba6a8775bd6880f46bd07e59fd964f6503cf3b2ad35e14d1b", func := "portmanteau/portmanteaulaw38.HeadPuts", spec := "headPuts", unfollowed := true, recurses := true, apart := false }
def HeadPutsSaid : Prop := headPutsRow.holds Try.pinned (OpenSpec.ofChange headPutsSpec)

/-- ITS FALSE NEIGHBOUR: 'it returns false'. Refute it at one input. -/
def headPutsWrong : ChangeSpec := { name := "headPuts", fn := fun _ => fun
  | [d] => { results := [.lit (.bool false)], args := [d] }
  | _ => none }
def HeadPutsWrongFalsely : Prop := headPutsRow.holds Try.pinned (OpenSpec.ofChange headPutsWrong)

/-- 'portmanteaulaw38.HeadGets': WHATEVER THE INPUT: true; the input reads as it did. -/
def headGetsSpec : ChangeSpec := { name := "headGets", fn := fun _ => fun
  | [d1, d2] => { results := [.lit (.bool true)], args := [d1, d2] }
  | _ => none }
def headGetsRow : OpenClaim := { program := "ytflmjdnhjbiobaa", sum := "22ac6f06b02bd3dba6a8775bd6880f46bd07e59fd964f6503cf3b2ad35e14d1b", func := "portmanteau/portmanteaulaw38.HeadGets", spec := "headGets", unfollowed := true, recurses := true, apart := false }
def HeadGetsSaid : Prop := headGetsRow.holds Try.pinned (OpenSpec.ofChange headGetsSpec)

/-- ITS FALSE NEIGHBOUR: 'it returns false'. Refute it at one input. -/
def headGetsWrong : ChangeSpec := { name := "headGets", fn := fun _ => fun
  | [d1, d2] => { results := [.lit (.bool false)], args := [d1, d2] }
  | _ => none }
def HeadGetsWrongFalsely : Prop := headGetsRow.holds Try.pinned (OpenSpec.ofChange headGetsWrong)

/-- 'portmanteaulaw38.HeadBack': WHATEVER THE INPUT: true; the input reads as it did. -/
def headBackSpec : ChangeSpec := { name := "headBack", fn := fun _ => fun
  | [d1, d2, d3] => { results := [.lit (.bool true)], args := [d1, d2, d3] }
  | _ => none }
def headBackRow : OpenClaim := { program := "ytflmjdnhjbiobaa", sum := "22ac6f06b02bd3dba6a8775bd6880f46bd07e59fd964f6503cf3b2ad35e14d1b", func := "portmanteau/portmanteaulaw38.HeadBack", spec := "headBack", unfollowed := true, recurses := true, apart := false }
def HeadBackSaid : Prop := headBackRow.holds Try.pinned (OpenSpec.ofChange headBackSpec)

/-- ITS FALSE NEIGHBOUR: 'it returns false'. Refute it at one input. -/
def headBackWrong : ChangeSpec := { name := "headBack", fn := fun _ => fun
  | [d1, d2, d3] => { results := [.lit (.bool false)], args := [d1, d2, d3] }
  | _ => none }
def HeadBackWrongFalsely : Prop := headBackRow.holds Try.pinned (OpenSpec.ofChange headBackWrong)

/-- 'portmanteaulaw38.HeadCuts': WHATEVER THE INPUT: true; the input reads as it did. -/
def headCutsSpec : ChangeSpec := { name := "headCuts", fn := fun _ => fun
  | [d1, d2, d3] => { results := [.lit (.bool true)], args := [d1, d2, d3] }
  | _ => none }
def headCutsRow : OpenClaim := { program := "ytflmjdnhjbiobaa", sum := "22ac6f06b02bd3dba6a8775bd6880f46bd07e59fd964f6503cf3b2ad35e14d1b", func := "portmanteau/portmanteaulaw38.HeadCuts", spec := "headCuts", unfollowed := true, recurses := true, apart := false }
def HeadCutsSaid : Prop := headCutsRow.holds Try.pinned (OpenSpec.ofChange headCutsSpec)

/-- ITS FALSE NEIGHBOUR: 'it returns false'. Refute it at one input. -/
def headCutsWrong : ChangeSpec := { name := "headCuts", fn := fun _ => fun
  | [d1, d2, d3] => { results := [.lit (.bool false)], args := [d1, d2, d3] }
  | _ => none }
def HeadCutsWrongFalsely : Prop := headCutsRow.holds Try.pinned (OpenSpec.ofChange headCutsWrong)

/-- 'portmanteaulaw38.HeadKinds': WHATEVER THE INPUT: true; the input reads as it did. -/
def headKindsSpec : ChangeSpec := { name := "headKinds", fn := fun _ => fun
  | [d] => { results := [.lit (.bool true)], args := [d] }
  | _ => none }
def headKindsRow : OpenClaim := { program := "ytflmjdnhjbiobaa", sum := "22ac6f06b02bd3dba6a8775bd6880f46bd07e59fd964f6503cf3b2ad35e14d1b", func := "portmanteau/portmanteaulaw38.HeadKinds", spec := "headKinds", unfollowed := true, recurses := true, apart := false }
def HeadKindsSaid : Prop := headKindsRow.holds Try.pinned (OpenSpec.ofChange headKindsSpec)

/-- ITS FALSE NEIGHBOUR: 'it returns false'. Refute it at one input. -/
def headKindsWrong : ChangeSpec := { name := "headKinds", fn := fun _ => fun
  | [d] => { results := [.lit (.bool false)], args := [d] }
  | _ => none }
def HeadKindsWrongFalsely : Prop := headKindsRow.holds Try.pinned (OpenSpec.ofChange headKindsWrong)

/-- 'portmanteaulaw38.HeadNil': WHATEVER THE INPUT: true; the input reads as it did. -/
def headNilSpec : ChangeSpec := { name := "headNil", fn := fun _ => fun
  | [] => { results := [.lit (.bool true)], args := [] }
  | _ => none }
def headNilRow : OpenClaim := { program := "ytflmjdnhjbiobaa", sum := "22ac6f06b02bd3dba6a8775bd6880f46bd07e59fd964f6503cf3b2ad35e14d1b", func := "portmanteau/portmanteaulaw38.HeadNil", spec := "headNil", unfollowed := true, recurses := true, apart := false }
def HeadNilSaid : Prop := headNilRow.holds Try.pinned (OpenSpec.ofChange headNilSpec)

/-- ITS FALSE NEIGHBOUR: 'it returns false'. Refute it at one input. -/
def headNilWrong : ChangeSpec := { name := "headNil", fn := fun _ => fun
  | [] => { results := [.lit (.bool false)], args := [] }
  | _ => none }
def HeadNilWrongFalsely : Prop := headNilRow.holds Try.pinned (OpenSpec.ofChange headNilWrong)

/-- 'portmanteaulaw38.HeadSkips': WHATEVER THE INPUT: true; the input reads as it did. -/
def headSkipsSpec : ChangeSpec := { name := "headSkips", fn := fun _ => fun
  | [d1, d2] => { results := [.lit (.bool true)], args := [d1, d2] }
  | _ => none }
def headSkipsRow : OpenClaim := { program := "ytflmjdnhjbiobaa", sum := "22ac6f06b02bd3dba6a8775bd6880f46bd07e59fd964f6503cf3b2ad35e14d1b", func := "portmanteau/portmanteaulaw38.HeadSkips", spec := "headSkips", unfollowed := true, recurses := true, apart := false }
def HeadSkipsSaid : Prop := headSkipsRow.holds Try.pinned (OpenSpec.ofChange headSkipsSpec)

/-- ITS FALSE NEIGHBOUR: 'it returns false'. Refute it at one input. -/
def headSkipsWrong : ChangeSpec := { name := "headSkips", fn := fun _ => fun
  | [d1, d2] => { results := [.lit (.bool false)], args := [d1, d2] }
  | _ => none }
def HeadSkipsWrongFalsely : Prop := headSkipsRow.holds Try.pinned (OpenSpec.ofChange headSkipsWrong)

/-- 'portmanteaulaw38.HeadSkipsBack': WHATEVER THE INPUT: true; the input reads as it did. -/
def headSkipsBackSpec : ChangeSpec := { name := "headSkipsBack", fn := fun _ => fun
  | [d1, d2, d3] => { results := [.lit (.bool true)], args := [d1, d2, d3] }
  | _ => none }
def headSkipsBackRow : OpenClaim := { program := "ytflmjdnhjbiobaa", sum := "22ac6f06b02bd3dba6a8775bd6880f46bd07e59fd964f6503cf3b2ad35e14d1b", func := "portmanteau/portmanteaulaw38.HeadSkipsBack", spec := "headSkipsBack", unfollowed := true, recurses := true, apart := false }
def HeadSkipsBackSaid : Prop := headSkipsBackRow.holds Try.pinned (OpenSpec.ofChange headSkipsBackSpec)

/-- ITS FALSE NEIGHBOUR: 'it returns false'. Refute it at one input. -/
def headSkipsBackWrong : ChangeSpec := { name := "headSkipsBack", fn := fun _ => fun
  | [d1, d2, d3] => { results := [.lit (.bool false)], args := [d1, d2, d3] }
  | _ => none }
def HeadSkipsBackWrongFalsely : Prop := headSkipsBackRow.holds Try.pinned (OpenSpec.ofChange headSkipsBackWrong)

/- THE SECOND FORM. 'bulk': how many values and letters a reading holds, each counted each time it is reached (what is shared counts as often as it is met; a slice's spare places count too). A statement '..UptoSaid' is the law's where the arguments, and the package variables that the reading takes, are together of bulk at most 1048576: NARROWER than '..Said'. Prove '..Said' where nothing that the law and all that it calls make is longer than what came in: it says more and counts as full. Else prove '..UptoSaid'. A law counts once. -/
mutual
def uptoBulk {H : Type} : DataW H → Nat
  | .lit (.string bytes) => bytes.length + 1
  | .lit _ => 1
  | .nil => 1
  | .ptr d => uptoBulk d + 1
  | .slice elems spare => uptoBulkAll elems + uptoBulkAll spare + 1
  | .agg parts => uptoBulkAll parts + 1
  | .iface _ d => uptoBulk d + 1
  | .map entries => uptoBulkEntries entries + 1
  | .held _ => 1
def uptoBulkAll {H : Type} : List (DataW H) → Nat
  | [] => 0
  | d :: r => uptoBulk d + uptoBulkAll r
def uptoBulkEntries {H : Type} : List (Lit × DataW H) → Nat
  | [] => 0
  | x :: r => uptoBulkEntry x + uptoBulkEntries r
def uptoBulkEntry {H : Type} : Lit × DataW H → Nat
  | (.string bytes, d) => bytes.length + uptoBulk d + 1
  | (_, d) => uptoBulk d + 1
 end
def uptoSmall : (H : Type) → List (DataW H) → Bool := fun _ ds => decide (uptoBulkAll ds ≤ 1048576)
def OpenSpec.upto (s : _root_.Go.ChangeSpec) : _root_.Go.OpenSpec := { _root_.Go.OpenSpec.ofChange s with cond := some uptoSmall }

/-- 'portmanteaulaw38.HeadWindows', WHERE WHAT IT READS IS OF BULK AT MOST 1048576: true; the input reads as it did. -/
def headWindowsUptoRow : OpenClaim := { program := "ytflmjdnhjbiobaa", sum := "22ac6f06b02bd3dba6a8775bd6880f46bd07e59fd964f6503cf3b2ad35e14d1b", func := "portmanteau/portmanteaulaw38.HeadWindows", spec := "headWindows", unfollowed := true, recurses := true, apart := false, narrowed := true }
def HeadWindowsUptoSaid : Prop := headWindowsUptoRow.holds Try.pinned (OpenSpec.upto headWindowsSpec)

/-- 'portmanteaulaw38.HeadLeast', WHERE WHAT IT READS IS OF BULK AT MOST 1048576: true; the input reads as it did. -/
def headLeastUptoRow : OpenClaim := { program := "ytflmjdnhjbiobaa", sum := "22ac6f06b02bd3dba6a8775bd6880f46bd07e59fd964f6503cf3b2ad35e14d1b", func := "portmanteau/portmanteaulaw38.HeadLeast", spec := "headLeast", unfollowed := true, recurses := true, apart := false, narrowed := true }
def HeadLeastUptoSaid : Prop := headLeastUptoRow.holds Try.pinned (OpenSpec.upto headLeastSpec)

/-- 'portmanteaulaw38.HeadPuts', WHERE WHAT IT READS IS OF BULK AT MOST 1048576: true; the input reads as it did. -/
def headPutsUptoRow : OpenClaim := { program := "ytflmjdnhjbiobaa", sum := "22ac6f06b02bd3dba6a8775bd6880f46bd07e59fd964f6503cf3b2ad35e14d1b", func := "portmanteau/portmanteaulaw38.HeadPuts", spec := "headPuts", unfollowed := true, recurses := true, apart := false, narrowed := true }
def HeadPutsUptoSaid : Prop := headPutsUptoRow.holds Try.pinned (OpenSpec.upto headPutsSpec)

/-- 'portmanteaulaw38.HeadGets', WHERE WHAT IT READS IS OF BULK AT MOST 1048576: true; the input reads as it did. -/
def headGetsUptoRow : OpenClaim := { program := "ytflmjdnhjbiobaa", sum := "22ac6f06b02bd3dba6a8775bd6880f46bd07e59fd964f6503cf3b2ad35e14d1b", func := "portmanteau/portmanteaulaw38.HeadGets", spec := "headGets", unfollowed := true, recurses := true, apart := false, narrowed := true }
def HeadGetsUptoSaid : Prop := headGetsUptoRow.holds Try.pinned (OpenSpec.upto headGetsSpec)

/-- 'portmanteaulaw38.HeadBack', WHERE WHAT IT READS IS OF BULK AT MOST 1048576: true; the input reads as it did. -/
def headBackUptoRow : OpenClaim := { program := "ytflmjdnhjbiobaa", sum := "22ac6f06b02bd3dba6a8775bd6880f46bd07e59fd964f6503cf3b2ad35e14d1b", func := "portmanteau/portmanteaulaw38.HeadBack", spec := "headBack", unfollowed := true, recurses := true, apart := false, narrowed := true }
def HeadBackUptoSaid : Prop := headBackUptoRow.holds Try.pinned (OpenSpec.upto headBackSpec)

/-- 'portmanteaulaw38.HeadCuts', WHERE WHAT IT READS IS OF BULK AT MOST 1048576: true; the input reads as it did. -/
def headCutsUptoRow : OpenClaim := { program := "ytflmjdnhjbiobaa", sum := "22ac6f06b02bd3dba6a8775bd6880f46bd07e59fd964f6503cf3b2ad35e14d1b", func := "portmanteau/portmanteaulaw38.HeadCuts", spec := "headCuts", unfollowed := true, recurses := true, apart := false, narrowed := true }
def HeadCutsUptoSaid : Prop := headCutsUptoRow.holds Try.pinned (OpenSpec.upto headCutsSpec)

/-- 'portmanteaulaw38.HeadKinds', WHERE WHAT IT READS IS OF BULK AT MOST 1048576: true; the input reads as it did. -/
def headKindsUptoRow : OpenClaim := { program := "ytflmjdnhjbiobaa", sum := "22ac6f06b02bd3dba6a8775bd6880f46bd07e59fd964f6503cf3b2ad35e14d1b", func := "portmanteau/portmanteaulaw38.HeadKinds", spec := "headKinds", unfollowed := true, recurses := true, apart := false, narrowed := true }
def HeadKindsUptoSaid : Prop := headKindsUptoRow.holds Try.pinned (OpenSpec.upto headKindsSpec)

/-- 'portmanteaulaw38.HeadNil', WHERE WHAT IT READS IS OF BULK AT MOST 1048576: true; the input reads as it did. -/
def headNilUptoRow : OpenClaim := { program := "ytflmjdnhjbiobaa", sum := "22ac6f06b02bd3dba6a8775bd6880f46bd07e59fd964f6503cf3b2ad35e14d1b", func := "portmanteau/portmanteaulaw38.HeadNil", spec := "headNil", unfollowed := true, recurses := true, apart := false, narrowed := true }
def HeadNilUptoSaid : Prop := headNilUptoRow.holds Try.pinned (OpenSpec.upto headNilSpec)

/-- 'portmanteaulaw38.HeadSkips', WHERE WHAT IT READS IS OF BULK AT MOST 1048576: true; the input reads as it did. -/
def headSkipsUptoRow : OpenClaim := { program := "ytflmjdnhjbiobaa", sum := "22ac6f06b02bd3dba6a8775bd6880f46bd07e59fd964f6503cf3b2ad35e14d1b", func := "portmanteau/portmanteaulaw38.HeadSkips", spec := "headSkips", unfollowed := true, recurses := true, apart := false, narrowed := true }
def HeadSkipsUptoSaid : Prop := headSkipsUptoRow.holds Try.pinned (OpenSpec.upto headSkipsSpec)

/-- 'portmanteaulaw38.HeadSkipsBack', WHERE WHAT IT READS IS OF BULK AT MOST 1048576: true; the input reads as it did. -/
def headSkipsBackUptoRow : OpenClaim := { program := "ytflmjdnhjbiobaa", sum := "22ac6f06b02bd3dba6a8775bd6880f46bd07e59fd964f6503cf3b2ad35e14d1b", func := "portmanteau/portmanteaulaw38.HeadSkipsBack", spec := "headSkipsBack", unfollowed := true, recurses := true, apart := false, narrowed := true }
def HeadSkipsBackUptoSaid : Prop := headSkipsBackUptoRow.holds Try.pinned (OpenSpec.upto headSkipsBackSpec)

end Rows
end Go.Proofs.Ytflmjdnhjbiobaa
