/-
  No cell of these rows narrows 'for every input' (looked for: loops, veiled, ifaces, maps, wideKeys, modest, calm, conditions, laid).
  DERIVED. THE GIVEN ROWS OF THIS SEAT. 9 by the template 'for every input the law returns true; each argument reads behind the call as it read before'; 0 by the template 'total and deterministic' (their statements: YtakbopikohghmaaTotals.lean).
  GIVEN WITH THE SEED: the statements are not yours to turn. If you find one false, say at which input.
  Laid BY PROGRAM, IN A SANDBOX (cutbox-rows.mjs): the forced cells as the released guide's own fill.sh prints them over the translation 726027071005e918… (all of the seat's roots in one cut). By AI agents, Wed Nov 11 2026. No macro, syntax, notation, axiom, sorry.
-/
import Derived.Test.YtakbopikohghmaaChecked
import GoSem.Claim
import GoSem.ClaimJoined
import GoSem.ClaimMapViews
import Derived.JoinedTies
import Derived.KernelRfl
namespace Go.Proofs.Ytakbopikohghmaa
/- THE CELL 'sum', in the pinned program and in every row, IS THE sha256 OF THE DUMP (.gsa) THAT YtakbopikohghmaaProg.lean LOADS. Nothing in Lean hashes anything: it is a label: what it is worth is what the hold of that sum in a sandbox is worth. -/
noncomputable def Try.pinned : Pinned := { name := "ytakbopikohghmaa", sum := "726027071005e91832bb11c88828fa3c5e9925d3366674f3d0882e4aba73ae16", checked := Try.checked }
namespace Rows
def none {H : Type} : Left H := { results := [], args := [] }

/-- 'portmanteaulaw14.CanonMay': WHATEVER THE INPUT: true; the input reads as it did. -/
def canonMaySpec : ChangeSpec := { name := "canonMay", fn := fun _ => fun
  | [d] => { results := [.lit (.bool true)], args := [d] }
  | _ => none }
def canonMayRow : OpenClaim := { program := "ytakbopikohghmaa", sum := "726027071005e91832bb11c88828fa3c5e9925d3366674f3d0882e4aba73ae16", func := "portmanteau/portmanteaulaw14.CanonMay", spec := "canonMay", unfollowed := true, recurses := true, apart := false }
def CanonMaySaid : Prop := canonMayRow.holds Try.pinned (OpenSpec.ofChange canonMaySpec)

/-- ITS FALSE NEIGHBOUR: 'it returns false'. Refute it at one input. -/
def canonMayWrong : ChangeSpec := { name := "canonMay", fn := fun _ => fun
  | [d] => { results := [.lit (.bool false)], args := [d] }
  | _ => none }
def CanonMayWrongFalsely : Prop := canonMayRow.holds Try.pinned (OpenSpec.ofChange canonMayWrong)

/-- 'portmanteaulaw14.CanonCodes': WHATEVER THE INPUT: true; the input reads as it did. -/
def canonCodesSpec : ChangeSpec := { name := "canonCodes", fn := fun _ => fun
  | [d] => { results := [.lit (.bool true)], args := [d] }
  | _ => none }
def canonCodesRow : OpenClaim := { program := "ytakbopikohghmaa", sum := "726027071005e91832bb11c88828fa3c5e9925d3366674f3d0882e4aba73ae16", func := "portmanteau/portmanteaulaw14.CanonCodes", spec := "canonCodes", unfollowed := true, recurses := true, apart := false }
def CanonCodesSaid : Prop := canonCodesRow.holds Try.pinned (OpenSpec.ofChange canonCodesSpec)

/-- ITS FALSE NEIGHBOUR: 'it returns false'. Refute it at one input. -/
def canonCodesWrong : ChangeSpec := { name := "canonCodes", fn := fun _ => fun
  | [d] => { results := [.lit (.bool false)], args := [d] }
  | _ => none }
def CanonCodesWrongFalsely : Prop := canonCodesRow.holds Try.pinned (OpenSpec.ofChange canonCodesWrong)

/-- 'portmanteaulaw14.CanonSymbols': WHATEVER THE INPUT: true; the input reads as it did. -/
def canonSymbolsSpec : ChangeSpec := { name := "canonSymbols", fn := fun _ => fun
  | [d1, d2] => { results := [.lit (.bool true)], args := [d1, d2] }
  | _ => none }
def canonSymbolsRow : OpenClaim := { program := "ytakbopikohghmaa", sum := "726027071005e91832bb11c88828fa3c5e9925d3366674f3d0882e4aba73ae16", func := "portmanteau/portmanteaulaw14.CanonSymbols", spec := "canonSymbols", unfollowed := true, recurses := true, apart := false }
def CanonSymbolsSaid : Prop := canonSymbolsRow.holds Try.pinned (OpenSpec.ofChange canonSymbolsSpec)

/-- ITS FALSE NEIGHBOUR: 'it returns false'. Refute it at one input. -/
def canonSymbolsWrong : ChangeSpec := { name := "canonSymbols", fn := fun _ => fun
  | [d1, d2] => { results := [.lit (.bool false)], args := [d1, d2] }
  | _ => none }
def CanonSymbolsWrongFalsely : Prop := canonSymbolsRow.holds Try.pinned (OpenSpec.ofChange canonSymbolsWrong)

/-- 'portmanteaulaw14.CanonReads': WHATEVER THE INPUT: true; the input reads as it did. -/
def canonReadsSpec : ChangeSpec := { name := "canonReads", fn := fun _ => fun
  | [d1, d2, d3] => { results := [.lit (.bool true)], args := [d1, d2, d3] }
  | _ => none }
def canonReadsRow : OpenClaim := { program := "ytakbopikohghmaa", sum := "726027071005e91832bb11c88828fa3c5e9925d3366674f3d0882e4aba73ae16", func := "portmanteau/portmanteaulaw14.CanonReads", spec := "canonReads", unfollowed := true, recurses := true, apart := false }
def CanonReadsSaid : Prop := canonReadsRow.holds Try.pinned (OpenSpec.ofChange canonReadsSpec)

/-- ITS FALSE NEIGHBOUR: 'it returns false'. Refute it at one input. -/
def canonReadsWrong : ChangeSpec := { name := "canonReads", fn := fun _ => fun
  | [d1, d2, d3] => { results := [.lit (.bool false)], args := [d1, d2, d3] }
  | _ => none }
def CanonReadsWrongFalsely : Prop := canonReadsRow.holds Try.pinned (OpenSpec.ofChange canonReadsWrong)

/-- 'portmanteaulaw14.CanonOf': WHATEVER THE INPUT: true; the input reads as it did. -/
def canonOfSpec : ChangeSpec := { name := "canonOf", fn := fun _ => fun
  | [d] => { results := [.lit (.bool true)], args := [d] }
  | _ => none }
def canonOfRow : OpenClaim := { program := "ytakbopikohghmaa", sum := "726027071005e91832bb11c88828fa3c5e9925d3366674f3d0882e4aba73ae16", func := "portmanteau/portmanteaulaw14.CanonOf", spec := "canonOf", unfollowed := true, recurses := true, apart := false }
def CanonOfSaid : Prop := canonOfRow.holds Try.pinned (OpenSpec.ofChange canonOfSpec)

/-- ITS FALSE NEIGHBOUR: 'it returns false'. Refute it at one input. -/
def canonOfWrong : ChangeSpec := { name := "canonOf", fn := fun _ => fun
  | [d] => { results := [.lit (.bool false)], args := [d] }
  | _ => none }
def CanonOfWrongFalsely : Prop := canonOfRow.holds Try.pinned (OpenSpec.ofChange canonOfWrong)

/-- 'portmanteaulaw14.CanonLongest': WHATEVER THE INPUT: true; the input reads as it did. -/
def canonLongestSpec : ChangeSpec := { name := "canonLongest", fn := fun _ => fun
  | [d] => { results := [.lit (.bool true)], args := [d] }
  | _ => none }
def canonLongestRow : OpenClaim := { program := "ytakbopikohghmaa", sum := "726027071005e91832bb11c88828fa3c5e9925d3366674f3d0882e4aba73ae16", func := "portmanteau/portmanteaulaw14.CanonLongest", spec := "canonLongest", unfollowed := true, recurses := true, apart := false }
def CanonLongestSaid : Prop := canonLongestRow.holds Try.pinned (OpenSpec.ofChange canonLongestSpec)

/-- ITS FALSE NEIGHBOUR: 'it returns false'. Refute it at one input. -/
def canonLongestWrong : ChangeSpec := { name := "canonLongest", fn := fun _ => fun
  | [d] => { results := [.lit (.bool false)], args := [d] }
  | _ => none }
def CanonLongestWrongFalsely : Prop := canonLongestRow.holds Try.pinned (OpenSpec.ofChange canonLongestWrong)

/-- 'portmanteaulaw14.CanonBegins': WHATEVER THE INPUT: true; the input reads as it did. -/
def canonBeginsSpec : ChangeSpec := { name := "canonBegins", fn := fun _ => fun
  | [d1, d2] => { results := [.lit (.bool true)], args := [d1, d2] }
  | _ => none }
def canonBeginsRow : OpenClaim := { program := "ytakbopikohghmaa", sum := "726027071005e91832bb11c88828fa3c5e9925d3366674f3d0882e4aba73ae16", func := "portmanteau/portmanteaulaw14.CanonBegins", spec := "canonBegins", unfollowed := true, recurses := true, apart := false }
def CanonBeginsSaid : Prop := canonBeginsRow.holds Try.pinned (OpenSpec.ofChange canonBeginsSpec)

/-- ITS FALSE NEIGHBOUR: 'it returns false'. Refute it at one input. -/
def canonBeginsWrong : ChangeSpec := { name := "canonBegins", fn := fun _ => fun
  | [d1, d2] => { results := [.lit (.bool false)], args := [d1, d2] }
  | _ => none }
def CanonBeginsWrongFalsely : Prop := canonBeginsRow.holds Try.pinned (OpenSpec.ofChange canonBeginsWrong)

/-- 'portmanteaulaw14.CanonRises': WHATEVER THE INPUT: true; the input reads as it did. -/
def canonRisesSpec : ChangeSpec := { name := "canonRises", fn := fun _ => fun
  | [d1, d2] => { results := [.lit (.bool true)], args := [d1, d2] }
  | _ => none }
def canonRisesRow : OpenClaim := { program := "ytakbopikohghmaa", sum := "726027071005e91832bb11c88828fa3c5e9925d3366674f3d0882e4aba73ae16", func := "portmanteau/portmanteaulaw14.CanonRises", spec := "canonRises", unfollowed := true, recurses := true, apart := false }
def CanonRisesSaid : Prop := canonRisesRow.holds Try.pinned (OpenSpec.ofChange canonRisesSpec)

/-- ITS FALSE NEIGHBOUR: 'it returns false'. Refute it at one input. -/
def canonRisesWrong : ChangeSpec := { name := "canonRises", fn := fun _ => fun
  | [d1, d2] => { results := [.lit (.bool false)], args := [d1, d2] }
  | _ => none }
def CanonRisesWrongFalsely : Prop := canonRisesRow.holds Try.pinned (OpenSpec.ofChange canonRisesWrong)

/-- 'portmanteaulaw14.CanonHolds': WHATEVER THE INPUT: true; the input reads as it did. -/
def canonHoldsSpec : ChangeSpec := { name := "canonHolds", fn := fun _ => fun
  | [d1, d2] => { results := [.lit (.bool true)], args := [d1, d2] }
  | _ => none }
def canonHoldsRow : OpenClaim := { program := "ytakbopikohghmaa", sum := "726027071005e91832bb11c88828fa3c5e9925d3366674f3d0882e4aba73ae16", func := "portmanteau/portmanteaulaw14.CanonHolds", spec := "canonHolds", unfollowed := true, recurses := true, apart := false }
def CanonHoldsSaid : Prop := canonHoldsRow.holds Try.pinned (OpenSpec.ofChange canonHoldsSpec)

/-- ITS FALSE NEIGHBOUR: 'it returns false'. Refute it at one input. -/
def canonHoldsWrong : ChangeSpec := { name := "canonHolds", fn := fun _ => fun
  | [d1, d2] => { results := [.lit (.bool false)], args := [d1, d2] }
  | _ => none }
def CanonHoldsWrongFalsely : Prop := canonHoldsRow.holds Try.pinned (OpenSpec.ofChange canonHoldsWrong)

/- THE SECOND FORM. 'bulk': how many values and letters a reading holds, each counted each time it is reached (what is shared counts as often as it is met; a slice's spare places count too). A statement '..UptoSaid' is the law's where the arguments, and the package variables that the reading takes, are together of bulk at most 1048576: NARROWER than '..Said'. Prove '..Said' where nothing that the law and all that it calls make is longer than what came in: it says more and counts as full. Else prove '..UptoSaid'. A law counts once. -/
mutual
def uptoBulk {H : Type} : DataW H → Nat
  | .lit (.string bytes) => bytes.length + 1
  | .lit _ => 1
  | .nil => 1
  | .ptr d => uptoBulk d + 1
  | .slice elems spare => uptoBulkAll elems + uptoBulkAll spare + 1
  | .agg parts => uptoBulkAll parts + 1
  | .iface _ d => uptoBulk d + 1
  | .map entries => uptoBulkEntries entries + 1
  | .held _ => 1
def uptoBulkAll {H : Type} : List (DataW H) → Nat
  | [] => 0
  | d :: r => uptoBulk d + uptoBulkAll r
def uptoBulkEntries {H : Type} : List (Lit × DataW H) → Nat
  | [] => 0
  | x :: r => uptoBulkEntry x + uptoBulkEntries r
def uptoBulkEntry {H : Type} : Lit × DataW H → Nat
  | (.string bytes, d) => bytes.length + uptoBulk d + 1
  | (_, d) => uptoBulk d + 1
 end
def uptoSmall : (H : Type) → List (DataW H) → Bool := fun _ ds => decide (uptoBulkAll ds ≤ 1048576)
def OpenSpec.upto (s : _root_.Go.ChangeSpec) : _root_.Go.OpenSpec := { _root_.Go.OpenSpec.ofChange s with cond := some uptoSmall }

/-- 'portmanteaulaw14.CanonMay', WHERE WHAT IT READS IS OF BULK AT MOST 1048576: true; the input reads as it did. -/
def canonMayUptoRow : OpenClaim := { program := "ytakbopikohghmaa", sum := "726027071005e91832bb11c88828fa3c5e9925d3366674f3d0882e4aba73ae16", func := "portmanteau/portmanteaulaw14.CanonMay", spec := "canonMay", unfollowed := true, recurses := true, apart := false, narrowed := true }
def CanonMayUptoSaid : Prop := canonMayUptoRow.holds Try.pinned (OpenSpec.upto canonMaySpec)

/-- 'portmanteaulaw14.CanonCodes', WHERE WHAT IT READS IS OF BULK AT MOST 1048576: true; the input reads as it did. -/
def canonCodesUptoRow : OpenClaim := { program := "ytakbopikohghmaa", sum := "726027071005e91832bb11c88828fa3c5e9925d3366674f3d0882e4aba73ae16", func := "portmanteau/portmanteaulaw14.CanonCodes", spec := "canonCodes", unfollowed := true, recurses := true, apart := false, narrowed := true }
def CanonCodesUptoSaid : Prop := canonCodesUptoRow.holds Try.pinned (OpenSpec.upto canonCodesSpec)

/-- 'portmanteaulaw14.CanonSymbols', WHERE WHAT IT READS IS OF BULK AT MOST 1048576: true; the input reads as it did. -/
def canonSymbolsUptoRow : OpenClaim := { program := "ytakbopikohghmaa", sum := "726027071005e91832bb11c88828fa3c5e9925d3366674f3d0882e4aba73ae16", func := "portmanteau/portmanteaulaw14.CanonSymbols", spec := "canonSymbols", unfollowed := true, recurses := true, apart := false, narrowed := true }
def CanonSymbolsUptoSaid : Prop := canonSymbolsUptoRow.holds Try.pinned (OpenSpec.upto canonSymbolsSpec)

/-- 'portmanteaulaw14.CanonReads', WHERE WHAT IT READS IS OF BULK AT MOST 1048576: true; the input reads as it did. -/
def canonReadsUptoRow : OpenClaim := { program := "ytakbopikohghmaa", sum := "726027071005e91832bb11c88828fa3c5e9925d3366674f3d0882e4aba73ae16", func := "portmanteau/portmanteaulaw14.CanonReads", spec := "canonReads", unfollowed := true, recurses := true, apart := false, narrowed := true }
def CanonReadsUptoSaid : Prop := canonReadsUptoRow.holds Try.pinned (OpenSpec.upto canonReadsSpec)

/-- 'portmanteaulaw14.CanonOf', WHERE WHAT IT READS IS OF BULK AT MOST 1048576: true; the input reads as it did. -/
def canonOfUptoRow : OpenClaim := { program := "ytakbopikohghmaa", sum := "726027071005e91832bb11c88828fa3c5e9925d3366674f3d0882e4aba73ae16", func := "portmanteau/portmanteaulaw14.CanonOf", spec := "canonOf", unfollowed := true, recurses := true, apart := false, narrowed := true }
def CanonOfUptoSaid : Prop := canonOfUptoRow.holds Try.pinned (OpenSpec.upto canonOfSpec)

/-- 'portmanteaulaw14.CanonLongest', WHERE WHAT IT READS IS OF BULK AT MOST 1048576: true; the input reads as it did. -/
def canonLongestUptoRow : OpenClaim := { program := "ytakbopikohghmaa", sum := "726027071005e91832bb11c88828fa3c5e9925d3366674f3d0882e4aba73ae16", func := "portmanteau/portmanteaulaw14.CanonLongest", spec := "canonLongest", unfollowed := true, recurses := true, apart := false, narrowed := true }
def CanonLongestUptoSaid : Prop := canonLongestUptoRow.holds Try.pinned (OpenSpec.upto canonLongestSpec)

/-- 'portmanteaulaw14.CanonBegins', WHERE WHAT IT READS IS OF BULK AT MOST 1048576: true; the input reads as it did. -/
def canonBeginsUptoRow : OpenClaim := { program := "ytakbopikohghmaa", sum := "726027071005e91832bb11c88828fa3c5e9925d3366674f3d0882e4aba73ae16", func := "portmanteau/portmanteaulaw14.CanonBegins", spec := "canonBegins", unfollowed := true, recurses := true, apart := false, narrowed := true }
def CanonBeginsUptoSaid : Prop := canonBeginsUptoRow.holds Try.pinned (OpenSpec.upto canonBeginsSpec)

/-- 'portmanteaulaw14.CanonRises', WHERE WHAT IT READS IS OF BULK AT MOST 1048576: true; the input reads as it did. -/
def canonRisesUptoRow : OpenClaim := { program := "ytakbopikohghmaa", sum := "726027071005e91832bb11c88828fa3c5e9925d3366674f3d0882e4aba73ae16", func := "portmanteau/portmanteaulaw14.CanonRises", spec := "canonRises", unfollowed := true, recurses := true, apart := false, narrowed := true }
def CanonRisesUptoSaid : Prop := canonRisesUptoRow.holds Try.pinned (OpenSpec.upto canonRisesSpec)

/-- 'portmanteaulaw14.CanonHolds', WHERE WHAT IT READS IS OF BULK AT MOST 1048576: true; the input reads as it did. -/
def canonHoldsUptoRow : OpenClaim := { program := "ytakbopikohghmaa", sum := "726027071005e91832bb11c88828fa3c5e9925d3366674f3d0882e4aba73ae16", func := "portmanteau/portmanteaulaw14.CanonHolds", spec := "canonHolds", unfollowed := true, recurses := true, apart := false, narrowed := true }
def CanonHoldsUptoSaid : Prop := canonHoldsUptoRow.holds Try.pinned (OpenSpec.upto canonHoldsSpec)

end Rows
end Go.Proofs.Ytakbopikohghmaa
