/-
  DERIVED. GIVEN WITH THE SEED: THE CARDS: each row of YtbjjhfoeckkacaaGreatDoorRows.lean that lists a variable, with what it lists TIED to the program's text (the seventh form; the later family's looks); each row that meets fmt, with fmt's text TOLD by the authors' own Lean function (tested against real Go, not proved from fmt's source: count such statements apart). THE CARD IS WHAT COUNTS. Prove the row's statement (the work); the ties are given (YtbjjhfoeckkacaaGreatDoorTie.lean); close each card by the builder's one call (the guide's Derived/Test/ToyasCard.lean, 'card_holds'). Laid BY PROGRAM, IN A SANDBOX (cutbox-door.mjs). By AI agents, Wed Nov 11 2026. No macro, syntax, notation, axiom, sorry.
-/
import Derived.Test.YtbjjhfoeckkacaaGreatDoorRows
import GoSem.ClaimSeven
namespace Go.Proofs.YtbjjhfoeckkacaaGreatDoor
namespace Rows

/-- THE TIED CARD OF 'portmanteaulaw44.ShowHolds'. -/
def showHoldsCard : Claim7 := { stood := { row := showHoldsRow, standIns := [], harness := (true, "2338f9c10ee7659ddd476f916a0644acfdfd370ab666ebb34e0e4601f9066b6c"), looks := true }, kinds := [], alts := [], laidByText := true, laidKinds := [.data, .data, .data], laidTests := true, laidLooks := .later }
def ShowHoldsCardSaid : Prop := Claim7.holds Tryz.pinned (.plain (OpenSpec.ofChange showHoldsSpec)) showHoldsCard

/-- THE SECOND FORM's CARD OF 'portmanteaulaw44.ShowHolds'. -/
def showHoldsUptoCard : Claim7 := { stood := { row := showHoldsUptoRow, standIns := [], harness := (true, "2338f9c10ee7659ddd476f916a0644acfdfd370ab666ebb34e0e4601f9066b6c"), looks := true }, kinds := [], alts := [], laidByText := true, laidKinds := [.data, .data, .data], laidTests := true, laidLooks := .later }
def ShowHoldsUptoCardSaid : Prop := Claim7.holds Tryz.pinned (.plain (OpenSpec.upto showHoldsSpec)) showHoldsUptoCard
end Rows
end Go.Proofs.YtbjjhfoeckkacaaGreatDoor
