/-
  DERIVED. GIVEN WITH THE SEED: THE CARDS: each row of YtbjjhfoeckkacaaDoorRows.lean that lists a variable, with what it lists TIED to the program's text (the seventh form; the later family's looks); each row that meets fmt, with fmt's text TOLD by the authors' own Lean function (tested against real Go, not proved from fmt's source: count such statements apart). THE CARD IS WHAT COUNTS. Prove the row's statement (the work); the ties are given (YtbjjhfoeckkacaaDoorTie.lean); close each card by the builder's one call (the guide's Derived/Test/ToyasCard.lean, 'card_holds'). Laid BY PROGRAM, IN A SANDBOX (cutbox-door.mjs). By AI agents, Wed Nov 11 2026. No macro, syntax, notation, axiom, sorry.
-/
import Derived.Test.YtbjjhfoeckkacaaDoorRows
import GoSem.ClaimSeven
namespace Go.Proofs.YtbjjhfoeckkacaaDoor
namespace Rows

/-- THE TIED CARD OF 'portmanteaulaw44.ShowCounts'. -/
def showCountsCard : Claim7 := { stood := { row := showCountsRow, standIns := [], harness := (true, "eab67fd93cb144f0135f700b6a3900e6eb98066c1ddd81f401720b91c8b95018"), looks := true }, kinds := [], alts := [], laidByText := true, laidKinds := [.data, .data, .data], laidTests := true, laidLooks := .later }
def ShowCountsCardSaid : Prop := Claim7.holds Tryd.pinned (.plain (OpenSpec.ofChange showCountsSpec)) showCountsCard

/-- THE TIED CARD OF 'portmanteaulaw44.ShowTexts'. -/
def showTextsCard : Claim7 := { stood := { row := showTextsRow, standIns := [], harness := (true, "eab67fd93cb144f0135f700b6a3900e6eb98066c1ddd81f401720b91c8b95018"), looks := true }, kinds := [], alts := [], laidByText := true, laidKinds := [.data, .data, .data], laidTests := true, laidLooks := .later }
def ShowTextsCardSaid : Prop := Claim7.holds Tryd.pinned (.plain (OpenSpec.ofChange showTextsSpec)) showTextsCard

/-- THE TIED CARD OF 'portmanteaulaw44.ShowLines'. -/
def showLinesCard : Claim7 := { stood := { row := showLinesRow, standIns := [], harness := (true, "eab67fd93cb144f0135f700b6a3900e6eb98066c1ddd81f401720b91c8b95018"), looks := true }, kinds := [], alts := [], laidByText := true, laidKinds := [.data, .data, .data], laidTests := true, laidLooks := .later }
def ShowLinesCardSaid : Prop := Claim7.holds Tryd.pinned (.plain (OpenSpec.ofChange showLinesSpec)) showLinesCard

/-- THE TIED CARD OF 'portmanteaulaw44.ShowJoins'. -/
def showJoinsCard : Claim7 := { stood := { row := showJoinsRow, standIns := [], harness := (true, "eab67fd93cb144f0135f700b6a3900e6eb98066c1ddd81f401720b91c8b95018"), looks := true }, kinds := [], alts := [], laidByText := true, laidKinds := [.data, .data, .data], laidTests := true, laidLooks := .later }
def ShowJoinsCardSaid : Prop := Claim7.holds Tryd.pinned (.plain (OpenSpec.ofChange showJoinsSpec)) showJoinsCard

/-- THE TIED CARD OF 'portmanteaulaw44.ShowCuts'. -/
def showCutsCard : Claim7 := { stood := { row := showCutsRow, standIns := [], harness := (true, "eab67fd93cb144f0135f700b6a3900e6eb98066c1ddd81f401720b91c8b95018"), looks := true }, kinds := [], alts := [], laidByText := true, laidKinds := [.data, .data, .data], laidTests := true, laidLooks := .later }
def ShowCutsCardSaid : Prop := Claim7.holds Tryd.pinned (.plain (OpenSpec.ofChange showCutsSpec)) showCutsCard

/-- THE TIED CARD OF 'portmanteaulaw44.ShowReads'. -/
def showReadsCard : Claim7 := { stood := { row := showReadsRow, standIns := [], harness := (true, "eab67fd93cb144f0135f700b6a3900e6eb98066c1ddd81f401720b91c8b95018"), looks := true }, kinds := [], alts := [], laidByText := true, laidKinds := [.data, .data, .data], laidTests := true, laidLooks := .later }
def ShowReadsCardSaid : Prop := Claim7.holds Tryd.pinned (.plain (OpenSpec.ofChange showReadsSpec)) showReadsCard

/-- THE TIED CARD OF 'portmanteaulaw44.ShowEach'. -/
def showEachCard : Claim7 := { stood := { row := showEachRow, standIns := [], harness := (true, "eab67fd93cb144f0135f700b6a3900e6eb98066c1ddd81f401720b91c8b95018"), looks := true }, kinds := [], alts := [], laidByText := true, laidKinds := [.data, .data, .data], laidTests := true, laidLooks := .later }
def ShowEachCardSaid : Prop := Claim7.holds Tryd.pinned (.plain (OpenSpec.ofChange showEachSpec)) showEachCard

/-- THE SECOND FORM's CARD OF 'portmanteaulaw44.ShowCounts'. -/
def showCountsUptoCard : Claim7 := { stood := { row := showCountsUptoRow, standIns := [], harness := (true, "eab67fd93cb144f0135f700b6a3900e6eb98066c1ddd81f401720b91c8b95018"), looks := true }, kinds := [], alts := [], laidByText := true, laidKinds := [.data, .data, .data], laidTests := true, laidLooks := .later }
def ShowCountsUptoCardSaid : Prop := Claim7.holds Tryd.pinned (.plain (OpenSpec.upto showCountsSpec)) showCountsUptoCard

/-- THE SECOND FORM's CARD OF 'portmanteaulaw44.ShowTexts'. -/
def showTextsUptoCard : Claim7 := { stood := { row := showTextsUptoRow, standIns := [], harness := (true, "eab67fd93cb144f0135f700b6a3900e6eb98066c1ddd81f401720b91c8b95018"), looks := true }, kinds := [], alts := [], laidByText := true, laidKinds := [.data, .data, .data], laidTests := true, laidLooks := .later }
def ShowTextsUptoCardSaid : Prop := Claim7.holds Tryd.pinned (.plain (OpenSpec.upto showTextsSpec)) showTextsUptoCard

/-- THE SECOND FORM's CARD OF 'portmanteaulaw44.ShowLines'. -/
def showLinesUptoCard : Claim7 := { stood := { row := showLinesUptoRow, standIns := [], harness := (true, "eab67fd93cb144f0135f700b6a3900e6eb98066c1ddd81f401720b91c8b95018"), looks := true }, kinds := [], alts := [], laidByText := true, laidKinds := [.data, .data, .data], laidTests := true, laidLooks := .later }
def ShowLinesUptoCardSaid : Prop := Claim7.holds Tryd.pinned (.plain (OpenSpec.upto showLinesSpec)) showLinesUptoCard

/-- THE SECOND FORM's CARD OF 'portmanteaulaw44.ShowJoins'. -/
def showJoinsUptoCard : Claim7 := { stood := { row := showJoinsUptoRow, standIns := [], harness := (true, "eab67fd93cb144f0135f700b6a3900e6eb98066c1ddd81f401720b91c8b95018"), looks := true }, kinds := [], alts := [], laidByText := true, laidKinds := [.data, .data, .data], laidTests := true, laidLooks := .later }
def ShowJoinsUptoCardSaid : Prop := Claim7.holds Tryd.pinned (.plain (OpenSpec.upto showJoinsSpec)) showJoinsUptoCard

/-- THE SECOND FORM's CARD OF 'portmanteaulaw44.ShowCuts'. -/
def showCutsUptoCard : Claim7 := { stood := { row := showCutsUptoRow, standIns := [], harness := (true, "eab67fd93cb144f0135f700b6a3900e6eb98066c1ddd81f401720b91c8b95018"), looks := true }, kinds := [], alts := [], laidByText := true, laidKinds := [.data, .data, .data], laidTests := true, laidLooks := .later }
def ShowCutsUptoCardSaid : Prop := Claim7.holds Tryd.pinned (.plain (OpenSpec.upto showCutsSpec)) showCutsUptoCard

/-- THE SECOND FORM's CARD OF 'portmanteaulaw44.ShowReads'. -/
def showReadsUptoCard : Claim7 := { stood := { row := showReadsUptoRow, standIns := [], harness := (true, "eab67fd93cb144f0135f700b6a3900e6eb98066c1ddd81f401720b91c8b95018"), looks := true }, kinds := [], alts := [], laidByText := true, laidKinds := [.data, .data, .data], laidTests := true, laidLooks := .later }
def ShowReadsUptoCardSaid : Prop := Claim7.holds Tryd.pinned (.plain (OpenSpec.upto showReadsSpec)) showReadsUptoCard

/-- THE SECOND FORM's CARD OF 'portmanteaulaw44.ShowEach'. -/
def showEachUptoCard : Claim7 := { stood := { row := showEachUptoRow, standIns := [], harness := (true, "eab67fd93cb144f0135f700b6a3900e6eb98066c1ddd81f401720b91c8b95018"), looks := true }, kinds := [], alts := [], laidByText := true, laidKinds := [.data, .data, .data], laidTests := true, laidLooks := .later }
def ShowEachUptoCardSaid : Prop := Claim7.holds Tryd.pinned (.plain (OpenSpec.upto showEachSpec)) showEachUptoCard
end Rows
end Go.Proofs.YtbjjhfoeckkacaaDoor
