/-
  DERIVED. GIVEN WITH THE SEED: THE CARDS: each row of YtegllcjlngdijaaDoorRows.lean that lists a variable, with what it lists TIED to the program's text (the seventh form; the later family's looks); each row that meets fmt, with fmt's text TOLD by the authors' own Lean function (tested against real Go, not proved from fmt's source: count such statements apart). THE CARD IS WHAT COUNTS. Prove the row's statement (the work); the ties are given (YtegllcjlngdijaaDoorTie.lean); close each card by the builder's one call (the guide's Derived/Test/ToyasCard.lean, 'card_holds'). Laid BY PROGRAM, IN A SANDBOX (cutbox-door.mjs). By AI agents, Wed Nov 11 2026. No macro, syntax, notation, axiom, sorry.
-/
import Derived.Test.YtegllcjlngdijaaDoorRows
import GoSem.ClaimSeven
namespace Go.Proofs.YtegllcjlngdijaaDoor
namespace Rows

/-- THE TIED CARD OF 'laws.FnExactLines'. -/
def fnExactLinesCard : Claim7 := { stood := { row := fnExactLinesRow, standIns := [], harness := (true, "1d2d0aa9333b81a341349ba36a1090bcdaf41937595d381f2ae8b9b324372235"), looks := false }, kinds := [], alts := [], laidByText := true, laidKinds := [.data, .pinned], laidTests := true, laidLooks := .later }
def FnExactLinesCardSaid : Prop := Claim7.holds Tryd.pinned (.plain (OpenSpec.ofChange fnExactLinesSpec)) fnExactLinesCard

/-- THE TIED CARD OF 'laws.FnExactSplitBy'. -/
def fnExactSplitByCard : Claim7 := { stood := { row := fnExactSplitByRow, standIns := [], harness := (true, "1d2d0aa9333b81a341349ba36a1090bcdaf41937595d381f2ae8b9b324372235"), looks := false }, kinds := [], alts := [], laidByText := true, laidKinds := [.data, .pinned], laidTests := true, laidLooks := .later }
def FnExactSplitByCardSaid : Prop := Claim7.holds Tryd.pinned (.plain (OpenSpec.ofChange fnExactSplitBySpec)) fnExactSplitByCard

/-- THE TIED CARD OF 'laws.FnQuotients'. -/
def fnQuotientsCard : Claim7 := { stood := { row := fnQuotientsRow, standIns := [], harness := (true, "1d2d0aa9333b81a341349ba36a1090bcdaf41937595d381f2ae8b9b324372235"), looks := false }, kinds := [], alts := [], laidByText := true, laidKinds := [.data, .data, .data, .data, .pinned], laidTests := true, laidLooks := .later }
def FnQuotientsCardSaid : Prop := Claim7.holds Tryd.pinned (.plain (OpenSpec.ofChange fnQuotientsSpec)) fnQuotientsCard

/-- THE TIED CARD OF 'laws.FnRests'. -/
def fnRestsCard : Claim7 := { stood := { row := fnRestsRow, standIns := [], harness := (true, "1d2d0aa9333b81a341349ba36a1090bcdaf41937595d381f2ae8b9b324372235"), looks := false }, kinds := [], alts := [], laidByText := true, laidKinds := [.data, .data, .data, .data, .pinned], laidTests := true, laidLooks := .later }
def FnRestsCardSaid : Prop := Claim7.holds Tryd.pinned (.plain (OpenSpec.ofChange fnRestsSpec)) fnRestsCard

/-- THE SECOND FORM's CARD OF 'laws.FnExactLines'. -/
def fnExactLinesUptoCard : Claim7 := { stood := { row := fnExactLinesUptoRow, standIns := [], harness := (true, "1d2d0aa9333b81a341349ba36a1090bcdaf41937595d381f2ae8b9b324372235"), looks := false }, kinds := [], alts := [], laidByText := true, laidKinds := [.data, .pinned], laidTests := true, laidLooks := .later }
def FnExactLinesUptoCardSaid : Prop := Claim7.holds Tryd.pinned (.plain (OpenSpec.upto fnExactLinesSpec)) fnExactLinesUptoCard

/-- THE SECOND FORM's CARD OF 'laws.FnExactSplitBy'. -/
def fnExactSplitByUptoCard : Claim7 := { stood := { row := fnExactSplitByUptoRow, standIns := [], harness := (true, "1d2d0aa9333b81a341349ba36a1090bcdaf41937595d381f2ae8b9b324372235"), looks := false }, kinds := [], alts := [], laidByText := true, laidKinds := [.data, .pinned], laidTests := true, laidLooks := .later }
def FnExactSplitByUptoCardSaid : Prop := Claim7.holds Tryd.pinned (.plain (OpenSpec.upto fnExactSplitBySpec)) fnExactSplitByUptoCard

/-- THE SECOND FORM's CARD OF 'laws.FnQuotients'. -/
def fnQuotientsUptoCard : Claim7 := { stood := { row := fnQuotientsUptoRow, standIns := [], harness := (true, "1d2d0aa9333b81a341349ba36a1090bcdaf41937595d381f2ae8b9b324372235"), looks := false }, kinds := [], alts := [], laidByText := true, laidKinds := [.data, .data, .data, .data, .pinned], laidTests := true, laidLooks := .later }
def FnQuotientsUptoCardSaid : Prop := Claim7.holds Tryd.pinned (.plain (OpenSpec.upto fnQuotientsSpec)) fnQuotientsUptoCard

/-- THE SECOND FORM's CARD OF 'laws.FnRests'. -/
def fnRestsUptoCard : Claim7 := { stood := { row := fnRestsUptoRow, standIns := [], harness := (true, "1d2d0aa9333b81a341349ba36a1090bcdaf41937595d381f2ae8b9b324372235"), looks := false }, kinds := [], alts := [], laidByText := true, laidKinds := [.data, .data, .data, .data, .pinned], laidTests := true, laidLooks := .later }
def FnRestsUptoCardSaid : Prop := Claim7.holds Tryd.pinned (.plain (OpenSpec.upto fnRestsSpec)) fnRestsUptoCard
end Rows
end Go.Proofs.YtegllcjlngdijaaDoor
