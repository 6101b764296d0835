/-
  DERIVED. GIVEN WITH THE SEED: THE CARDS: each row of YtlemhidllcbadaaDoorRows.lean that lists a variable, with what it lists TIED to the program's text (the seventh form; the later family's looks); each row that meets fmt, with fmt's text TOLD by the authors' own Lean function (tested against real Go, not proved from fmt's source: count such statements apart). THE CARD IS WHAT COUNTS. Prove the row's statement (the work); the ties are given (YtlemhidllcbadaaDoorTie.lean); close each card by the builder's one call (the guide's Derived/Test/ToyasCard.lean, 'card_holds'). Laid BY PROGRAM, IN A SANDBOX (cutbox-door.mjs). By AI agents, Wed Nov 11 2026. No macro, syntax, notation, axiom, sorry.
-/
import Derived.Test.YtlemhidllcbadaaDoorRows
import GoSem.ClaimSeven
namespace Go.Proofs.YtlemhidllcbadaaDoor
namespace Rows

/-- THE TIED CARD OF 'laws.FnLines'. -/
def fnLinesCard : Claim7 := { stood := { row := fnLinesRow, standIns := [], harness := (true, "01dfd1ff2b90ceb0eb8ac3149cfa535b09a148b7ad58784e303a5e47498024e7"), looks := true }, kinds := [], alts := [], laidByText := true, laidKinds := [.data, .pinned], laidTests := true, laidLooks := .later }
def FnLinesCardSaid : Prop := Claim7.holds Tryd.pinned (.plain (OpenSpec.ofChange fnLinesSpec)) fnLinesCard

/-- THE TIED CARD OF 'laws.FnFields'. -/
def fnFieldsCard : Claim7 := { stood := { row := fnFieldsRow, standIns := [], harness := (true, "01dfd1ff2b90ceb0eb8ac3149cfa535b09a148b7ad58784e303a5e47498024e7"), looks := true }, kinds := [], alts := [], laidByText := true, laidKinds := [.data, .pinned], laidTests := true, laidLooks := .later }
def FnFieldsCardSaid : Prop := Claim7.holds Tryd.pinned (.plain (OpenSpec.ofChange fnFieldsSpec)) fnFieldsCard

/-- THE TIED CARD OF 'laws.FnExactDecText'. -/
def fnExactDecTextCard : Claim7 := { stood := { row := fnExactDecTextRow, standIns := [], harness := (true, "01dfd1ff2b90ceb0eb8ac3149cfa535b09a148b7ad58784e303a5e47498024e7"), looks := true }, kinds := [], alts := [], laidByText := true, laidKinds := [.data, .data, .data, .data, .pinned], laidTests := true, laidLooks := .later }
def FnExactDecTextCardSaid : Prop := Claim7.holds Tryd.pinned (.plain (OpenSpec.ofChange fnExactDecTextSpec)) fnExactDecTextCard

/-- THE TIED CARD OF 'laws.FnSplits'. -/
def fnSplitsCard : Claim7 := { stood := { row := fnSplitsRow, standIns := [], harness := (true, "01dfd1ff2b90ceb0eb8ac3149cfa535b09a148b7ad58784e303a5e47498024e7"), looks := true }, kinds := [], alts := [], laidByText := true, laidKinds := [.data, .pinned], laidTests := true, laidLooks := .later }
def FnSplitsCardSaid : Prop := Claim7.holds Tryd.pinned (.plain (OpenSpec.ofChange fnSplitsSpec)) fnSplitsCard

/-- THE TIED CARD OF 'laws.FnPutFields'. -/
def fnPutFieldsCard : Claim7 := { stood := { row := fnPutFieldsRow, standIns := [], harness := (true, "01dfd1ff2b90ceb0eb8ac3149cfa535b09a148b7ad58784e303a5e47498024e7"), looks := true }, kinds := [], alts := [], laidByText := true, laidKinds := [.data, .pinned], laidTests := true, laidLooks := .later }
def FnPutFieldsCardSaid : Prop := Claim7.holds Tryd.pinned (.plain (OpenSpec.ofChange fnPutFieldsSpec)) fnPutFieldsCard

/-- THE TIED CARD OF 'laws.FnExactTokText'. -/
def fnExactTokTextCard : Claim7 := { stood := { row := fnExactTokTextRow, standIns := [], harness := (true, "01dfd1ff2b90ceb0eb8ac3149cfa535b09a148b7ad58784e303a5e47498024e7"), looks := true }, kinds := [], alts := [], laidByText := true, laidKinds := [.data, .data, .data, .data, .pinned], laidTests := true, laidLooks := .later }
def FnExactTokTextCardSaid : Prop := Claim7.holds Tryd.pinned (.plain (OpenSpec.ofChange fnExactTokTextSpec)) fnExactTokTextCard

/-- THE TIED CARD OF 'laws.FnExactPlaces'. -/
def fnExactPlacesCard : Claim7 := { stood := { row := fnExactPlacesRow, standIns := [], harness := (true, "01dfd1ff2b90ceb0eb8ac3149cfa535b09a148b7ad58784e303a5e47498024e7"), looks := true }, kinds := [], alts := [], laidByText := true, laidKinds := [.data, .data, .data, .sentinel, .sentinel], laidTests := true, laidLooks := .later }
def FnExactPlacesCardSaid : Prop := Claim7.holds Tryd.pinned (.plain (OpenSpec.ofChange fnExactPlacesSpec)) fnExactPlacesCard

/-- THE TIED CARD OF 'laws.FnExactPlaceKinds'. -/
def fnExactPlaceKindsCard : Claim7 := { stood := { row := fnExactPlaceKindsRow, standIns := [], harness := (true, "01dfd1ff2b90ceb0eb8ac3149cfa535b09a148b7ad58784e303a5e47498024e7"), looks := true }, kinds := [], alts := [], laidByText := true, laidKinds := [.data, .data, .data, .sentinel, .sentinel], laidTests := true, laidLooks := .later }
def FnExactPlaceKindsCardSaid : Prop := Claim7.holds Tryd.pinned (.plain (OpenSpec.ofChange fnExactPlaceKindsSpec)) fnExactPlaceKindsCard

/-- THE TIED CARD OF 'laws.FnDecTexts'. -/
def fnDecTextsCard : Claim7 := { stood := { row := fnDecTextsRow, standIns := [], harness := (true, "01dfd1ff2b90ceb0eb8ac3149cfa535b09a148b7ad58784e303a5e47498024e7"), looks := true }, kinds := [], alts := [], laidByText := true, laidKinds := [.data, .data, .data, .data, .pinned], laidTests := true, laidLooks := .later }
def FnDecTextsCardSaid : Prop := Claim7.holds Tryd.pinned (.plain (OpenSpec.ofChange fnDecTextsSpec)) fnDecTextsCard

/-- THE TIED CARD OF 'laws.FnExactToStr'. -/
def fnExactToStrCard : Claim7 := { stood := { row := fnExactToStrRow, standIns := [], harness := (true, "01dfd1ff2b90ceb0eb8ac3149cfa535b09a148b7ad58784e303a5e47498024e7"), looks := true }, kinds := [], alts := [], laidByText := true, laidKinds := [.data, .data, .data, .data, .pinned], laidTests := true, laidLooks := .later }
def FnExactToStrCardSaid : Prop := Claim7.holds Tryd.pinned (.plain (OpenSpec.ofChange fnExactToStrSpec)) fnExactToStrCard

/-- THE SECOND FORM's CARD OF 'laws.FnLines'. -/
def fnLinesUptoCard : Claim7 := { stood := { row := fnLinesUptoRow, standIns := [], harness := (true, "01dfd1ff2b90ceb0eb8ac3149cfa535b09a148b7ad58784e303a5e47498024e7"), looks := true }, kinds := [], alts := [], laidByText := true, laidKinds := [.data, .pinned], laidTests := true, laidLooks := .later }
def FnLinesUptoCardSaid : Prop := Claim7.holds Tryd.pinned (.plain (OpenSpec.upto fnLinesSpec)) fnLinesUptoCard

/-- THE SECOND FORM's CARD OF 'laws.FnFields'. -/
def fnFieldsUptoCard : Claim7 := { stood := { row := fnFieldsUptoRow, standIns := [], harness := (true, "01dfd1ff2b90ceb0eb8ac3149cfa535b09a148b7ad58784e303a5e47498024e7"), looks := true }, kinds := [], alts := [], laidByText := true, laidKinds := [.data, .pinned], laidTests := true, laidLooks := .later }
def FnFieldsUptoCardSaid : Prop := Claim7.holds Tryd.pinned (.plain (OpenSpec.upto fnFieldsSpec)) fnFieldsUptoCard

/-- THE SECOND FORM's CARD OF 'laws.FnExactDecText'. -/
def fnExactDecTextUptoCard : Claim7 := { stood := { row := fnExactDecTextUptoRow, standIns := [], harness := (true, "01dfd1ff2b90ceb0eb8ac3149cfa535b09a148b7ad58784e303a5e47498024e7"), looks := true }, kinds := [], alts := [], laidByText := true, laidKinds := [.data, .data, .data, .data, .pinned], laidTests := true, laidLooks := .later }
def FnExactDecTextUptoCardSaid : Prop := Claim7.holds Tryd.pinned (.plain (OpenSpec.upto fnExactDecTextSpec)) fnExactDecTextUptoCard

/-- THE SECOND FORM's CARD OF 'laws.FnSplits'. -/
def fnSplitsUptoCard : Claim7 := { stood := { row := fnSplitsUptoRow, standIns := [], harness := (true, "01dfd1ff2b90ceb0eb8ac3149cfa535b09a148b7ad58784e303a5e47498024e7"), looks := true }, kinds := [], alts := [], laidByText := true, laidKinds := [.data, .pinned], laidTests := true, laidLooks := .later }
def FnSplitsUptoCardSaid : Prop := Claim7.holds Tryd.pinned (.plain (OpenSpec.upto fnSplitsSpec)) fnSplitsUptoCard

/-- THE SECOND FORM's CARD OF 'laws.FnPutFields'. -/
def fnPutFieldsUptoCard : Claim7 := { stood := { row := fnPutFieldsUptoRow, standIns := [], harness := (true, "01dfd1ff2b90ceb0eb8ac3149cfa535b09a148b7ad58784e303a5e47498024e7"), looks := true }, kinds := [], alts := [], laidByText := true, laidKinds := [.data, .pinned], laidTests := true, laidLooks := .later }
def FnPutFieldsUptoCardSaid : Prop := Claim7.holds Tryd.pinned (.plain (OpenSpec.upto fnPutFieldsSpec)) fnPutFieldsUptoCard

/-- THE SECOND FORM's CARD OF 'laws.FnExactTokText'. -/
def fnExactTokTextUptoCard : Claim7 := { stood := { row := fnExactTokTextUptoRow, standIns := [], harness := (true, "01dfd1ff2b90ceb0eb8ac3149cfa535b09a148b7ad58784e303a5e47498024e7"), looks := true }, kinds := [], alts := [], laidByText := true, laidKinds := [.data, .data, .data, .data, .pinned], laidTests := true, laidLooks := .later }
def FnExactTokTextUptoCardSaid : Prop := Claim7.holds Tryd.pinned (.plain (OpenSpec.upto fnExactTokTextSpec)) fnExactTokTextUptoCard

/-- THE SECOND FORM's CARD OF 'laws.FnExactPlaces'. -/
def fnExactPlacesUptoCard : Claim7 := { stood := { row := fnExactPlacesUptoRow, standIns := [], harness := (true, "01dfd1ff2b90ceb0eb8ac3149cfa535b09a148b7ad58784e303a5e47498024e7"), looks := true }, kinds := [], alts := [], laidByText := true, laidKinds := [.data, .data, .data, .sentinel, .sentinel], laidTests := true, laidLooks := .later }
def FnExactPlacesUptoCardSaid : Prop := Claim7.holds Tryd.pinned (.plain (OpenSpec.upto fnExactPlacesSpec)) fnExactPlacesUptoCard

/-- THE SECOND FORM's CARD OF 'laws.FnExactPlaceKinds'. -/
def fnExactPlaceKindsUptoCard : Claim7 := { stood := { row := fnExactPlaceKindsUptoRow, standIns := [], harness := (true, "01dfd1ff2b90ceb0eb8ac3149cfa535b09a148b7ad58784e303a5e47498024e7"), looks := true }, kinds := [], alts := [], laidByText := true, laidKinds := [.data, .data, .data, .sentinel, .sentinel], laidTests := true, laidLooks := .later }
def FnExactPlaceKindsUptoCardSaid : Prop := Claim7.holds Tryd.pinned (.plain (OpenSpec.upto fnExactPlaceKindsSpec)) fnExactPlaceKindsUptoCard

/-- THE SECOND FORM's CARD OF 'laws.FnDecTexts'. -/
def fnDecTextsUptoCard : Claim7 := { stood := { row := fnDecTextsUptoRow, standIns := [], harness := (true, "01dfd1ff2b90ceb0eb8ac3149cfa535b09a148b7ad58784e303a5e47498024e7"), looks := true }, kinds := [], alts := [], laidByText := true, laidKinds := [.data, .data, .data, .data, .pinned], laidTests := true, laidLooks := .later }
def FnDecTextsUptoCardSaid : Prop := Claim7.holds Tryd.pinned (.plain (OpenSpec.upto fnDecTextsSpec)) fnDecTextsUptoCard

/-- THE SECOND FORM's CARD OF 'laws.FnExactToStr'. -/
def fnExactToStrUptoCard : Claim7 := { stood := { row := fnExactToStrUptoRow, standIns := [], harness := (true, "01dfd1ff2b90ceb0eb8ac3149cfa535b09a148b7ad58784e303a5e47498024e7"), looks := true }, kinds := [], alts := [], laidByText := true, laidKinds := [.data, .data, .data, .data, .pinned], laidTests := true, laidLooks := .later }
def FnExactToStrUptoCardSaid : Prop := Claim7.holds Tryd.pinned (.plain (OpenSpec.upto fnExactToStrSpec)) fnExactToStrUptoCard
end Rows
end Go.Proofs.YtlemhidllcbadaaDoor
