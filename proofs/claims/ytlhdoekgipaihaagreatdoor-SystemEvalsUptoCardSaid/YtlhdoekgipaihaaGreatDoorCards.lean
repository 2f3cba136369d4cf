/-
  DERIVED. GIVEN WITH THE SEED: THE CARDS: each row of YtlhdoekgipaihaaGreatDoorRows.lean that lists a variable, with what it lists TIED to the program's text (the seventh form; the later family's looks); each row that meets fmt, with fmt's text TOLD by the authors' own Lean function (tested against real Go, not proved from fmt's source: count such statements apart). THE CARD IS WHAT COUNTS. Prove the row's statement (the work); the ties are given (YtlhdoekgipaihaaGreatDoorTie.lean); close each card by the builder's one call (the guide's Derived/Test/ToyasCard.lean, 'card_holds'). Laid BY PROGRAM, IN A SANDBOX (cutbox-door.mjs). By AI agents, Wed Nov 11 2026. No macro, syntax, notation, axiom, sorry.
-/
import Derived.Test.YtlhdoekgipaihaaGreatDoorRows
import GoSem.ClaimSeven
namespace Go.Proofs.YtlhdoekgipaihaaGreatDoor
namespace Rows

/-- THE TIED CARD OF 'linkworklaw13.MatchGraphs'. -/
def matchGraphsCard : Claim7 := { stood := { row := matchGraphsRow, standIns := [], harness := (true, "547b689b05288f25178746313839f50a87a7eb06e86fe023458b94c61763477b"), looks := false }, kinds := [], alts := [], laidByText := true, laidKinds := [.data, .pinned], laidTests := true, laidLooks := .later }
def MatchGraphsCardSaid : Prop := Claim7.holds Tryz.pinned (.plain (OpenSpec.ofChange matchGraphsSpec)) matchGraphsCard

/-- THE TIED CARD OF 'linkworklaw13.MatchTops'. -/
def matchTopsCard : Claim7 := { stood := { row := matchTopsRow, standIns := [], harness := (true, "547b689b05288f25178746313839f50a87a7eb06e86fe023458b94c61763477b"), looks := false }, kinds := [], alts := [], laidByText := true, laidKinds := [.data, .pinned], laidTests := true, laidLooks := .later }
def MatchTopsCardSaid : Prop := Claim7.holds Tryz.pinned (.plain (OpenSpec.ofChange matchTopsSpec)) matchTopsCard

/-- THE TIED CARD OF 'linkworklaw03.RowsRow'. -/
def rowsRowCard : Claim7 := { stood := { row := rowsRowRow, standIns := [], harness := (true, "547b689b05288f25178746313839f50a87a7eb06e86fe023458b94c61763477b"), looks := false }, kinds := [], alts := [], laidByText := true, laidKinds := [.data, .pinned], laidTests := true, laidLooks := .later }
def RowsRowCardSaid : Prop := Claim7.holds Tryz.pinned (.plain (OpenSpec.ofChange rowsRowSpec)) rowsRowCard

/-- THE TIED CARD OF 'linkworklaw03.RowsRules'. -/
def rowsRulesCard : Claim7 := { stood := { row := rowsRulesRow, standIns := [], harness := (true, "547b689b05288f25178746313839f50a87a7eb06e86fe023458b94c61763477b"), looks := false }, kinds := [], alts := [], laidByText := true, laidKinds := [.data, .pinned], laidTests := true, laidLooks := .later }
def RowsRulesCardSaid : Prop := Claim7.holds Tryz.pinned (.plain (OpenSpec.ofChange rowsRulesSpec)) rowsRulesCard

/-- THE TIED CARD OF 'linkworklaw03.RowsSums'. -/
def rowsSumsCard : Claim7 := { stood := { row := rowsSumsRow, standIns := [], harness := (true, "547b689b05288f25178746313839f50a87a7eb06e86fe023458b94c61763477b"), looks := false }, kinds := [], alts := [], laidByText := true, laidKinds := [.data, .pinned], laidTests := true, laidLooks := .later }
def RowsSumsCardSaid : Prop := Claim7.holds Tryz.pinned (.plain (OpenSpec.ofChange rowsSumsSpec)) rowsSumsCard

/-- THE TIED CARD OF 'linkworklaw02.SystemChecks'. -/
def systemChecksCard : Claim7 := { stood := { row := systemChecksRow, standIns := [], harness := (true, "547b689b05288f25178746313839f50a87a7eb06e86fe023458b94c61763477b"), looks := false }, kinds := [], alts := [], laidByText := true, laidKinds := [.data, .pinned], laidTests := true, laidLooks := .later }
def SystemChecksCardSaid : Prop := Claim7.holds Tryz.pinned (.plain (OpenSpec.ofChange systemChecksSpec)) systemChecksCard

/-- THE TIED CARD OF 'linkworklaw02.SystemEvals'. -/
def systemEvalsCard : Claim7 := { stood := { row := systemEvalsRow, standIns := [], harness := (true, "547b689b05288f25178746313839f50a87a7eb06e86fe023458b94c61763477b"), looks := false }, kinds := [], alts := [], laidByText := true, laidKinds := [.data, .pinned], laidTests := true, laidLooks := .later }
def SystemEvalsCardSaid : Prop := Claim7.holds Tryz.pinned (.plain (OpenSpec.ofChange systemEvalsSpec)) systemEvalsCard

/-- THE TIED CARD OF 'linkworklaw02.SystemTexts'. -/
def systemTextsCard : Claim7 := { stood := { row := systemTextsRow, standIns := [], harness := (true, "547b689b05288f25178746313839f50a87a7eb06e86fe023458b94c61763477b"), looks := false }, kinds := [], alts := [], laidByText := true, laidKinds := [.data, .pinned], laidTests := true, laidLooks := .later }
def SystemTextsCardSaid : Prop := Claim7.holds Tryz.pinned (.plain (OpenSpec.ofChange systemTextsSpec)) systemTextsCard

/-- THE TIED CARD OF 'linkworklaw02.SystemShort'. -/
def systemShortCard : Claim7 := { stood := { row := systemShortRow, standIns := [], harness := (true, "547b689b05288f25178746313839f50a87a7eb06e86fe023458b94c61763477b"), looks := false }, kinds := [], alts := [], laidByText := true, laidKinds := [.data, .pinned], laidTests := true, laidLooks := .later }
def SystemShortCardSaid : Prop := Claim7.holds Tryz.pinned (.plain (OpenSpec.ofChange systemShortSpec)) systemShortCard

/-- THE TIED CARD OF 'linkworklaw02.SystemTyped'. -/
def systemTypedCard : Claim7 := { stood := { row := systemTypedRow, standIns := [], harness := (true, "547b689b05288f25178746313839f50a87a7eb06e86fe023458b94c61763477b"), looks := false }, kinds := [], alts := [], laidByText := true, laidKinds := [.data, .pinned], laidTests := true, laidLooks := .later }
def SystemTypedCardSaid : Prop := Claim7.holds Tryz.pinned (.plain (OpenSpec.ofChange systemTypedSpec)) systemTypedCard

/-- THE TIED CARD OF 'linkworklaw03.RowsPuts'. -/
def rowsPutsCard : Claim7 := { stood := { row := rowsPutsRow, standIns := [], harness := (true, "547b689b05288f25178746313839f50a87a7eb06e86fe023458b94c61763477b"), looks := false }, kinds := [], alts := [], laidByText := true, laidKinds := [.data, .pinned], laidTests := true, laidLooks := .later }
def RowsPutsCardSaid : Prop := Claim7.holds Tryz.pinned (.plain (OpenSpec.ofChange rowsPutsSpec)) rowsPutsCard

/-- THE TIED CARD OF 'linkworklaw03.RowsMany'. -/
def rowsManyCard : Claim7 := { stood := { row := rowsManyRow, standIns := [], harness := (true, "547b689b05288f25178746313839f50a87a7eb06e86fe023458b94c61763477b"), looks := false }, kinds := [], alts := [], laidByText := true, laidKinds := [.data, .pinned], laidTests := true, laidLooks := .later }
def RowsManyCardSaid : Prop := Claim7.holds Tryz.pinned (.plain (OpenSpec.ofChange rowsManySpec)) rowsManyCard

/-- THE SECOND FORM's CARD OF 'linkworklaw13.MatchGraphs'. -/
def matchGraphsUptoCard : Claim7 := { stood := { row := matchGraphsUptoRow, standIns := [], harness := (true, "547b689b05288f25178746313839f50a87a7eb06e86fe023458b94c61763477b"), looks := false }, kinds := [], alts := [], laidByText := true, laidKinds := [.data, .pinned], laidTests := true, laidLooks := .later }
def MatchGraphsUptoCardSaid : Prop := Claim7.holds Tryz.pinned (.plain (OpenSpec.upto matchGraphsSpec)) matchGraphsUptoCard

/-- THE SECOND FORM's CARD OF 'linkworklaw13.MatchTops'. -/
def matchTopsUptoCard : Claim7 := { stood := { row := matchTopsUptoRow, standIns := [], harness := (true, "547b689b05288f25178746313839f50a87a7eb06e86fe023458b94c61763477b"), looks := false }, kinds := [], alts := [], laidByText := true, laidKinds := [.data, .pinned], laidTests := true, laidLooks := .later }
def MatchTopsUptoCardSaid : Prop := Claim7.holds Tryz.pinned (.plain (OpenSpec.upto matchTopsSpec)) matchTopsUptoCard

/-- THE SECOND FORM's CARD OF 'linkworklaw03.RowsRow'. -/
def rowsRowUptoCard : Claim7 := { stood := { row := rowsRowUptoRow, standIns := [], harness := (true, "547b689b05288f25178746313839f50a87a7eb06e86fe023458b94c61763477b"), looks := false }, kinds := [], alts := [], laidByText := true, laidKinds := [.data, .pinned], laidTests := true, laidLooks := .later }
def RowsRowUptoCardSaid : Prop := Claim7.holds Tryz.pinned (.plain (OpenSpec.upto rowsRowSpec)) rowsRowUptoCard

/-- THE SECOND FORM's CARD OF 'linkworklaw03.RowsRules'. -/
def rowsRulesUptoCard : Claim7 := { stood := { row := rowsRulesUptoRow, standIns := [], harness := (true, "547b689b05288f25178746313839f50a87a7eb06e86fe023458b94c61763477b"), looks := false }, kinds := [], alts := [], laidByText := true, laidKinds := [.data, .pinned], laidTests := true, laidLooks := .later }
def RowsRulesUptoCardSaid : Prop := Claim7.holds Tryz.pinned (.plain (OpenSpec.upto rowsRulesSpec)) rowsRulesUptoCard

/-- THE SECOND FORM's CARD OF 'linkworklaw03.RowsSums'. -/
def rowsSumsUptoCard : Claim7 := { stood := { row := rowsSumsUptoRow, standIns := [], harness := (true, "547b689b05288f25178746313839f50a87a7eb06e86fe023458b94c61763477b"), looks := false }, kinds := [], alts := [], laidByText := true, laidKinds := [.data, .pinned], laidTests := true, laidLooks := .later }
def RowsSumsUptoCardSaid : Prop := Claim7.holds Tryz.pinned (.plain (OpenSpec.upto rowsSumsSpec)) rowsSumsUptoCard

/-- THE SECOND FORM's CARD OF 'linkworklaw02.SystemChecks'. -/
def systemChecksUptoCard : Claim7 := { stood := { row := systemChecksUptoRow, standIns := [], harness := (true, "547b689b05288f25178746313839f50a87a7eb06e86fe023458b94c61763477b"), looks := false }, kinds := [], alts := [], laidByText := true, laidKinds := [.data, .pinned], laidTests := true, laidLooks := .later }
def SystemChecksUptoCardSaid : Prop := Claim7.holds Tryz.pinned (.plain (OpenSpec.upto systemChecksSpec)) systemChecksUptoCard

/-- THE SECOND FORM's CARD OF 'linkworklaw02.SystemEvals'. -/
def systemEvalsUptoCard : Claim7 := { stood := { row := systemEvalsUptoRow, standIns := [], harness := (true, "547b689b05288f25178746313839f50a87a7eb06e86fe023458b94c61763477b"), looks := false }, kinds := [], alts := [], laidByText := true, laidKinds := [.data, .pinned], laidTests := true, laidLooks := .later }
def SystemEvalsUptoCardSaid : Prop := Claim7.holds Tryz.pinned (.plain (OpenSpec.upto systemEvalsSpec)) systemEvalsUptoCard

/-- THE SECOND FORM's CARD OF 'linkworklaw02.SystemTexts'. -/
def systemTextsUptoCard : Claim7 := { stood := { row := systemTextsUptoRow, standIns := [], harness := (true, "547b689b05288f25178746313839f50a87a7eb06e86fe023458b94c61763477b"), looks := false }, kinds := [], alts := [], laidByText := true, laidKinds := [.data, .pinned], laidTests := true, laidLooks := .later }
def SystemTextsUptoCardSaid : Prop := Claim7.holds Tryz.pinned (.plain (OpenSpec.upto systemTextsSpec)) systemTextsUptoCard

/-- THE SECOND FORM's CARD OF 'linkworklaw02.SystemShort'. -/
def systemShortUptoCard : Claim7 := { stood := { row := systemShortUptoRow, standIns := [], harness := (true, "547b689b05288f25178746313839f50a87a7eb06e86fe023458b94c61763477b"), looks := false }, kinds := [], alts := [], laidByText := true, laidKinds := [.data, .pinned], laidTests := true, laidLooks := .later }
def SystemShortUptoCardSaid : Prop := Claim7.holds Tryz.pinned (.plain (OpenSpec.upto systemShortSpec)) systemShortUptoCard

/-- THE SECOND FORM's CARD OF 'linkworklaw02.SystemTyped'. -/
def systemTypedUptoCard : Claim7 := { stood := { row := systemTypedUptoRow, standIns := [], harness := (true, "547b689b05288f25178746313839f50a87a7eb06e86fe023458b94c61763477b"), looks := false }, kinds := [], alts := [], laidByText := true, laidKinds := [.data, .pinned], laidTests := true, laidLooks := .later }
def SystemTypedUptoCardSaid : Prop := Claim7.holds Tryz.pinned (.plain (OpenSpec.upto systemTypedSpec)) systemTypedUptoCard

/-- THE SECOND FORM's CARD OF 'linkworklaw03.RowsPuts'. -/
def rowsPutsUptoCard : Claim7 := { stood := { row := rowsPutsUptoRow, standIns := [], harness := (true, "547b689b05288f25178746313839f50a87a7eb06e86fe023458b94c61763477b"), looks := false }, kinds := [], alts := [], laidByText := true, laidKinds := [.data, .pinned], laidTests := true, laidLooks := .later }
def RowsPutsUptoCardSaid : Prop := Claim7.holds Tryz.pinned (.plain (OpenSpec.upto rowsPutsSpec)) rowsPutsUptoCard

/-- THE SECOND FORM's CARD OF 'linkworklaw03.RowsMany'. -/
def rowsManyUptoCard : Claim7 := { stood := { row := rowsManyUptoRow, standIns := [], harness := (true, "547b689b05288f25178746313839f50a87a7eb06e86fe023458b94c61763477b"), looks := false }, kinds := [], alts := [], laidByText := true, laidKinds := [.data, .pinned], laidTests := true, laidLooks := .later }
def RowsManyUptoCardSaid : Prop := Claim7.holds Tryz.pinned (.plain (OpenSpec.upto rowsManySpec)) rowsManyUptoCard
end Rows
end Go.Proofs.YtlhdoekgipaihaaGreatDoor
