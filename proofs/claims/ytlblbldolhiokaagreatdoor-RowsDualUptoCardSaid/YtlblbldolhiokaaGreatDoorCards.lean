/-
  DERIVED. GIVEN WITH THE SEED: THE CARDS: each row of YtlblbldolhiokaaGreatDoorRows.lean that lists a variable, with what it lists TIED to the program's text (the seventh form; the later family's looks); each row that meets fmt, with fmt's text TOLD by the authors' own Lean function (tested against real Go, not proved from fmt's source: count such statements apart). THE CARD IS WHAT COUNTS. Prove the row's statement (the work); the ties are given (YtlblbldolhiokaaGreatDoorTie.lean); close each card by the builder's one call (the guide's Derived/Test/ToyasCard.lean, 'card_holds'). Laid BY PROGRAM, IN A SANDBOX (cutbox-door.mjs). By AI agents, Wed Nov 11 2026. No macro, syntax, notation, axiom, sorry.
-/
import Derived.Test.YtlblbldolhiokaaGreatDoorRows
import GoSem.ClaimSeven
namespace Go.Proofs.YtlblbldolhiokaaGreatDoor
namespace Rows

/-- THE TIED CARD OF 'linkworklaw03.RowsRow'. -/
def rowsRowCard : Claim7 := { stood := { row := rowsRowRow, standIns := [], harness := (true, "b60827175c5f0285c906618a2add8a40e711458e959f418cc9f8198f579fa186"), looks := false }, kinds := [], alts := [], laidByText := true, laidKinds := [.data, .pinned], laidTests := true, laidLooks := .later }
def RowsRowCardSaid : Prop := Claim7.holds Tryz.pinned (.plain (OpenSpec.ofChange rowsRowSpec)) rowsRowCard

/-- THE TIED CARD OF 'linkworklaw03.RowsRules'. -/
def rowsRulesCard : Claim7 := { stood := { row := rowsRulesRow, standIns := [], harness := (true, "b60827175c5f0285c906618a2add8a40e711458e959f418cc9f8198f579fa186"), looks := false }, kinds := [], alts := [], laidByText := true, laidKinds := [.data, .pinned], laidTests := true, laidLooks := .later }
def RowsRulesCardSaid : Prop := Claim7.holds Tryz.pinned (.plain (OpenSpec.ofChange rowsRulesSpec)) rowsRulesCard

/-- THE TIED CARD OF 'linkworklaw03.RowsSums'. -/
def rowsSumsCard : Claim7 := { stood := { row := rowsSumsRow, standIns := [], harness := (true, "b60827175c5f0285c906618a2add8a40e711458e959f418cc9f8198f579fa186"), looks := false }, kinds := [], alts := [], laidByText := true, laidKinds := [.data, .pinned], laidTests := true, laidLooks := .later }
def RowsSumsCardSaid : Prop := Claim7.holds Tryz.pinned (.plain (OpenSpec.ofChange rowsSumsSpec)) rowsSumsCard

/-- THE TIED CARD OF 'linkworklaw03.RowsPuts'. -/
def rowsPutsCard : Claim7 := { stood := { row := rowsPutsRow, standIns := [], harness := (true, "b60827175c5f0285c906618a2add8a40e711458e959f418cc9f8198f579fa186"), looks := false }, kinds := [], alts := [], laidByText := true, laidKinds := [.data, .pinned], laidTests := true, laidLooks := .later }
def RowsPutsCardSaid : Prop := Claim7.holds Tryz.pinned (.plain (OpenSpec.ofChange rowsPutsSpec)) rowsPutsCard

/-- THE TIED CARD OF 'linkworklaw03.RowsDerives'. -/
def rowsDerivesCard : Claim7 := { stood := { row := rowsDerivesRow, standIns := [], harness := (true, "b60827175c5f0285c906618a2add8a40e711458e959f418cc9f8198f579fa186"), looks := false }, kinds := [], alts := [], laidByText := true, laidKinds := [.data, .pinned], laidTests := true, laidLooks := .later }
def RowsDerivesCardSaid : Prop := Claim7.holds Tryz.pinned (.plain (OpenSpec.ofChange rowsDerivesSpec)) rowsDerivesCard

/-- THE TIED CARD OF 'linkworklaw03.RowsDual'. -/
def rowsDualCard : Claim7 := { stood := { row := rowsDualRow, standIns := [], harness := (true, "b60827175c5f0285c906618a2add8a40e711458e959f418cc9f8198f579fa186"), looks := false }, kinds := [], alts := [], laidByText := true, laidKinds := [.data, .pinned], laidTests := true, laidLooks := .later }
def RowsDualCardSaid : Prop := Claim7.holds Tryz.pinned (.plain (OpenSpec.ofChange rowsDualSpec)) rowsDualCard

/-- THE TIED CARD OF 'linkworklaw02.SystemHolds'. -/
def systemHoldsCard : Claim7 := { stood := { row := systemHoldsRow, standIns := [], harness := (true, "b60827175c5f0285c906618a2add8a40e711458e959f418cc9f8198f579fa186"), looks := false }, kinds := [], alts := [], laidByText := true, laidKinds := [.data, .pinned], laidTests := true, laidLooks := .later }
def SystemHoldsCardSaid : Prop := Claim7.holds Tryz.pinned (.plain (OpenSpec.ofChange systemHoldsSpec)) systemHoldsCard

/-- THE TIED CARD OF 'linkworklaw02.SystemBinds'. -/
def systemBindsCard : Claim7 := { stood := { row := systemBindsRow, standIns := [], harness := (true, "b60827175c5f0285c906618a2add8a40e711458e959f418cc9f8198f579fa186"), looks := false }, kinds := [], alts := [], laidByText := true, laidKinds := [.data, .pinned], laidTests := true, laidLooks := .later }
def SystemBindsCardSaid : Prop := Claim7.holds Tryz.pinned (.plain (OpenSpec.ofChange systemBindsSpec)) systemBindsCard

/-- THE TIED CARD OF 'linkworklaw02.SystemNeeded'. -/
def systemNeededCard : Claim7 := { stood := { row := systemNeededRow, standIns := [], harness := (true, "b60827175c5f0285c906618a2add8a40e711458e959f418cc9f8198f579fa186"), looks := false }, kinds := [], alts := [], laidByText := true, laidKinds := [.data, .pinned], laidTests := true, laidLooks := .later }
def SystemNeededCardSaid : Prop := Claim7.holds Tryz.pinned (.plain (OpenSpec.ofChange systemNeededSpec)) systemNeededCard

/-- THE TIED CARD OF 'linkworklaw02.SystemTypes'. -/
def systemTypesCard : Claim7 := { stood := { row := systemTypesRow, standIns := [], harness := (true, "b60827175c5f0285c906618a2add8a40e711458e959f418cc9f8198f579fa186"), looks := false }, kinds := [], alts := [], laidByText := true, laidKinds := [.data, .pinned], laidTests := true, laidLooks := .later }
def SystemTypesCardSaid : Prop := Claim7.holds Tryz.pinned (.plain (OpenSpec.ofChange systemTypesSpec)) systemTypesCard

/-- THE TIED CARD OF 'linkworklaw02.SystemResiduals'. -/
def systemResidualsCard : Claim7 := { stood := { row := systemResidualsRow, standIns := [], harness := (true, "b60827175c5f0285c906618a2add8a40e711458e959f418cc9f8198f579fa186"), looks := false }, kinds := [], alts := [], laidByText := true, laidKinds := [.data, .pinned], laidTests := true, laidLooks := .later }
def SystemResidualsCardSaid : Prop := Claim7.holds Tryz.pinned (.plain (OpenSpec.ofChange systemResidualsSpec)) systemResidualsCard

/-- THE TIED CARD OF 'linkworklaw02.SystemBound'. -/
def systemBoundCard : Claim7 := { stood := { row := systemBoundRow, standIns := [], harness := (true, "b60827175c5f0285c906618a2add8a40e711458e959f418cc9f8198f579fa186"), looks := false }, kinds := [], alts := [], laidByText := true, laidKinds := [.data, .pinned], laidTests := true, laidLooks := .later }
def SystemBoundCardSaid : Prop := Claim7.holds Tryz.pinned (.plain (OpenSpec.ofChange systemBoundSpec)) systemBoundCard

/-- THE SECOND FORM's CARD OF 'linkworklaw03.RowsRow'. -/
def rowsRowUptoCard : Claim7 := { stood := { row := rowsRowUptoRow, standIns := [], harness := (true, "b60827175c5f0285c906618a2add8a40e711458e959f418cc9f8198f579fa186"), looks := false }, kinds := [], alts := [], laidByText := true, laidKinds := [.data, .pinned], laidTests := true, laidLooks := .later }
def RowsRowUptoCardSaid : Prop := Claim7.holds Tryz.pinned (.plain (OpenSpec.upto rowsRowSpec)) rowsRowUptoCard

/-- THE SECOND FORM's CARD OF 'linkworklaw03.RowsRules'. -/
def rowsRulesUptoCard : Claim7 := { stood := { row := rowsRulesUptoRow, standIns := [], harness := (true, "b60827175c5f0285c906618a2add8a40e711458e959f418cc9f8198f579fa186"), looks := false }, kinds := [], alts := [], laidByText := true, laidKinds := [.data, .pinned], laidTests := true, laidLooks := .later }
def RowsRulesUptoCardSaid : Prop := Claim7.holds Tryz.pinned (.plain (OpenSpec.upto rowsRulesSpec)) rowsRulesUptoCard

/-- THE SECOND FORM's CARD OF 'linkworklaw03.RowsSums'. -/
def rowsSumsUptoCard : Claim7 := { stood := { row := rowsSumsUptoRow, standIns := [], harness := (true, "b60827175c5f0285c906618a2add8a40e711458e959f418cc9f8198f579fa186"), looks := false }, kinds := [], alts := [], laidByText := true, laidKinds := [.data, .pinned], laidTests := true, laidLooks := .later }
def RowsSumsUptoCardSaid : Prop := Claim7.holds Tryz.pinned (.plain (OpenSpec.upto rowsSumsSpec)) rowsSumsUptoCard

/-- THE SECOND FORM's CARD OF 'linkworklaw03.RowsPuts'. -/
def rowsPutsUptoCard : Claim7 := { stood := { row := rowsPutsUptoRow, standIns := [], harness := (true, "b60827175c5f0285c906618a2add8a40e711458e959f418cc9f8198f579fa186"), looks := false }, kinds := [], alts := [], laidByText := true, laidKinds := [.data, .pinned], laidTests := true, laidLooks := .later }
def RowsPutsUptoCardSaid : Prop := Claim7.holds Tryz.pinned (.plain (OpenSpec.upto rowsPutsSpec)) rowsPutsUptoCard

/-- THE SECOND FORM's CARD OF 'linkworklaw03.RowsDerives'. -/
def rowsDerivesUptoCard : Claim7 := { stood := { row := rowsDerivesUptoRow, standIns := [], harness := (true, "b60827175c5f0285c906618a2add8a40e711458e959f418cc9f8198f579fa186"), looks := false }, kinds := [], alts := [], laidByText := true, laidKinds := [.data, .pinned], laidTests := true, laidLooks := .later }
def RowsDerivesUptoCardSaid : Prop := Claim7.holds Tryz.pinned (.plain (OpenSpec.upto rowsDerivesSpec)) rowsDerivesUptoCard

/-- THE SECOND FORM's CARD OF 'linkworklaw03.RowsDual'. -/
def rowsDualUptoCard : Claim7 := { stood := { row := rowsDualUptoRow, standIns := [], harness := (true, "b60827175c5f0285c906618a2add8a40e711458e959f418cc9f8198f579fa186"), looks := false }, kinds := [], alts := [], laidByText := true, laidKinds := [.data, .pinned], laidTests := true, laidLooks := .later }
def RowsDualUptoCardSaid : Prop := Claim7.holds Tryz.pinned (.plain (OpenSpec.upto rowsDualSpec)) rowsDualUptoCard

/-- THE SECOND FORM's CARD OF 'linkworklaw02.SystemHolds'. -/
def systemHoldsUptoCard : Claim7 := { stood := { row := systemHoldsUptoRow, standIns := [], harness := (true, "b60827175c5f0285c906618a2add8a40e711458e959f418cc9f8198f579fa186"), looks := false }, kinds := [], alts := [], laidByText := true, laidKinds := [.data, .pinned], laidTests := true, laidLooks := .later }
def SystemHoldsUptoCardSaid : Prop := Claim7.holds Tryz.pinned (.plain (OpenSpec.upto systemHoldsSpec)) systemHoldsUptoCard

/-- THE SECOND FORM's CARD OF 'linkworklaw02.SystemBinds'. -/
def systemBindsUptoCard : Claim7 := { stood := { row := systemBindsUptoRow, standIns := [], harness := (true, "b60827175c5f0285c906618a2add8a40e711458e959f418cc9f8198f579fa186"), looks := false }, kinds := [], alts := [], laidByText := true, laidKinds := [.data, .pinned], laidTests := true, laidLooks := .later }
def SystemBindsUptoCardSaid : Prop := Claim7.holds Tryz.pinned (.plain (OpenSpec.upto systemBindsSpec)) systemBindsUptoCard

/-- THE SECOND FORM's CARD OF 'linkworklaw02.SystemNeeded'. -/
def systemNeededUptoCard : Claim7 := { stood := { row := systemNeededUptoRow, standIns := [], harness := (true, "b60827175c5f0285c906618a2add8a40e711458e959f418cc9f8198f579fa186"), looks := false }, kinds := [], alts := [], laidByText := true, laidKinds := [.data, .pinned], laidTests := true, laidLooks := .later }
def SystemNeededUptoCardSaid : Prop := Claim7.holds Tryz.pinned (.plain (OpenSpec.upto systemNeededSpec)) systemNeededUptoCard

/-- THE SECOND FORM's CARD OF 'linkworklaw02.SystemTypes'. -/
def systemTypesUptoCard : Claim7 := { stood := { row := systemTypesUptoRow, standIns := [], harness := (true, "b60827175c5f0285c906618a2add8a40e711458e959f418cc9f8198f579fa186"), looks := false }, kinds := [], alts := [], laidByText := true, laidKinds := [.data, .pinned], laidTests := true, laidLooks := .later }
def SystemTypesUptoCardSaid : Prop := Claim7.holds Tryz.pinned (.plain (OpenSpec.upto systemTypesSpec)) systemTypesUptoCard

/-- THE SECOND FORM's CARD OF 'linkworklaw02.SystemResiduals'. -/
def systemResidualsUptoCard : Claim7 := { stood := { row := systemResidualsUptoRow, standIns := [], harness := (true, "b60827175c5f0285c906618a2add8a40e711458e959f418cc9f8198f579fa186"), looks := false }, kinds := [], alts := [], laidByText := true, laidKinds := [.data, .pinned], laidTests := true, laidLooks := .later }
def SystemResidualsUptoCardSaid : Prop := Claim7.holds Tryz.pinned (.plain (OpenSpec.upto systemResidualsSpec)) systemResidualsUptoCard

/-- THE SECOND FORM's CARD OF 'linkworklaw02.SystemBound'. -/
def systemBoundUptoCard : Claim7 := { stood := { row := systemBoundUptoRow, standIns := [], harness := (true, "b60827175c5f0285c906618a2add8a40e711458e959f418cc9f8198f579fa186"), looks := false }, kinds := [], alts := [], laidByText := true, laidKinds := [.data, .pinned], laidTests := true, laidLooks := .later }
def SystemBoundUptoCardSaid : Prop := Claim7.holds Tryz.pinned (.plain (OpenSpec.upto systemBoundSpec)) systemBoundUptoCard
end Rows
end Go.Proofs.YtlblbldolhiokaaGreatDoor
