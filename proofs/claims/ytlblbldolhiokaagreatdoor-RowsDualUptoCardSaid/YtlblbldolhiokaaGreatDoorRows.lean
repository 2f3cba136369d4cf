/-
  NARROWER THAN 'FOR EVERY INPUT', by the rows' own cells (each row's printed sentence says how): RowsRow: loops, laid · RowsRules: loops, laid · RowsSums: loops, laid · RowsPuts: loops, laid · RowsDerives: loops, laid · RowsDual: loops, laid · SystemHolds: loops, laid · SystemBinds: laid · SystemNeeded: loops, laid · SystemTypes: loops, laid · SystemResiduals: loops, laid · SystemBound: loops, laid.
  DERIVED. THE GIVEN ROWS OF THIS SEAT. 12 by the template 'for every input the law returns true; each argument reads behind the call as it read before'; 0 by the template 'total and deterministic' (their statements: YtlblbldolhiokaaGreatDoorTotals.lean).
  GIVEN WITH THE SEED: the statements are not yours to turn. If you find one false, say at which input.
  Laid BY PROGRAM, IN A SANDBOX (cutbox-rows.mjs): the forced cells as the released guide's own fill.sh prints them over the translation c7a31f8c6189a43b… (all of the seat's roots in one cut). By AI agents, Wed Nov 11 2026. No macro, syntax, notation, axiom, sorry.
-/
import Derived.Test.YtlblbldolhiokaaGreatDoorChecked
import GoSem.PinnedTables
import GoSem.Claim
import GoSem.ClaimJoined
import GoSem.ClaimMapViews
import Derived.JoinedTies
import Derived.KernelRfl
namespace Go.Proofs.YtlblbldolhiokaaGreatDoor
/- THE CELL 'sum', in the pinned program and in every row, IS THE sha256 OF THE DUMP (.gsa) THAT YtlblbldolhiokaaGreatDoorProg.lean LOADS. Nothing in Lean hashes anything: it is a label: what it is worth is what the hold of that sum in a sandbox is worth. -/
noncomputable def Tryz.pinned : Pinned := { name := "ytlblbldolhiokaagreatdoor", sum := "c7a31f8c6189a43beaf140b8af120493fd365642e8a7293136a9091db33e7589", checked := Tryz.checked }
namespace Rows
def none {H : Type} : Left H := { results := [], args := [] }

/- WHAT THE LISTED PACKAGE-LEVEL VARIABLES READ AS WHEN THE CALL BEGINS. Each datum BY PROGRAM (the guide's laid-datum.mjs) off the statement by which the dump's own 'gosem.cut.vars' lays the variable. In a bare row this is a premise. The card (YtlblbldolhiokaaGreatDoorCards.lean) ties it to the program's text. -/
def laid_unicode_utf8_acceptRanges {H : Type} : DataW H := .agg [.agg [.lit (.int .u8 128), .lit (.int .u8 191)], .agg [.lit (.int .u8 160), .lit (.int .u8 191)], .agg [.lit (.int .u8 128), .lit (.int .u8 159)], .agg [.lit (.int .u8 144), .lit (.int .u8 191)], .agg [.lit (.int .u8 128), .lit (.int .u8 143)], .agg [.lit (.int .u8 0), .lit (.int .u8 0)], .agg [.lit (.int .u8 0), .lit (.int .u8 0)], .agg [.lit (.int .u8 0), .lit (.int .u8 0)], .agg [.lit (.int .u8 0), .lit (.int .u8 0)], .agg [.lit (.int .u8 0), .lit (.int .u8 0)], .agg [.lit (.int .u8 0), .lit (.int .u8 0)], .agg [.lit (.int .u8 0), .lit (.int .u8 0)], .agg [.lit (.int .u8 0), .lit (.int .u8 0)], .agg [.lit (.int .u8 0), .lit (.int .u8 0)], .agg [.lit (.int .u8 0), .lit (.int .u8 0)], .agg [.lit (.int .u8 0), .lit (.int .u8 0)]]
/-- One of Go's own tables, pinned by name: the form's constant. -/
def laid_unicode_utf8_first : DataW Unit := Go.Pinned.utf8First

/-- 'linkworklaw03.RowsRow': WHATEVER THE INPUT: true; the input reads as it did. -/
def rowsRowSpec : ChangeSpec := { name := "rowsRow", fn := fun _ => fun
  | [d1, d2, d3, d4] => { results := [.lit (.bool true)], args := [d1, d2, d3, d4] }
  | _ => none }
def rowsRowRow : OpenClaim := { program := "ytlblbldolhiokaagreatdoor", sum := "c7a31f8c6189a43beaf140b8af120493fd365642e8a7293136a9091db33e7589", func := "linkwork/linkworklaw03.RowsRow", spec := "rowsRow", inPlace := ["internal/bytealg.IndexByteString", "internal/bytealg.IndexString", "internal/bytealg.CountString", "internal/bytealg.abigen_runtime_cmpstring"], unfollowed := true, recurses := true, named := ["internal/bytealg.MaxLen", "unicode/utf8.first", "unicode/utf8.acceptRanges"], loops := true, plainKeys := false, apart := false, laid := [("unicode/utf8.acceptRanges", laid_unicode_utf8_acceptRanges), ("unicode/utf8.first", laid_unicode_utf8_first)] }
def RowsRowSaid : Prop := rowsRowRow.holds Tryz.pinned (OpenSpec.ofChange rowsRowSpec)

/-- ITS FALSE NEIGHBOUR: 'it returns false'. Refute it at one input. -/
def rowsRowWrong : ChangeSpec := { name := "rowsRow", fn := fun _ => fun
  | [d1, d2, d3, d4] => { results := [.lit (.bool false)], args := [d1, d2, d3, d4] }
  | _ => none }
def RowsRowWrongFalsely : Prop := rowsRowRow.holds Tryz.pinned (OpenSpec.ofChange rowsRowWrong)

/-- 'linkworklaw03.RowsRules': WHATEVER THE INPUT: true; the input reads as it did. -/
def rowsRulesSpec : ChangeSpec := { name := "rowsRules", fn := fun _ => fun
  | [d1, d2, d3] => { results := [.lit (.bool true)], args := [d1, d2, d3] }
  | _ => none }
def rowsRulesRow : OpenClaim := { program := "ytlblbldolhiokaagreatdoor", sum := "c7a31f8c6189a43beaf140b8af120493fd365642e8a7293136a9091db33e7589", func := "linkwork/linkworklaw03.RowsRules", spec := "rowsRules", inPlace := ["internal/bytealg.IndexByteString", "internal/bytealg.IndexString", "internal/bytealg.CountString", "internal/bytealg.abigen_runtime_cmpstring"], unfollowed := true, recurses := true, named := ["internal/bytealg.MaxLen", "unicode/utf8.first", "unicode/utf8.acceptRanges"], loops := true, plainKeys := false, apart := false, laid := [("unicode/utf8.acceptRanges", laid_unicode_utf8_acceptRanges), ("unicode/utf8.first", laid_unicode_utf8_first)] }
def RowsRulesSaid : Prop := rowsRulesRow.holds Tryz.pinned (OpenSpec.ofChange rowsRulesSpec)

/-- ITS FALSE NEIGHBOUR: 'it returns false'. Refute it at one input. -/
def rowsRulesWrong : ChangeSpec := { name := "rowsRules", fn := fun _ => fun
  | [d1, d2, d3] => { results := [.lit (.bool false)], args := [d1, d2, d3] }
  | _ => none }
def RowsRulesWrongFalsely : Prop := rowsRulesRow.holds Tryz.pinned (OpenSpec.ofChange rowsRulesWrong)

/-- 'linkworklaw03.RowsSums': WHATEVER THE INPUT: true; the input reads as it did. -/
def rowsSumsSpec : ChangeSpec := { name := "rowsSums", fn := fun _ => fun
  | [d1, d2, d3, d4, d5] => { results := [.lit (.bool true)], args := [d1, d2, d3, d4, d5] }
  | _ => none }
def rowsSumsRow : OpenClaim := { program := "ytlblbldolhiokaagreatdoor", sum := "c7a31f8c6189a43beaf140b8af120493fd365642e8a7293136a9091db33e7589", func := "linkwork/linkworklaw03.RowsSums", spec := "rowsSums", inPlace := ["internal/bytealg.IndexByteString", "internal/bytealg.IndexString", "internal/bytealg.CountString", "internal/bytealg.abigen_runtime_cmpstring"], unfollowed := true, recurses := true, named := ["internal/bytealg.MaxLen", "unicode/utf8.first", "unicode/utf8.acceptRanges"], loops := true, plainKeys := false, apart := false, laid := [("unicode/utf8.acceptRanges", laid_unicode_utf8_acceptRanges), ("unicode/utf8.first", laid_unicode_utf8_first)] }
def RowsSumsSaid : Prop := rowsSumsRow.holds Tryz.pinned (OpenSpec.ofChange rowsSumsSpec)

/-- ITS FALSE NEIGHBOUR: 'it returns false'. Refute it at one input. -/
def rowsSumsWrong : ChangeSpec := { name := "rowsSums", fn := fun _ => fun
  | [d1, d2, d3, d4, d5] => { results := [.lit (.bool false)], args := [d1, d2, d3, d4, d5] }
  | _ => none }
def RowsSumsWrongFalsely : Prop := rowsSumsRow.holds Tryz.pinned (OpenSpec.ofChange rowsSumsWrong)

/-- 'linkworklaw03.RowsPuts': WHATEVER THE INPUT: true; the input reads as it did. -/
def rowsPutsSpec : ChangeSpec := { name := "rowsPuts", fn := fun _ => fun
  | [d1, d2, d3, d4] => { results := [.lit (.bool true)], args := [d1, d2, d3, d4] }
  | _ => none }
def rowsPutsRow : OpenClaim := { program := "ytlblbldolhiokaagreatdoor", sum := "c7a31f8c6189a43beaf140b8af120493fd365642e8a7293136a9091db33e7589", func := "linkwork/linkworklaw03.RowsPuts", spec := "rowsPuts", inPlace := ["internal/bytealg.IndexByteString", "internal/bytealg.IndexString", "internal/bytealg.CountString", "internal/bytealg.abigen_runtime_cmpstring"], unfollowed := true, recurses := true, named := ["internal/bytealg.MaxLen", "unicode/utf8.first", "unicode/utf8.acceptRanges"], loops := true, plainKeys := false, apart := false, laid := [("unicode/utf8.acceptRanges", laid_unicode_utf8_acceptRanges), ("unicode/utf8.first", laid_unicode_utf8_first)] }
def RowsPutsSaid : Prop := rowsPutsRow.holds Tryz.pinned (OpenSpec.ofChange rowsPutsSpec)

/-- ITS FALSE NEIGHBOUR: 'it returns false'. Refute it at one input. -/
def rowsPutsWrong : ChangeSpec := { name := "rowsPuts", fn := fun _ => fun
  | [d1, d2, d3, d4] => { results := [.lit (.bool false)], args := [d1, d2, d3, d4] }
  | _ => none }
def RowsPutsWrongFalsely : Prop := rowsPutsRow.holds Tryz.pinned (OpenSpec.ofChange rowsPutsWrong)

/-- 'linkworklaw03.RowsDerives': WHATEVER THE INPUT: true; the input reads as it did. -/
def rowsDerivesSpec : ChangeSpec := { name := "rowsDerives", fn := fun _ => fun
  | [d1, d2, d3, d4] => { results := [.lit (.bool true)], args := [d1, d2, d3, d4] }
  | _ => none }
def rowsDerivesRow : OpenClaim := { program := "ytlblbldolhiokaagreatdoor", sum := "c7a31f8c6189a43beaf140b8af120493fd365642e8a7293136a9091db33e7589", func := "linkwork/linkworklaw03.RowsDerives", spec := "rowsDerives", inPlace := ["internal/bytealg.IndexByteString", "internal/bytealg.IndexString", "internal/bytealg.CountString", "internal/bytealg.abigen_runtime_cmpstring"], unfollowed := true, recurses := true, named := ["internal/bytealg.MaxLen", "unicode/utf8.first", "unicode/utf8.acceptRanges"], loops := true, plainKeys := false, apart := false, laid := [("unicode/utf8.acceptRanges", laid_unicode_utf8_acceptRanges), ("unicode/utf8.first", laid_unicode_utf8_first)] }
def RowsDerivesSaid : Prop := rowsDerivesRow.holds Tryz.pinned (OpenSpec.ofChange rowsDerivesSpec)

/-- ITS FALSE NEIGHBOUR: 'it returns false'. Refute it at one input. -/
def rowsDerivesWrong : ChangeSpec := { name := "rowsDerives", fn := fun _ => fun
  | [d1, d2, d3, d4] => { results := [.lit (.bool false)], args := [d1, d2, d3, d4] }
  | _ => none }
def RowsDerivesWrongFalsely : Prop := rowsDerivesRow.holds Tryz.pinned (OpenSpec.ofChange rowsDerivesWrong)

/-- 'linkworklaw03.RowsDual': WHATEVER THE INPUT: true; the input reads as it did. -/
def rowsDualSpec : ChangeSpec := { name := "rowsDual", fn := fun _ => fun
  | [d1, d2, d3] => { results := [.lit (.bool true)], args := [d1, d2, d3] }
  | _ => none }
def rowsDualRow : OpenClaim := { program := "ytlblbldolhiokaagreatdoor", sum := "c7a31f8c6189a43beaf140b8af120493fd365642e8a7293136a9091db33e7589", func := "linkwork/linkworklaw03.RowsDual", spec := "rowsDual", inPlace := ["internal/bytealg.IndexByteString", "internal/bytealg.IndexString", "internal/bytealg.CountString", "internal/bytealg.abigen_runtime_cmpstring"], unfollowed := true, recurses := true, named := ["internal/bytealg.MaxLen", "unicode/utf8.first", "unicode/utf8.acceptRanges"], loops := true, plainKeys := false, apart := false, laid := [("unicode/utf8.acceptRanges", laid_unicode_utf8_acceptRanges), ("unicode/utf8.first", laid_unicode_utf8_first)] }
def RowsDualSaid : Prop := rowsDualRow.holds Tryz.pinned (OpenSpec.ofChange rowsDualSpec)

/-- ITS FALSE NEIGHBOUR: 'it returns false'. Refute it at one input. -/
def rowsDualWrong : ChangeSpec := { name := "rowsDual", fn := fun _ => fun
  | [d1, d2, d3] => { results := [.lit (.bool false)], args := [d1, d2, d3] }
  | _ => none }
def RowsDualWrongFalsely : Prop := rowsDualRow.holds Tryz.pinned (OpenSpec.ofChange rowsDualWrong)

/-- 'linkworklaw02.SystemHolds': WHATEVER THE INPUT: true; the input reads as it did. -/
def systemHoldsSpec : ChangeSpec := { name := "systemHolds", fn := fun _ => fun
  | [d1, d2] => { results := [.lit (.bool true)], args := [d1, d2] }
  | _ => none }
def systemHoldsRow : OpenClaim := { program := "ytlblbldolhiokaagreatdoor", sum := "c7a31f8c6189a43beaf140b8af120493fd365642e8a7293136a9091db33e7589", func := "linkwork/linkworklaw02.SystemHolds", spec := "systemHolds", inPlace := ["internal/bytealg.IndexByteString", "internal/bytealg.IndexString", "internal/bytealg.CountString", "internal/abi.NoEscape", "internal/bytealg.MakeNoZero", "internal/bytealg.abigen_runtime_cmpstring"], unfollowed := true, recurses := true, named := ["internal/bytealg.MaxLen", "unicode/utf8.first", "unicode/utf8.acceptRanges"], loops := true, plainKeys := false, apart := false, laid := [("unicode/utf8.acceptRanges", laid_unicode_utf8_acceptRanges), ("unicode/utf8.first", laid_unicode_utf8_first)] }
def SystemHoldsSaid : Prop := systemHoldsRow.holds Tryz.pinned (OpenSpec.ofChange systemHoldsSpec)

/-- ITS FALSE NEIGHBOUR: 'it returns false'. Refute it at one input. -/
def systemHoldsWrong : ChangeSpec := { name := "systemHolds", fn := fun _ => fun
  | [d1, d2] => { results := [.lit (.bool false)], args := [d1, d2] }
  | _ => none }
def SystemHoldsWrongFalsely : Prop := systemHoldsRow.holds Tryz.pinned (OpenSpec.ofChange systemHoldsWrong)

/-- 'linkworklaw02.SystemBinds': WHATEVER THE INPUT: true; the input reads as it did. -/
def systemBindsSpec : ChangeSpec := { name := "systemBinds", fn := fun _ => fun
  | [d1, d2, d3] => { results := [.lit (.bool true)], args := [d1, d2, d3] }
  | _ => none }
def systemBindsRow : OpenClaim := { program := "ytlblbldolhiokaagreatdoor", sum := "c7a31f8c6189a43beaf140b8af120493fd365642e8a7293136a9091db33e7589", func := "linkwork/linkworklaw02.SystemBinds", spec := "systemBinds", inPlace := ["internal/bytealg.IndexByteString", "internal/bytealg.IndexString", "internal/bytealg.CountString", "internal/abi.NoEscape", "internal/bytealg.MakeNoZero", "internal/bytealg.abigen_runtime_cmpstring", "slices.overlaps[linkwork/api.Bind]"], unfollowed := true, recurses := true, named := ["internal/bytealg.MaxLen", "unicode/utf8.first", "unicode/utf8.acceptRanges"], plainKeys := false, apart := false, laid := [("unicode/utf8.acceptRanges", laid_unicode_utf8_acceptRanges), ("unicode/utf8.first", laid_unicode_utf8_first)] }
def SystemBindsSaid : Prop := systemBindsRow.holds Tryz.pinned (OpenSpec.ofChange systemBindsSpec)

/-- ITS FALSE NEIGHBOUR: 'it returns false'. Refute it at one input. -/
def systemBindsWrong : ChangeSpec := { name := "systemBinds", fn := fun _ => fun
  | [d1, d2, d3] => { results := [.lit (.bool false)], args := [d1, d2, d3] }
  | _ => none }
def SystemBindsWrongFalsely : Prop := systemBindsRow.holds Tryz.pinned (OpenSpec.ofChange systemBindsWrong)

/-- 'linkworklaw02.SystemNeeded': WHATEVER THE INPUT: true; the input reads as it did. -/
def systemNeededSpec : ChangeSpec := { name := "systemNeeded", fn := fun _ => fun
  | [d1, d2, d3] => { results := [.lit (.bool true)], args := [d1, d2, d3] }
  | _ => none }
def systemNeededRow : OpenClaim := { program := "ytlblbldolhiokaagreatdoor", sum := "c7a31f8c6189a43beaf140b8af120493fd365642e8a7293136a9091db33e7589", func := "linkwork/linkworklaw02.SystemNeeded", spec := "systemNeeded", inPlace := ["internal/bytealg.IndexByteString", "internal/bytealg.IndexString", "internal/bytealg.CountString", "internal/abi.NoEscape", "internal/bytealg.MakeNoZero", "internal/bytealg.abigen_runtime_cmpstring"], unfollowed := true, recurses := true, named := ["internal/bytealg.MaxLen", "unicode/utf8.first", "unicode/utf8.acceptRanges"], loops := true, plainKeys := false, apart := false, laid := [("unicode/utf8.acceptRanges", laid_unicode_utf8_acceptRanges), ("unicode/utf8.first", laid_unicode_utf8_first)] }
def SystemNeededSaid : Prop := systemNeededRow.holds Tryz.pinned (OpenSpec.ofChange systemNeededSpec)

/-- ITS FALSE NEIGHBOUR: 'it returns false'. Refute it at one input. -/
def systemNeededWrong : ChangeSpec := { name := "systemNeeded", fn := fun _ => fun
  | [d1, d2, d3] => { results := [.lit (.bool false)], args := [d1, d2, d3] }
  | _ => none }
def SystemNeededWrongFalsely : Prop := systemNeededRow.holds Tryz.pinned (OpenSpec.ofChange systemNeededWrong)

/-- 'linkworklaw02.SystemTypes': WHATEVER THE INPUT: true; the input reads as it did. -/
def systemTypesSpec : ChangeSpec := { name := "systemTypes", fn := fun _ => fun
  | [d1, d2] => { results := [.lit (.bool true)], args := [d1, d2] }
  | _ => none }
def systemTypesRow : OpenClaim := { program := "ytlblbldolhiokaagreatdoor", sum := "c7a31f8c6189a43beaf140b8af120493fd365642e8a7293136a9091db33e7589", func := "linkwork/linkworklaw02.SystemTypes", spec := "systemTypes", inPlace := ["internal/bytealg.IndexByteString", "internal/bytealg.IndexString", "internal/bytealg.CountString", "internal/abi.NoEscape", "internal/bytealg.MakeNoZero", "internal/bytealg.abigen_runtime_cmpstring"], unfollowed := true, recurses := true, named := ["internal/bytealg.MaxLen", "unicode/utf8.first", "unicode/utf8.acceptRanges"], loops := true, plainKeys := false, apart := false, laid := [("unicode/utf8.acceptRanges", laid_unicode_utf8_acceptRanges), ("unicode/utf8.first", laid_unicode_utf8_first)] }
def SystemTypesSaid : Prop := systemTypesRow.holds Tryz.pinned (OpenSpec.ofChange systemTypesSpec)

/-- ITS FALSE NEIGHBOUR: 'it returns false'. Refute it at one input. -/
def systemTypesWrong : ChangeSpec := { name := "systemTypes", fn := fun _ => fun
  | [d1, d2] => { results := [.lit (.bool false)], args := [d1, d2] }
  | _ => none }
def SystemTypesWrongFalsely : Prop := systemTypesRow.holds Tryz.pinned (OpenSpec.ofChange systemTypesWrong)

/-- 'linkworklaw02.SystemResiduals': WHATEVER THE INPUT: true; the input reads as it did. -/
def systemResidualsSpec : ChangeSpec := { name := "systemResiduals", fn := fun _ => fun
  | [d1, d2] => { results := [.lit (.bool true)], args := [d1, d2] }
  | _ => none }
def systemResidualsRow : OpenClaim := { program := "ytlblbldolhiokaagreatdoor", sum := "c7a31f8c6189a43beaf140b8af120493fd365642e8a7293136a9091db33e7589", func := "linkwork/linkworklaw02.SystemResiduals", spec := "systemResiduals", inPlace := ["internal/bytealg.IndexByteString", "internal/bytealg.IndexString", "internal/bytealg.CountString", "internal/abi.NoEscape", "internal/bytealg.MakeNoZero", "internal/bytealg.abigen_runtime_cmpstring"], unfollowed := true, recurses := true, named := ["internal/bytealg.MaxLen", "unicode/utf8.first", "unicode/utf8.acceptRanges"], loops := true, plainKeys := false, apart := false, laid := [("unicode/utf8.acceptRanges", laid_unicode_utf8_acceptRanges), ("unicode/utf8.first", laid_unicode_utf8_first)] }
def SystemResidualsSaid : Prop := systemResidualsRow.holds Tryz.pinned (OpenSpec.ofChange systemResidualsSpec)

/-- ITS FALSE NEIGHBOUR: 'it returns false'. Refute it at one input. -/
def systemResidualsWrong : ChangeSpec := { name := "systemResiduals", fn := fun _ => fun
  | [d1, d2] => { results := [.lit (.bool false)], args := [d1, d2] }
  | _ => none }
def SystemResidualsWrongFalsely : Prop := systemResidualsRow.holds Tryz.pinned (OpenSpec.ofChange systemResidualsWrong)

/-- 'linkworklaw02.SystemBound': WHATEVER THE INPUT: true; the input reads as it did. -/
def systemBoundSpec : ChangeSpec := { name := "systemBound", fn := fun _ => fun
  | [d1, d2, d3] => { results := [.lit (.bool true)], args := [d1, d2, d3] }
  | _ => none }
def systemBoundRow : OpenClaim := { program := "ytlblbldolhiokaagreatdoor", sum := "c7a31f8c6189a43beaf140b8af120493fd365642e8a7293136a9091db33e7589", func := "linkwork/linkworklaw02.SystemBound", spec := "systemBound", inPlace := ["internal/bytealg.IndexByteString", "internal/bytealg.IndexString", "internal/bytealg.CountString", "internal/abi.NoEscape", "internal/bytealg.MakeNoZero", "internal/bytealg.abigen_runtime_cmpstring", "slices.overlaps[linkwork/api.Bind]"], unfollowed := true, recurses := true, named := ["internal/bytealg.MaxLen", "unicode/utf8.first", "unicode/utf8.acceptRanges"], loops := true, plainKeys := false, apart := false, laid := [("unicode/utf8.acceptRanges", laid_unicode_utf8_acceptRanges), ("unicode/utf8.first", laid_unicode_utf8_first)] }
def SystemBoundSaid : Prop := systemBoundRow.holds Tryz.pinned (OpenSpec.ofChange systemBoundSpec)

/-- ITS FALSE NEIGHBOUR: 'it returns false'. Refute it at one input. -/
def systemBoundWrong : ChangeSpec := { name := "systemBound", fn := fun _ => fun
  | [d1, d2, d3] => { results := [.lit (.bool false)], args := [d1, d2, d3] }
  | _ => none }
def SystemBoundWrongFalsely : Prop := systemBoundRow.holds Tryz.pinned (OpenSpec.ofChange systemBoundWrong)

/- THE SECOND FORM. 'bulk': how many values and letters a reading holds, each counted each time it is reached (what is shared counts as often as it is met; a slice's spare places count too). A statement '..UptoSaid' is the law's where the arguments, and the package variables that the reading takes, are together of bulk at most 1048576: NARROWER than '..Said'. Prove '..Said' where nothing that the law and all that it calls make is longer than what came in: it says more and counts as full. Else prove '..UptoSaid'. A law counts once. -/
mutual
def uptoBulk {H : Type} : DataW H → Nat
  | .lit (.string bytes) => bytes.length + 1
  | .lit _ => 1
  | .nil => 1
  | .ptr d => uptoBulk d + 1
  | .slice elems spare => uptoBulkAll elems + uptoBulkAll spare + 1
  | .agg parts => uptoBulkAll parts + 1
  | .iface _ d => uptoBulk d + 1
  | .map entries => uptoBulkEntries entries + 1
  | .held _ => 1
def uptoBulkAll {H : Type} : List (DataW H) → Nat
  | [] => 0
  | d :: r => uptoBulk d + uptoBulkAll r
def uptoBulkEntries {H : Type} : List (Lit × DataW H) → Nat
  | [] => 0
  | x :: r => uptoBulkEntry x + uptoBulkEntries r
def uptoBulkEntry {H : Type} : Lit × DataW H → Nat
  | (.string bytes, d) => bytes.length + uptoBulk d + 1
  | (_, d) => uptoBulk d + 1
 end
def uptoSmall : (H : Type) → List (DataW H) → Bool := fun _ ds => decide (uptoBulkAll ds ≤ 1048576)
def OpenSpec.upto (s : _root_.Go.ChangeSpec) : _root_.Go.OpenSpec := { _root_.Go.OpenSpec.ofChange s with cond := some uptoSmall }

/-- 'linkworklaw03.RowsRow', WHERE WHAT IT READS IS OF BULK AT MOST 1048576: true; the input reads as it did. -/
def rowsRowUptoRow : OpenClaim := { program := "ytlblbldolhiokaagreatdoor", sum := "c7a31f8c6189a43beaf140b8af120493fd365642e8a7293136a9091db33e7589", func := "linkwork/linkworklaw03.RowsRow", spec := "rowsRow", inPlace := ["internal/bytealg.IndexByteString", "internal/bytealg.IndexString", "internal/bytealg.CountString", "internal/bytealg.abigen_runtime_cmpstring"], unfollowed := true, recurses := true, named := ["internal/bytealg.MaxLen", "unicode/utf8.first", "unicode/utf8.acceptRanges"], loops := true, plainKeys := false, apart := false, laid := [("unicode/utf8.acceptRanges", laid_unicode_utf8_acceptRanges), ("unicode/utf8.first", laid_unicode_utf8_first)], narrowed := true }
def RowsRowUptoSaid : Prop := rowsRowUptoRow.holds Tryz.pinned (OpenSpec.upto rowsRowSpec)

/-- 'linkworklaw03.RowsRules', WHERE WHAT IT READS IS OF BULK AT MOST 1048576: true; the input reads as it did. -/
def rowsRulesUptoRow : OpenClaim := { program := "ytlblbldolhiokaagreatdoor", sum := "c7a31f8c6189a43beaf140b8af120493fd365642e8a7293136a9091db33e7589", func := "linkwork/linkworklaw03.RowsRules", spec := "rowsRules", inPlace := ["internal/bytealg.IndexByteString", "internal/bytealg.IndexString", "internal/bytealg.CountString", "internal/bytealg.abigen_runtime_cmpstring"], unfollowed := true, recurses := true, named := ["internal/bytealg.MaxLen", "unicode/utf8.first", "unicode/utf8.acceptRanges"], loops := true, plainKeys := false, apart := false, laid := [("unicode/utf8.acceptRanges", laid_unicode_utf8_acceptRanges), ("unicode/utf8.first", laid_unicode_utf8_first)], narrowed := true }
def RowsRulesUptoSaid : Prop := rowsRulesUptoRow.holds Tryz.pinned (OpenSpec.upto rowsRulesSpec)

/-- 'linkworklaw03.RowsSums', WHERE WHAT IT READS IS OF BULK AT MOST 1048576: true; the input reads as it did. -/
def rowsSumsUptoRow : OpenClaim := { program := "ytlblbldolhiokaagreatdoor", sum := "c7a31f8c6189a43beaf140b8af120493fd365642e8a7293136a9091db33e7589", func := "linkwork/linkworklaw03.RowsSums", spec := "rowsSums", inPlace := ["internal/bytealg.IndexByteString", "internal/bytealg.IndexString", "internal/bytealg.CountString", "internal/bytealg.abigen_runtime_cmpstring"], unfollowed := true, recurses := true, named := ["internal/bytealg.MaxLen", "unicode/utf8.first", "unicode/utf8.acceptRanges"], loops := true, plainKeys := false, apart := false, laid := [("unicode/utf8.acceptRanges", laid_unicode_utf8_acceptRanges), ("unicode/utf8.first", laid_unicode_utf8_first)], narrowed := true }
def RowsSumsUptoSaid : Prop := rowsSumsUptoRow.holds Tryz.pinned (OpenSpec.upto rowsSumsSpec)

/-- 'linkworklaw03.RowsPuts', WHERE WHAT IT READS IS OF BULK AT MOST 1048576: true; the input reads as it did. -/
def rowsPutsUptoRow : OpenClaim := { program := "ytlblbldolhiokaagreatdoor", sum := "c7a31f8c6189a43beaf140b8af120493fd365642e8a7293136a9091db33e7589", func := "linkwork/linkworklaw03.RowsPuts", spec := "rowsPuts", inPlace := ["internal/bytealg.IndexByteString", "internal/bytealg.IndexString", "internal/bytealg.CountString", "internal/bytealg.abigen_runtime_cmpstring"], unfollowed := true, recurses := true, named := ["internal/bytealg.MaxLen", "unicode/utf8.first", "unicode/utf8.acceptRanges"], loops := true, plainKeys := false, apart := false, laid := [("unicode/utf8.acceptRanges", laid_unicode_utf8_acceptRanges), ("unicode/utf8.first", laid_unicode_utf8_first)], narrowed := true }
def RowsPutsUptoSaid : Prop := rowsPutsUptoRow.holds Tryz.pinned (OpenSpec.upto rowsPutsSpec)

/-- 'linkworklaw03.RowsDerives', WHERE WHAT IT READS IS OF BULK AT MOST 1048576: true; the input reads as it did. -/
def rowsDerivesUptoRow : OpenClaim := { program := "ytlblbldolhiokaagreatdoor", sum := "c7a31f8c6189a43beaf140b8af120493fd365642e8a7293136a9091db33e7589", func := "linkwork/linkworklaw03.RowsDerives", spec := "rowsDerives", inPlace := ["internal/bytealg.IndexByteString", "internal/bytealg.IndexString", "internal/bytealg.CountString", "internal/bytealg.abigen_runtime_cmpstring"], unfollowed := true, recurses := true, named := ["internal/bytealg.MaxLen", "unicode/utf8.first", "unicode/utf8.acceptRanges"], loops := true, plainKeys := false, apart := false, laid := [("unicode/utf8.acceptRanges", laid_unicode_utf8_acceptRanges), ("unicode/utf8.first", laid_unicode_utf8_first)], narrowed := true }
def RowsDerivesUptoSaid : Prop := rowsDerivesUptoRow.holds Tryz.pinned (OpenSpec.upto rowsDerivesSpec)

/-- 'linkworklaw03.RowsDual', WHERE WHAT IT READS IS OF BULK AT MOST 1048576: true; the input reads as it did. -/
def rowsDualUptoRow : OpenClaim := { program := "ytlblbldolhiokaagreatdoor", sum := "c7a31f8c6189a43beaf140b8af120493fd365642e8a7293136a9091db33e7589", func := "linkwork/linkworklaw03.RowsDual", spec := "rowsDual", inPlace := ["internal/bytealg.IndexByteString", "internal/bytealg.IndexString", "internal/bytealg.CountString", "internal/bytealg.abigen_runtime_cmpstring"], unfollowed := true, recurses := true, named := ["internal/bytealg.MaxLen", "unicode/utf8.first", "unicode/utf8.acceptRanges"], loops := true, plainKeys := false, apart := false, laid := [("unicode/utf8.acceptRanges", laid_unicode_utf8_acceptRanges), ("unicode/utf8.first", laid_unicode_utf8_first)], narrowed := true }
def RowsDualUptoSaid : Prop := rowsDualUptoRow.holds Tryz.pinned (OpenSpec.upto rowsDualSpec)

/-- 'linkworklaw02.SystemHolds', WHERE WHAT IT READS IS OF BULK AT MOST 1048576: true; the input reads as it did. -/
def systemHoldsUptoRow : OpenClaim := { program := "ytlblbldolhiokaagreatdoor", sum := "c7a31f8c6189a43beaf140b8af120493fd365642e8a7293136a9091db33e7589", func := "linkwork/linkworklaw02.SystemHolds", spec := "systemHolds", inPlace := ["internal/bytealg.IndexByteString", "internal/bytealg.IndexString", "internal/bytealg.CountString", "internal/abi.NoEscape", "internal/bytealg.MakeNoZero", "internal/bytealg.abigen_runtime_cmpstring"], unfollowed := true, recurses := true, named := ["internal/bytealg.MaxLen", "unicode/utf8.first", "unicode/utf8.acceptRanges"], loops := true, plainKeys := false, apart := false, laid := [("unicode/utf8.acceptRanges", laid_unicode_utf8_acceptRanges), ("unicode/utf8.first", laid_unicode_utf8_first)], narrowed := true }
def SystemHoldsUptoSaid : Prop := systemHoldsUptoRow.holds Tryz.pinned (OpenSpec.upto systemHoldsSpec)

/-- 'linkworklaw02.SystemBinds', WHERE WHAT IT READS IS OF BULK AT MOST 1048576: true; the input reads as it did. -/
def systemBindsUptoRow : OpenClaim := { program := "ytlblbldolhiokaagreatdoor", sum := "c7a31f8c6189a43beaf140b8af120493fd365642e8a7293136a9091db33e7589", func := "linkwork/linkworklaw02.SystemBinds", spec := "systemBinds", inPlace := ["internal/bytealg.IndexByteString", "internal/bytealg.IndexString", "internal/bytealg.CountString", "internal/abi.NoEscape", "internal/bytealg.MakeNoZero", "internal/bytealg.abigen_runtime_cmpstring", "slices.overlaps[linkwork/api.Bind]"], unfollowed := true, recurses := true, named := ["internal/bytealg.MaxLen", "unicode/utf8.first", "unicode/utf8.acceptRanges"], plainKeys := false, apart := false, laid := [("unicode/utf8.acceptRanges", laid_unicode_utf8_acceptRanges), ("unicode/utf8.first", laid_unicode_utf8_first)], narrowed := true }
def SystemBindsUptoSaid : Prop := systemBindsUptoRow.holds Tryz.pinned (OpenSpec.upto systemBindsSpec)

/-- 'linkworklaw02.SystemNeeded', WHERE WHAT IT READS IS OF BULK AT MOST 1048576: true; the input reads as it did. -/
def systemNeededUptoRow : OpenClaim := { program := "ytlblbldolhiokaagreatdoor", sum := "c7a31f8c6189a43beaf140b8af120493fd365642e8a7293136a9091db33e7589", func := "linkwork/linkworklaw02.SystemNeeded", spec := "systemNeeded", inPlace := ["internal/bytealg.IndexByteString", "internal/bytealg.IndexString", "internal/bytealg.CountString", "internal/abi.NoEscape", "internal/bytealg.MakeNoZero", "internal/bytealg.abigen_runtime_cmpstring"], unfollowed := true, recurses := true, named := ["internal/bytealg.MaxLen", "unicode/utf8.first", "unicode/utf8.acceptRanges"], loops := true, plainKeys := false, apart := false, laid := [("unicode/utf8.acceptRanges", laid_unicode_utf8_acceptRanges), ("unicode/utf8.first", laid_unicode_utf8_first)], narrowed := true }
def SystemNeededUptoSaid : Prop := systemNeededUptoRow.holds Tryz.pinned (OpenSpec.upto systemNeededSpec)

/-- 'linkworklaw02.SystemTypes', WHERE WHAT IT READS IS OF BULK AT MOST 1048576: true; the input reads as it did. -/
def systemTypesUptoRow : OpenClaim := { program := "ytlblbldolhiokaagreatdoor", sum := "c7a31f8c6189a43beaf140b8af120493fd365642e8a7293136a9091db33e7589", func := "linkwork/linkworklaw02.SystemTypes", spec := "systemTypes", inPlace := ["internal/bytealg.IndexByteString", "internal/bytealg.IndexString", "internal/bytealg.CountString", "internal/abi.NoEscape", "internal/bytealg.MakeNoZero", "internal/bytealg.abigen_runtime_cmpstring"], unfollowed := true, recurses := true, named := ["internal/bytealg.MaxLen", "unicode/utf8.first", "unicode/utf8.acceptRanges"], loops := true, plainKeys := false, apart := false, laid := [("unicode/utf8.acceptRanges", laid_unicode_utf8_acceptRanges), ("unicode/utf8.first", laid_unicode_utf8_first)], narrowed := true }
def SystemTypesUptoSaid : Prop := systemTypesUptoRow.holds Tryz.pinned (OpenSpec.upto systemTypesSpec)

/-- 'linkworklaw02.SystemResiduals', WHERE WHAT IT READS IS OF BULK AT MOST 1048576: true; the input reads as it did. -/
def systemResidualsUptoRow : OpenClaim := { program := "ytlblbldolhiokaagreatdoor", sum := "c7a31f8c6189a43beaf140b8af120493fd365642e8a7293136a9091db33e7589", func := "linkwork/linkworklaw02.SystemResiduals", spec := "systemResiduals", inPlace := ["internal/bytealg.IndexByteString", "internal/bytealg.IndexString", "internal/bytealg.CountString", "internal/abi.NoEscape", "internal/bytealg.MakeNoZero", "internal/bytealg.abigen_runtime_cmpstring"], unfollowed := true, recurses := true, named := ["internal/bytealg.MaxLen", "unicode/utf8.first", "unicode/utf8.acceptRanges"], loops := true, plainKeys := false, apart := false, laid := [("unicode/utf8.acceptRanges", laid_unicode_utf8_acceptRanges), ("unicode/utf8.first", laid_unicode_utf8_first)], narrowed := true }
def SystemResidualsUptoSaid : Prop := systemResidualsUptoRow.holds Tryz.pinned (OpenSpec.upto systemResidualsSpec)

/-- 'linkworklaw02.SystemBound', WHERE WHAT IT READS IS OF BULK AT MOST 1048576: true; the input reads as it did. -/
def systemBoundUptoRow : OpenClaim := { program := "ytlblbldolhiokaagreatdoor", sum := "c7a31f8c6189a43beaf140b8af120493fd365642e8a7293136a9091db33e7589", func := "linkwork/linkworklaw02.SystemBound", spec := "systemBound", inPlace := ["internal/bytealg.IndexByteString", "internal/bytealg.IndexString", "internal/bytealg.CountString", "internal/abi.NoEscape", "internal/bytealg.MakeNoZero", "internal/bytealg.abigen_runtime_cmpstring", "slices.overlaps[linkwork/api.Bind]"], unfollowed := true, recurses := true, named := ["internal/bytealg.MaxLen", "unicode/utf8.first", "unicode/utf8.acceptRanges"], loops := true, plainKeys := false, apart := false, laid := [("unicode/utf8.acceptRanges", laid_unicode_utf8_acceptRanges), ("unicode/utf8.first", laid_unicode_utf8_first)], narrowed := true }
def SystemBoundUptoSaid : Prop := systemBoundUptoRow.holds Tryz.pinned (OpenSpec.upto systemBoundSpec)

end Rows
end Go.Proofs.YtlblbldolhiokaaGreatDoor
