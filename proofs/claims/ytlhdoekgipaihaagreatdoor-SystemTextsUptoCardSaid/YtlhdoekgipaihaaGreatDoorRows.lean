/-
  NARROWER THAN 'FOR EVERY INPUT', by the rows' own cells (each row's printed sentence says how): MatchGraphs: loops, laid · MatchTops: loops, laid · RowsRow: loops, laid · RowsRules: loops, laid · RowsSums: loops, laid · SystemChecks: loops, laid · SystemEvals: loops, laid · SystemTexts: loops, laid · SystemShort: loops, laid · SystemTyped: loops, laid · RowsPuts: loops, laid · RowsMany: loops, laid.
  DERIVED. THE GIVEN ROWS OF THIS SEAT. 12 by the template 'for every input the law returns true; each argument reads behind the call as it read before'; 0 by the template 'total and deterministic' (their statements: YtlhdoekgipaihaaGreatDoorTotals.lean).
  GIVEN WITH THE SEED: the statements are not yours to turn. If you find one false, say at which input.
  Laid BY PROGRAM, IN A SANDBOX (cutbox-rows.mjs): the forced cells as the released guide's own fill.sh prints them over the translation 1a3cf944a0338ad4… (all of the seat's roots in one cut). By AI agents, Wed Nov 11 2026. No macro, syntax, notation, axiom, sorry.
-/
import Derived.Test.YtlhdoekgipaihaaGreatDoorChecked
import GoSem.PinnedTables
import GoSem.Claim
import GoSem.ClaimJoined
import GoSem.ClaimMapViews
import Derived.JoinedTies
import Derived.KernelRfl
namespace Go.Proofs.YtlhdoekgipaihaaGreatDoor
/- THE CELL 'sum', in the pinned program and in every row, IS THE sha256 OF THE DUMP (.gsa) THAT YtlhdoekgipaihaaGreatDoorProg.lean LOADS. Nothing in Lean hashes anything: it is a label: what it is worth is what the hold of that sum in a sandbox is worth. -/
noncomputable def Tryz.pinned : Pinned := { name := "ytlhdoekgipaihaagreatdoor", sum := "1a3cf944a0338ad430fb69631d3d81c2f2d047c77042ead8d1878ac9df44b129", checked := Tryz.checked }
namespace Rows
def none {H : Type} : Left H := { results := [], args := [] }

/- WHAT THE LISTED PACKAGE-LEVEL VARIABLES READ AS WHEN THE CALL BEGINS. Each datum BY PROGRAM (the guide's laid-datum.mjs) off the statement by which the dump's own 'gosem.cut.vars' lays the variable. In a bare row this is a premise. The card (YtlhdoekgipaihaaGreatDoorCards.lean) ties it to the program's text. -/
def laid_unicode_utf8_acceptRanges {H : Type} : DataW H := .agg [.agg [.lit (.int .u8 128), .lit (.int .u8 191)], .agg [.lit (.int .u8 160), .lit (.int .u8 191)], .agg [.lit (.int .u8 128), .lit (.int .u8 159)], .agg [.lit (.int .u8 144), .lit (.int .u8 191)], .agg [.lit (.int .u8 128), .lit (.int .u8 143)], .agg [.lit (.int .u8 0), .lit (.int .u8 0)], .agg [.lit (.int .u8 0), .lit (.int .u8 0)], .agg [.lit (.int .u8 0), .lit (.int .u8 0)], .agg [.lit (.int .u8 0), .lit (.int .u8 0)], .agg [.lit (.int .u8 0), .lit (.int .u8 0)], .agg [.lit (.int .u8 0), .lit (.int .u8 0)], .agg [.lit (.int .u8 0), .lit (.int .u8 0)], .agg [.lit (.int .u8 0), .lit (.int .u8 0)], .agg [.lit (.int .u8 0), .lit (.int .u8 0)], .agg [.lit (.int .u8 0), .lit (.int .u8 0)], .agg [.lit (.int .u8 0), .lit (.int .u8 0)]]
/-- One of Go's own tables, pinned by name: the form's constant. -/
def laid_unicode_utf8_first : DataW Unit := Go.Pinned.utf8First

/-- 'linkworklaw13.MatchGraphs': WHATEVER THE INPUT: true; the input reads as it did. -/
def matchGraphsSpec : ChangeSpec := { name := "matchGraphs", fn := fun _ => fun
  | [d1, d2] => { results := [.lit (.bool true)], args := [d1, d2] }
  | _ => none }
def matchGraphsRow : OpenClaim := { program := "ytlhdoekgipaihaagreatdoor", sum := "1a3cf944a0338ad430fb69631d3d81c2f2d047c77042ead8d1878ac9df44b129", func := "linkwork/linkworklaw13.MatchGraphs", spec := "matchGraphs", inPlace := ["internal/bytealg.IndexByteString", "internal/bytealg.IndexString", "internal/bytealg.CountString", "internal/bytealg.abigen_runtime_cmpstring"], unfollowed := true, recurses := true, named := ["internal/bytealg.MaxLen", "unicode/utf8.first", "unicode/utf8.acceptRanges"], loops := true, plainKeys := false, apart := false, laid := [("unicode/utf8.acceptRanges", laid_unicode_utf8_acceptRanges), ("unicode/utf8.first", laid_unicode_utf8_first)] }
def MatchGraphsSaid : Prop := matchGraphsRow.holds Tryz.pinned (OpenSpec.ofChange matchGraphsSpec)

/-- ITS FALSE NEIGHBOUR: 'it returns false'. Refute it at one input. -/
def matchGraphsWrong : ChangeSpec := { name := "matchGraphs", fn := fun _ => fun
  | [d1, d2] => { results := [.lit (.bool false)], args := [d1, d2] }
  | _ => none }
def MatchGraphsWrongFalsely : Prop := matchGraphsRow.holds Tryz.pinned (OpenSpec.ofChange matchGraphsWrong)

/-- 'linkworklaw13.MatchTops': WHATEVER THE INPUT: true; the input reads as it did. -/
def matchTopsSpec : ChangeSpec := { name := "matchTops", fn := fun _ => fun
  | [d] => { results := [.lit (.bool true)], args := [d] }
  | _ => none }
def matchTopsRow : OpenClaim := { program := "ytlhdoekgipaihaagreatdoor", sum := "1a3cf944a0338ad430fb69631d3d81c2f2d047c77042ead8d1878ac9df44b129", func := "linkwork/linkworklaw13.MatchTops", spec := "matchTops", inPlace := ["internal/bytealg.IndexByteString", "internal/bytealg.IndexString", "internal/bytealg.CountString", "internal/bytealg.abigen_runtime_cmpstring"], unfollowed := true, recurses := true, named := ["internal/bytealg.MaxLen", "unicode/utf8.first", "unicode/utf8.acceptRanges"], loops := true, plainKeys := false, apart := false, laid := [("unicode/utf8.acceptRanges", laid_unicode_utf8_acceptRanges), ("unicode/utf8.first", laid_unicode_utf8_first)] }
def MatchTopsSaid : Prop := matchTopsRow.holds Tryz.pinned (OpenSpec.ofChange matchTopsSpec)

/-- ITS FALSE NEIGHBOUR: 'it returns false'. Refute it at one input. -/
def matchTopsWrong : ChangeSpec := { name := "matchTops", fn := fun _ => fun
  | [d] => { results := [.lit (.bool false)], args := [d] }
  | _ => none }
def MatchTopsWrongFalsely : Prop := matchTopsRow.holds Tryz.pinned (OpenSpec.ofChange matchTopsWrong)

/-- 'linkworklaw03.RowsRow': WHATEVER THE INPUT: true; the input reads as it did. -/
def rowsRowSpec : ChangeSpec := { name := "rowsRow", fn := fun _ => fun
  | [d1, d2, d3, d4] => { results := [.lit (.bool true)], args := [d1, d2, d3, d4] }
  | _ => none }
def rowsRowRow : OpenClaim := { program := "ytlhdoekgipaihaagreatdoor", sum := "1a3cf944a0338ad430fb69631d3d81c2f2d047c77042ead8d1878ac9df44b129", func := "linkwork/linkworklaw03.RowsRow", spec := "rowsRow", inPlace := ["internal/bytealg.IndexByteString", "internal/bytealg.IndexString", "internal/bytealg.CountString", "internal/bytealg.abigen_runtime_cmpstring"], unfollowed := true, recurses := true, named := ["internal/bytealg.MaxLen", "unicode/utf8.first", "unicode/utf8.acceptRanges"], loops := true, plainKeys := false, apart := false, laid := [("unicode/utf8.acceptRanges", laid_unicode_utf8_acceptRanges), ("unicode/utf8.first", laid_unicode_utf8_first)] }
def RowsRowSaid : Prop := rowsRowRow.holds Tryz.pinned (OpenSpec.ofChange rowsRowSpec)

/-- ITS FALSE NEIGHBOUR: 'it returns false'. Refute it at one input. -/
def rowsRowWrong : ChangeSpec := { name := "rowsRow", fn := fun _ => fun
  | [d1, d2, d3, d4] => { results := [.lit (.bool false)], args := [d1, d2, d3, d4] }
  | _ => none }
def RowsRowWrongFalsely : Prop := rowsRowRow.holds Tryz.pinned (OpenSpec.ofChange rowsRowWrong)

/-- 'linkworklaw03.RowsRules': WHATEVER THE INPUT: true; the input reads as it did. -/
def rowsRulesSpec : ChangeSpec := { name := "rowsRules", fn := fun _ => fun
  | [d1, d2, d3] => { results := [.lit (.bool true)], args := [d1, d2, d3] }
  | _ => none }
def rowsRulesRow : OpenClaim := { program := "ytlhdoekgipaihaagreatdoor", sum := "1a3cf944a0338ad430fb69631d3d81c2f2d047c77042ead8d1878ac9df44b129", func := "linkwork/linkworklaw03.RowsRules", spec := "rowsRules", inPlace := ["internal/bytealg.IndexByteString", "internal/bytealg.IndexString", "internal/bytealg.CountString", "internal/bytealg.abigen_runtime_cmpstring"], unfollowed := true, recurses := true, named := ["internal/bytealg.MaxLen", "unicode/utf8.first", "unicode/utf8.acceptRanges"], loops := true, plainKeys := false, apart := false, laid := [("unicode/utf8.acceptRanges", laid_unicode_utf8_acceptRanges), ("unicode/utf8.first", laid_unicode_utf8_first)] }
def RowsRulesSaid : Prop := rowsRulesRow.holds Tryz.pinned (OpenSpec.ofChange rowsRulesSpec)

/-- ITS FALSE NEIGHBOUR: 'it returns false'. Refute it at one input. -/
def rowsRulesWrong : ChangeSpec := { name := "rowsRules", fn := fun _ => fun
  | [d1, d2, d3] => { results := [.lit (.bool false)], args := [d1, d2, d3] }
  | _ => none }
def RowsRulesWrongFalsely : Prop := rowsRulesRow.holds Tryz.pinned (OpenSpec.ofChange rowsRulesWrong)

/-- 'linkworklaw03.RowsSums': WHATEVER THE INPUT: true; the input reads as it did. -/
def rowsSumsSpec : ChangeSpec := { name := "rowsSums", fn := fun _ => fun
  | [d1, d2, d3, d4, d5] => { results := [.lit (.bool true)], args := [d1, d2, d3, d4, d5] }
  | _ => none }
def rowsSumsRow : OpenClaim := { program := "ytlhdoekgipaihaagreatdoor", sum := "1a3cf944a0338ad430fb69631d3d81c2f2d047c77042ead8d1878ac9df44b129", func := "linkwork/linkworklaw03.RowsSums", spec := "rowsSums", inPlace := ["internal/bytealg.IndexByteString", "internal/bytealg.IndexString", "internal/bytealg.CountString", "internal/bytealg.abigen_runtime_cmpstring"], unfollowed := true, recurses := true, named := ["internal/bytealg.MaxLen", "unicode/utf8.first", "unicode/utf8.acceptRanges"], loops := true, plainKeys := false, apart := false, laid := [("unicode/utf8.acceptRanges", laid_unicode_utf8_acceptRanges), ("unicode/utf8.first", laid_unicode_utf8_first)] }
def RowsSumsSaid : Prop := rowsSumsRow.holds Tryz.pinned (OpenSpec.ofChange rowsSumsSpec)

/-- ITS FALSE NEIGHBOUR: 'it returns false'. Refute it at one input. -/
def rowsSumsWrong : ChangeSpec := { name := "rowsSums", fn := fun _ => fun
  | [d1, d2, d3, d4, d5] => { results := [.lit (.bool false)], args := [d1, d2, d3, d4, d5] }
  | _ => none }
def RowsSumsWrongFalsely : Prop := rowsSumsRow.holds Tryz.pinned (OpenSpec.ofChange rowsSumsWrong)

/-- 'linkworklaw02.SystemChecks': WHATEVER THE INPUT: true; the input reads as it did. -/
def systemChecksSpec : ChangeSpec := { name := "systemChecks", fn := fun _ => fun
  | [d] => { results := [.lit (.bool true)], args := [d] }
  | _ => none }
def systemChecksRow : OpenClaim := { program := "ytlhdoekgipaihaagreatdoor", sum := "1a3cf944a0338ad430fb69631d3d81c2f2d047c77042ead8d1878ac9df44b129", func := "linkwork/linkworklaw02.SystemChecks", spec := "systemChecks", inPlace := ["internal/bytealg.IndexByteString", "internal/bytealg.IndexString", "internal/bytealg.CountString", "internal/abi.NoEscape", "internal/bytealg.MakeNoZero", "internal/bytealg.abigen_runtime_cmpstring"], unfollowed := true, recurses := true, named := ["internal/bytealg.MaxLen", "unicode/utf8.first", "unicode/utf8.acceptRanges"], loops := true, plainKeys := false, apart := false, laid := [("unicode/utf8.acceptRanges", laid_unicode_utf8_acceptRanges), ("unicode/utf8.first", laid_unicode_utf8_first)] }
def SystemChecksSaid : Prop := systemChecksRow.holds Tryz.pinned (OpenSpec.ofChange systemChecksSpec)

/-- ITS FALSE NEIGHBOUR: 'it returns false'. Refute it at one input. -/
def systemChecksWrong : ChangeSpec := { name := "systemChecks", fn := fun _ => fun
  | [d] => { results := [.lit (.bool false)], args := [d] }
  | _ => none }
def SystemChecksWrongFalsely : Prop := systemChecksRow.holds Tryz.pinned (OpenSpec.ofChange systemChecksWrong)

/-- 'linkworklaw02.SystemEvals': WHATEVER THE INPUT: true; the input reads as it did. -/
def systemEvalsSpec : ChangeSpec := { name := "systemEvals", fn := fun _ => fun
  | [d1, d2, d3] => { results := [.lit (.bool true)], args := [d1, d2, d3] }
  | _ => none }
def systemEvalsRow : OpenClaim := { program := "ytlhdoekgipaihaagreatdoor", sum := "1a3cf944a0338ad430fb69631d3d81c2f2d047c77042ead8d1878ac9df44b129", func := "linkwork/linkworklaw02.SystemEvals", spec := "systemEvals", inPlace := ["internal/bytealg.IndexByteString", "internal/bytealg.IndexString", "internal/bytealg.CountString", "internal/abi.NoEscape", "internal/bytealg.MakeNoZero", "internal/bytealg.abigen_runtime_cmpstring"], unfollowed := true, recurses := true, named := ["internal/bytealg.MaxLen", "unicode/utf8.first", "unicode/utf8.acceptRanges"], loops := true, plainKeys := false, apart := false, laid := [("unicode/utf8.acceptRanges", laid_unicode_utf8_acceptRanges), ("unicode/utf8.first", laid_unicode_utf8_first)] }
def SystemEvalsSaid : Prop := systemEvalsRow.holds Tryz.pinned (OpenSpec.ofChange systemEvalsSpec)

/-- ITS FALSE NEIGHBOUR: 'it returns false'. Refute it at one input. -/
def systemEvalsWrong : ChangeSpec := { name := "systemEvals", fn := fun _ => fun
  | [d1, d2, d3] => { results := [.lit (.bool false)], args := [d1, d2, d3] }
  | _ => none }
def SystemEvalsWrongFalsely : Prop := systemEvalsRow.holds Tryz.pinned (OpenSpec.ofChange systemEvalsWrong)

/-- 'linkworklaw02.SystemTexts': WHATEVER THE INPUT: true; the input reads as it did. -/
def systemTextsSpec : ChangeSpec := { name := "systemTexts", fn := fun _ => fun
  | [d] => { results := [.lit (.bool true)], args := [d] }
  | _ => none }
def systemTextsRow : OpenClaim := { program := "ytlhdoekgipaihaagreatdoor", sum := "1a3cf944a0338ad430fb69631d3d81c2f2d047c77042ead8d1878ac9df44b129", func := "linkwork/linkworklaw02.SystemTexts", spec := "systemTexts", inPlace := ["internal/bytealg.IndexByteString", "internal/bytealg.IndexString", "internal/bytealg.CountString", "internal/abi.NoEscape", "internal/bytealg.MakeNoZero", "internal/bytealg.abigen_runtime_cmpstring"], unfollowed := true, recurses := true, named := ["internal/bytealg.MaxLen", "unicode/utf8.first", "unicode/utf8.acceptRanges"], loops := true, plainKeys := false, apart := false, laid := [("unicode/utf8.acceptRanges", laid_unicode_utf8_acceptRanges), ("unicode/utf8.first", laid_unicode_utf8_first)] }
def SystemTextsSaid : Prop := systemTextsRow.holds Tryz.pinned (OpenSpec.ofChange systemTextsSpec)

/-- ITS FALSE NEIGHBOUR: 'it returns false'. Refute it at one input. -/
def systemTextsWrong : ChangeSpec := { name := "systemTexts", fn := fun _ => fun
  | [d] => { results := [.lit (.bool false)], args := [d] }
  | _ => none }
def SystemTextsWrongFalsely : Prop := systemTextsRow.holds Tryz.pinned (OpenSpec.ofChange systemTextsWrong)

/-- 'linkworklaw02.SystemShort': WHATEVER THE INPUT: true; the input reads as it did. -/
def systemShortSpec : ChangeSpec := { name := "systemShort", fn := fun _ => fun
  | [d1, d2, d3, d4, d5, d6] => { results := [.lit (.bool true)], args := [d1, d2, d3, d4, d5, d6] }
  | _ => none }
def systemShortRow : OpenClaim := { program := "ytlhdoekgipaihaagreatdoor", sum := "1a3cf944a0338ad430fb69631d3d81c2f2d047c77042ead8d1878ac9df44b129", func := "linkwork/linkworklaw02.SystemShort", spec := "systemShort", inPlace := ["internal/bytealg.IndexByteString", "internal/bytealg.IndexString", "internal/bytealg.CountString", "internal/abi.NoEscape", "internal/bytealg.MakeNoZero", "internal/bytealg.abigen_runtime_cmpstring"], unfollowed := true, recurses := true, named := ["internal/bytealg.MaxLen", "unicode/utf8.first", "unicode/utf8.acceptRanges"], loops := true, plainKeys := false, apart := false, laid := [("unicode/utf8.acceptRanges", laid_unicode_utf8_acceptRanges), ("unicode/utf8.first", laid_unicode_utf8_first)] }
def SystemShortSaid : Prop := systemShortRow.holds Tryz.pinned (OpenSpec.ofChange systemShortSpec)

/-- ITS FALSE NEIGHBOUR: 'it returns false'. Refute it at one input. -/
def systemShortWrong : ChangeSpec := { name := "systemShort", fn := fun _ => fun
  | [d1, d2, d3, d4, d5, d6] => { results := [.lit (.bool false)], args := [d1, d2, d3, d4, d5, d6] }
  | _ => none }
def SystemShortWrongFalsely : Prop := systemShortRow.holds Tryz.pinned (OpenSpec.ofChange systemShortWrong)

/-- 'linkworklaw02.SystemTyped': WHATEVER THE INPUT: true; the input reads as it did. -/
def systemTypedSpec : ChangeSpec := { name := "systemTyped", fn := fun _ => fun
  | [d1, d2, d3] => { results := [.lit (.bool true)], args := [d1, d2, d3] }
  | _ => none }
def systemTypedRow : OpenClaim := { program := "ytlhdoekgipaihaagreatdoor", sum := "1a3cf944a0338ad430fb69631d3d81c2f2d047c77042ead8d1878ac9df44b129", func := "linkwork/linkworklaw02.SystemTyped", spec := "systemTyped", inPlace := ["internal/bytealg.IndexByteString", "internal/bytealg.IndexString", "internal/bytealg.CountString", "internal/abi.NoEscape", "internal/bytealg.MakeNoZero", "internal/bytealg.abigen_runtime_cmpstring"], unfollowed := true, recurses := true, named := ["internal/bytealg.MaxLen", "unicode/utf8.first", "unicode/utf8.acceptRanges"], loops := true, plainKeys := false, apart := false, laid := [("unicode/utf8.acceptRanges", laid_unicode_utf8_acceptRanges), ("unicode/utf8.first", laid_unicode_utf8_first)] }
def SystemTypedSaid : Prop := systemTypedRow.holds Tryz.pinned (OpenSpec.ofChange systemTypedSpec)

/-- ITS FALSE NEIGHBOUR: 'it returns false'. Refute it at one input. -/
def systemTypedWrong : ChangeSpec := { name := "systemTyped", fn := fun _ => fun
  | [d1, d2, d3] => { results := [.lit (.bool false)], args := [d1, d2, d3] }
  | _ => none }
def SystemTypedWrongFalsely : Prop := systemTypedRow.holds Tryz.pinned (OpenSpec.ofChange systemTypedWrong)

/-- 'linkworklaw03.RowsPuts': WHATEVER THE INPUT: true; the input reads as it did. -/
def rowsPutsSpec : ChangeSpec := { name := "rowsPuts", fn := fun _ => fun
  | [d1, d2, d3, d4] => { results := [.lit (.bool true)], args := [d1, d2, d3, d4] }
  | _ => none }
def rowsPutsRow : OpenClaim := { program := "ytlhdoekgipaihaagreatdoor", sum := "1a3cf944a0338ad430fb69631d3d81c2f2d047c77042ead8d1878ac9df44b129", func := "linkwork/linkworklaw03.RowsPuts", spec := "rowsPuts", inPlace := ["internal/bytealg.IndexByteString", "internal/bytealg.IndexString", "internal/bytealg.CountString", "internal/bytealg.abigen_runtime_cmpstring"], unfollowed := true, recurses := true, named := ["internal/bytealg.MaxLen", "unicode/utf8.first", "unicode/utf8.acceptRanges"], loops := true, plainKeys := false, apart := false, laid := [("unicode/utf8.acceptRanges", laid_unicode_utf8_acceptRanges), ("unicode/utf8.first", laid_unicode_utf8_first)] }
def RowsPutsSaid : Prop := rowsPutsRow.holds Tryz.pinned (OpenSpec.ofChange rowsPutsSpec)

/-- ITS FALSE NEIGHBOUR: 'it returns false'. Refute it at one input. -/
def rowsPutsWrong : ChangeSpec := { name := "rowsPuts", fn := fun _ => fun
  | [d1, d2, d3, d4] => { results := [.lit (.bool false)], args := [d1, d2, d3, d4] }
  | _ => none }
def RowsPutsWrongFalsely : Prop := rowsPutsRow.holds Tryz.pinned (OpenSpec.ofChange rowsPutsWrong)

/-- 'linkworklaw03.RowsMany': WHATEVER THE INPUT: true; the input reads as it did. -/
def rowsManySpec : ChangeSpec := { name := "rowsMany", fn := fun _ => fun
  | [d1, d2, d3, d4] => { results := [.lit (.bool true)], args := [d1, d2, d3, d4] }
  | _ => none }
def rowsManyRow : OpenClaim := { program := "ytlhdoekgipaihaagreatdoor", sum := "1a3cf944a0338ad430fb69631d3d81c2f2d047c77042ead8d1878ac9df44b129", func := "linkwork/linkworklaw03.RowsMany", spec := "rowsMany", inPlace := ["internal/bytealg.IndexByteString", "internal/bytealg.IndexString", "internal/bytealg.CountString", "internal/bytealg.abigen_runtime_cmpstring"], unfollowed := true, recurses := true, named := ["internal/bytealg.MaxLen", "unicode/utf8.first", "unicode/utf8.acceptRanges"], loops := true, plainKeys := false, apart := false, laid := [("unicode/utf8.acceptRanges", laid_unicode_utf8_acceptRanges), ("unicode/utf8.first", laid_unicode_utf8_first)] }
def RowsManySaid : Prop := rowsManyRow.holds Tryz.pinned (OpenSpec.ofChange rowsManySpec)

/-- ITS FALSE NEIGHBOUR: 'it returns false'. Refute it at one input. -/
def rowsManyWrong : ChangeSpec := { name := "rowsMany", fn := fun _ => fun
  | [d1, d2, d3, d4] => { results := [.lit (.bool false)], args := [d1, d2, d3, d4] }
  | _ => none }
def RowsManyWrongFalsely : Prop := rowsManyRow.holds Tryz.pinned (OpenSpec.ofChange rowsManyWrong)

/- THE SECOND FORM. 'bulk': how many values and letters a reading holds, each counted each time it is reached (what is shared counts as often as it is met; a slice's spare places count too). A statement '..UptoSaid' is the law's where the arguments, and the package variables that the reading takes, are together of bulk at most 1048576: NARROWER than '..Said'. Prove '..Said' where nothing that the law and all that it calls make is longer than what came in: it says more and counts as full. Else prove '..UptoSaid'. A law counts once. -/
mutual
def uptoBulk {H : Type} : DataW H → Nat
  | .lit (.string bytes) => bytes.length + 1
  | .lit _ => 1
  | .nil => 1
  | .ptr d => uptoBulk d + 1
  | .slice elems spare => uptoBulkAll elems + uptoBulkAll spare + 1
  | .agg parts => uptoBulkAll parts + 1
  | .iface _ d => uptoBulk d + 1
  | .map entries => uptoBulkEntries entries + 1
  | .held _ => 1
def uptoBulkAll {H : Type} : List (DataW H) → Nat
  | [] => 0
  | d :: r => uptoBulk d + uptoBulkAll r
def uptoBulkEntries {H : Type} : List (Lit × DataW H) → Nat
  | [] => 0
  | x :: r => uptoBulkEntry x + uptoBulkEntries r
def uptoBulkEntry {H : Type} : Lit × DataW H → Nat
  | (.string bytes, d) => bytes.length + uptoBulk d + 1
  | (_, d) => uptoBulk d + 1
 end
def uptoSmall : (H : Type) → List (DataW H) → Bool := fun _ ds => decide (uptoBulkAll ds ≤ 1048576)
def OpenSpec.upto (s : _root_.Go.ChangeSpec) : _root_.Go.OpenSpec := { _root_.Go.OpenSpec.ofChange s with cond := some uptoSmall }

/-- 'linkworklaw13.MatchGraphs', WHERE WHAT IT READS IS OF BULK AT MOST 1048576: true; the input reads as it did. -/
def matchGraphsUptoRow : OpenClaim := { program := "ytlhdoekgipaihaagreatdoor", sum := "1a3cf944a0338ad430fb69631d3d81c2f2d047c77042ead8d1878ac9df44b129", func := "linkwork/linkworklaw13.MatchGraphs", spec := "matchGraphs", inPlace := ["internal/bytealg.IndexByteString", "internal/bytealg.IndexString", "internal/bytealg.CountString", "internal/bytealg.abigen_runtime_cmpstring"], unfollowed := true, recurses := true, named := ["internal/bytealg.MaxLen", "unicode/utf8.first", "unicode/utf8.acceptRanges"], loops := true, plainKeys := false, apart := false, laid := [("unicode/utf8.acceptRanges", laid_unicode_utf8_acceptRanges), ("unicode/utf8.first", laid_unicode_utf8_first)], narrowed := true }
def MatchGraphsUptoSaid : Prop := matchGraphsUptoRow.holds Tryz.pinned (OpenSpec.upto matchGraphsSpec)

/-- 'linkworklaw13.MatchTops', WHERE WHAT IT READS IS OF BULK AT MOST 1048576: true; the input reads as it did. -/
def matchTopsUptoRow : OpenClaim := { program := "ytlhdoekgipaihaagreatdoor", sum := "1a3cf944a0338ad430fb69631d3d81c2f2d047c77042ead8d1878ac9df44b129", func := "linkwork/linkworklaw13.MatchTops", spec := "matchTops", inPlace := ["internal/bytealg.IndexByteString", "internal/bytealg.IndexString", "internal/bytealg.CountString", "internal/bytealg.abigen_runtime_cmpstring"], unfollowed := true, recurses := true, named := ["internal/bytealg.MaxLen", "unicode/utf8.first", "unicode/utf8.acceptRanges"], loops := true, plainKeys := false, apart := false, laid := [("unicode/utf8.acceptRanges", laid_unicode_utf8_acceptRanges), ("unicode/utf8.first", laid_unicode_utf8_first)], narrowed := true }
def MatchTopsUptoSaid : Prop := matchTopsUptoRow.holds Tryz.pinned (OpenSpec.upto matchTopsSpec)

/-- 'linkworklaw03.RowsRow', WHERE WHAT IT READS IS OF BULK AT MOST 1048576: true; the input reads as it did. -/
def rowsRowUptoRow : OpenClaim := { program := "ytlhdoekgipaihaagreatdoor", sum := "1a3cf944a0338ad430fb69631d3d81c2f2d047c77042ead8d1878ac9df44b129", func := "linkwork/linkworklaw03.RowsRow", spec := "rowsRow", inPlace := ["internal/bytealg.IndexByteString", "internal/bytealg.IndexString", "internal/bytealg.CountString", "internal/bytealg.abigen_runtime_cmpstring"], unfollowed := true, recurses := true, named := ["internal/bytealg.MaxLen", "unicode/utf8.first", "unicode/utf8.acceptRanges"], loops := true, plainKeys := false, apart := false, laid := [("unicode/utf8.acceptRanges", laid_unicode_utf8_acceptRanges), ("unicode/utf8.first", laid_unicode_utf8_first)], narrowed := true }
def RowsRowUptoSaid : Prop := rowsRowUptoRow.holds Tryz.pinned (OpenSpec.upto rowsRowSpec)

/-- 'linkworklaw03.RowsRules', WHERE WHAT IT READS IS OF BULK AT MOST 1048576: true; the input reads as it did. -/
def rowsRulesUptoRow : OpenClaim := { program := "ytlhdoekgipaihaagreatdoor", sum := "1a3cf944a0338ad430fb69631d3d81c2f2d047c77042ead8d1878ac9df44b129", func := "linkwork/linkworklaw03.RowsRules", spec := "rowsRules", inPlace := ["internal/bytealg.IndexByteString", "internal/bytealg.IndexString", "internal/bytealg.CountString", "internal/bytealg.abigen_runtime_cmpstring"], unfollowed := true, recurses := true, named := ["internal/bytealg.MaxLen", "unicode/utf8.first", "unicode/utf8.acceptRanges"], loops := true, plainKeys := false, apart := false, laid := [("unicode/utf8.acceptRanges", laid_unicode_utf8_acceptRanges), ("unicode/utf8.first", laid_unicode_utf8_first)], narrowed := true }
def RowsRulesUptoSaid : Prop := rowsRulesUptoRow.holds Tryz.pinned (OpenSpec.upto rowsRulesSpec)

/-- 'linkworklaw03.RowsSums', WHERE WHAT IT READS IS OF BULK AT MOST 1048576: true; the input reads as it did. -/
def rowsSumsUptoRow : OpenClaim := { program := "ytlhdoekgipaihaagreatdoor", sum := "1a3cf944a0338ad430fb69631d3d81c2f2d047c77042ead8d1878ac9df44b129", func := "linkwork/linkworklaw03.RowsSums", spec := "rowsSums", inPlace := ["internal/bytealg.IndexByteString", "internal/bytealg.IndexString", "internal/bytealg.CountString", "internal/bytealg.abigen_runtime_cmpstring"], unfollowed := true, recurses := true, named := ["internal/bytealg.MaxLen", "unicode/utf8.first", "unicode/utf8.acceptRanges"], loops := true, plainKeys := false, apart := false, laid := [("unicode/utf8.acceptRanges", laid_unicode_utf8_acceptRanges), ("unicode/utf8.first", laid_unicode_utf8_first)], narrowed := true }
def RowsSumsUptoSaid : Prop := rowsSumsUptoRow.holds Tryz.pinned (OpenSpec.upto rowsSumsSpec)

/-- 'linkworklaw02.SystemChecks', WHERE WHAT IT READS IS OF BULK AT MOST 1048576: true; the input reads as it did. -/
def systemChecksUptoRow : OpenClaim := { program := "ytlhdoekgipaihaagreatdoor", sum := "1a3cf944a0338ad430fb69631d3d81c2f2d047c77042ead8d1878ac9df44b129", func := "linkwork/linkworklaw02.SystemChecks", spec := "systemChecks", inPlace := ["internal/bytealg.IndexByteString", "internal/bytealg.IndexString", "internal/bytealg.CountString", "internal/abi.NoEscape", "internal/bytealg.MakeNoZero", "internal/bytealg.abigen_runtime_cmpstring"], unfollowed := true, recurses := true, named := ["internal/bytealg.MaxLen", "unicode/utf8.first", "unicode/utf8.acceptRanges"], loops := true, plainKeys := false, apart := false, laid := [("unicode/utf8.acceptRanges", laid_unicode_utf8_acceptRanges), ("unicode/utf8.first", laid_unicode_utf8_first)], narrowed := true }
def SystemChecksUptoSaid : Prop := systemChecksUptoRow.holds Tryz.pinned (OpenSpec.upto systemChecksSpec)

/-- 'linkworklaw02.SystemEvals', WHERE WHAT IT READS IS OF BULK AT MOST 1048576: true; the input reads as it did. -/
def systemEvalsUptoRow : OpenClaim := { program := "ytlhdoekgipaihaagreatdoor", sum := "1a3cf944a0338ad430fb69631d3d81c2f2d047c77042ead8d1878ac9df44b129", func := "linkwork/linkworklaw02.SystemEvals", spec := "systemEvals", inPlace := ["internal/bytealg.IndexByteString", "internal/bytealg.IndexString", "internal/bytealg.CountString", "internal/abi.NoEscape", "internal/bytealg.MakeNoZero", "internal/bytealg.abigen_runtime_cmpstring"], unfollowed := true, recurses := true, named := ["internal/bytealg.MaxLen", "unicode/utf8.first", "unicode/utf8.acceptRanges"], loops := true, plainKeys := false, apart := false, laid := [("unicode/utf8.acceptRanges", laid_unicode_utf8_acceptRanges), ("unicode/utf8.first", laid_unicode_utf8_first)], narrowed := true }
def SystemEvalsUptoSaid : Prop := systemEvalsUptoRow.holds Tryz.pinned (OpenSpec.upto systemEvalsSpec)

/-- 'linkworklaw02.SystemTexts', WHERE WHAT IT READS IS OF BULK AT MOST 1048576: true; the input reads as it did. -/
def systemTextsUptoRow : OpenClaim := { program := "ytlhdoekgipaihaagreatdoor", sum := "1a3cf944a0338ad430fb69631d3d81c2f2d047c77042ead8d1878ac9df44b129", func := "linkwork/linkworklaw02.SystemTexts", spec := "systemTexts", inPlace := ["internal/bytealg.IndexByteString", "internal/bytealg.IndexString", "internal/bytealg.CountString", "internal/abi.NoEscape", "internal/bytealg.MakeNoZero", "internal/bytealg.abigen_runtime_cmpstring"], unfollowed := true, recurses := true, named := ["internal/bytealg.MaxLen", "unicode/utf8.first", "unicode/utf8.acceptRanges"], loops := true, plainKeys := false, apart := false, laid := [("unicode/utf8.acceptRanges", laid_unicode_utf8_acceptRanges), ("unicode/utf8.first", laid_unicode_utf8_first)], narrowed := true }
def SystemTextsUptoSaid : Prop := systemTextsUptoRow.holds Tryz.pinned (OpenSpec.upto systemTextsSpec)

/-- 'linkworklaw02.SystemShort', WHERE WHAT IT READS IS OF BULK AT MOST 1048576: true; the input reads as it did. -/
def systemShortUptoRow : OpenClaim := { program := "ytlhdoekgipaihaagreatdoor", sum := "1a3cf944a0338ad430fb69631d3d81c2f2d047c77042ead8d1878ac9df44b129", func := "linkwork/linkworklaw02.SystemShort", spec := "systemShort", inPlace := ["internal/bytealg.IndexByteString", "internal/bytealg.IndexString", "internal/bytealg.CountString", "internal/abi.NoEscape", "internal/bytealg.MakeNoZero", "internal/bytealg.abigen_runtime_cmpstring"], unfollowed := true, recurses := true, named := ["internal/bytealg.MaxLen", "unicode/utf8.first", "unicode/utf8.acceptRanges"], loops := true, plainKeys := false, apart := false, laid := [("unicode/utf8.acceptRanges", laid_unicode_utf8_acceptRanges), ("unicode/utf8.first", laid_unicode_utf8_first)], narrowed := true }
def SystemShortUptoSaid : Prop := systemShortUptoRow.holds Tryz.pinned (OpenSpec.upto systemShortSpec)

/-- 'linkworklaw02.SystemTyped', WHERE WHAT IT READS IS OF BULK AT MOST 1048576: true; the input reads as it did. -/
def systemTypedUptoRow : OpenClaim := { program := "ytlhdoekgipaihaagreatdoor", sum := "1a3cf944a0338ad430fb69631d3d81c2f2d047c77042ead8d1878ac9df44b129", func := "linkwork/linkworklaw02.SystemTyped", spec := "systemTyped", inPlace := ["internal/bytealg.IndexByteString", "internal/bytealg.IndexString", "internal/bytealg.CountString", "internal/abi.NoEscape", "internal/bytealg.MakeNoZero", "internal/bytealg.abigen_runtime_cmpstring"], unfollowed := true, recurses := true, named := ["internal/bytealg.MaxLen", "unicode/utf8.first", "unicode/utf8.acceptRanges"], loops := true, plainKeys := false, apart := false, laid := [("unicode/utf8.acceptRanges", laid_unicode_utf8_acceptRanges), ("unicode/utf8.first", laid_unicode_utf8_first)], narrowed := true }
def SystemTypedUptoSaid : Prop := systemTypedUptoRow.holds Tryz.pinned (OpenSpec.upto systemTypedSpec)

/-- 'linkworklaw03.RowsPuts', WHERE WHAT IT READS IS OF BULK AT MOST 1048576: true; the input reads as it did. -/
def rowsPutsUptoRow : OpenClaim := { program := "ytlhdoekgipaihaagreatdoor", sum := "1a3cf944a0338ad430fb69631d3d81c2f2d047c77042ead8d1878ac9df44b129", func := "linkwork/linkworklaw03.RowsPuts", spec := "rowsPuts", inPlace := ["internal/bytealg.IndexByteString", "internal/bytealg.IndexString", "internal/bytealg.CountString", "internal/bytealg.abigen_runtime_cmpstring"], unfollowed := true, recurses := true, named := ["internal/bytealg.MaxLen", "unicode/utf8.first", "unicode/utf8.acceptRanges"], loops := true, plainKeys := false, apart := false, laid := [("unicode/utf8.acceptRanges", laid_unicode_utf8_acceptRanges), ("unicode/utf8.first", laid_unicode_utf8_first)], narrowed := true }
def RowsPutsUptoSaid : Prop := rowsPutsUptoRow.holds Tryz.pinned (OpenSpec.upto rowsPutsSpec)

/-- 'linkworklaw03.RowsMany', WHERE WHAT IT READS IS OF BULK AT MOST 1048576: true; the input reads as it did. -/
def rowsManyUptoRow : OpenClaim := { program := "ytlhdoekgipaihaagreatdoor", sum := "1a3cf944a0338ad430fb69631d3d81c2f2d047c77042ead8d1878ac9df44b129", func := "linkwork/linkworklaw03.RowsMany", spec := "rowsMany", inPlace := ["internal/bytealg.IndexByteString", "internal/bytealg.IndexString", "internal/bytealg.CountString", "internal/bytealg.abigen_runtime_cmpstring"], unfollowed := true, recurses := true, named := ["internal/bytealg.MaxLen", "unicode/utf8.first", "unicode/utf8.acceptRanges"], loops := true, plainKeys := false, apart := false, laid := [("unicode/utf8.acceptRanges", laid_unicode_utf8_acceptRanges), ("unicode/utf8.first", laid_unicode_utf8_first)], narrowed := true }
def RowsManyUptoSaid : Prop := rowsManyUptoRow.holds Tryz.pinned (OpenSpec.upto rowsManySpec)

end Rows
end Go.Proofs.YtlhdoekgipaihaaGreatDoor
