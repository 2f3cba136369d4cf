/-
  No cell of these rows narrows 'for every input' (looked for: loops, veiled, ifaces, maps, wideKeys, modest, calm, conditions, laid).
  DERIVED. THE GIVEN ROWS OF THIS SEAT. 7 by the template 'for every input the law returns true; each argument reads behind the call as it read before'; 0 by the template 'total and deterministic' (their statements: YtgeeklnokblokaaTotals.lean).
  GIVEN WITH THE SEED: the statements are not yours to turn. If you find one false, say at which input.
  Laid BY PROGRAM, IN A SANDBOX (cutbox-rows.mjs): the forced cells as the released guide's own fill.sh prints them over the translation 58dc540caec2e39d… (all of the seat's roots in one cut). By AI agents, Wed Nov 11 2026. No macro, syntax, notation, axiom, sorry.
-/
import Derived.Test.YtgeeklnokblokaaChecked
import GoSem.Claim
import GoSem.ClaimJoined
import GoSem.ClaimMapViews
import Derived.JoinedTies
import Derived.KernelRfl
namespace Go.Proofs.Ytgeeklnokblokaa
/- THE CELL 'sum', in the pinned program and in every row, IS THE sha256 OF THE DUMP (.gsa) THAT YtgeeklnokblokaaProg.lean LOADS. Nothing in Lean hashes anything: it is a label: what it is worth is what the hold of that sum in a sandbox is worth. -/
noncomputable def Try.pinned : Pinned := { name := "ytgeeklnokblokaa", sum := "58dc540caec2e39dbc6168365e0d4090a49901be6888da152cd9d97b73dba865", checked := Try.checked }
namespace Rows
def none {H : Type} : Left H := { results := [], args := [] }

/-- 'linkworklaw13.MatchPlays': WHATEVER THE INPUT: true; the input reads as it did. -/
def matchPlaysSpec : ChangeSpec := { name := "matchPlays", fn := fun _ => fun
  | [d] => { results := [.lit (.bool true)], args := [d] }
  | _ => none }
def matchPlaysRow : OpenClaim := { program := "ytgeeklnokblokaa", sum := "58dc540caec2e39dbc6168365e0d4090a49901be6888da152cd9d97b73dba865", func := "linkwork/linkworklaw13.MatchPlays", spec := "matchPlays", inPlace := ["internal/bytealg.IndexByteString", "internal/bytealg.IndexString", "internal/bytealg.abigen_runtime_cmpstring"], unfollowed := true, recurses := true, named := ["internal/bytealg.MaxLen"], apart := false }
def MatchPlaysSaid : Prop := matchPlaysRow.holds Try.pinned (OpenSpec.ofChange matchPlaysSpec)

/-- ITS FALSE NEIGHBOUR: 'it returns false'. Refute it at one input. -/
def matchPlaysWrong : ChangeSpec := { name := "matchPlays", fn := fun _ => fun
  | [d] => { results := [.lit (.bool false)], args := [d] }
  | _ => none }
def MatchPlaysWrongFalsely : Prop := matchPlaysRow.holds Try.pinned (OpenSpec.ofChange matchPlaysWrong)

/-- 'linkworklaw13.MatchThree': WHATEVER THE INPUT: true; the input reads as it did. -/
def matchThreeSpec : ChangeSpec := { name := "matchThree", fn := fun _ => fun
  | [d] => { results := [.lit (.bool true)], args := [d] }
  | _ => none }
def matchThreeRow : OpenClaim := { program := "ytgeeklnokblokaa", sum := "58dc540caec2e39dbc6168365e0d4090a49901be6888da152cd9d97b73dba865", func := "linkwork/linkworklaw13.MatchThree", spec := "matchThree", inPlace := ["internal/bytealg.IndexByteString", "internal/bytealg.IndexString", "internal/bytealg.abigen_runtime_cmpstring"], unfollowed := true, recurses := true, named := ["internal/bytealg.MaxLen"], apart := false }
def MatchThreeSaid : Prop := matchThreeRow.holds Try.pinned (OpenSpec.ofChange matchThreeSpec)

/-- ITS FALSE NEIGHBOUR: 'it returns false'. Refute it at one input. -/
def matchThreeWrong : ChangeSpec := { name := "matchThree", fn := fun _ => fun
  | [d] => { results := [.lit (.bool false)], args := [d] }
  | _ => none }
def MatchThreeWrongFalsely : Prop := matchThreeRow.holds Try.pinned (OpenSpec.ofChange matchThreeWrong)

/-- 'linkworklaw13.MatchLeast': WHATEVER THE INPUT: true; the input reads as it did. -/
def matchLeastSpec : ChangeSpec := { name := "matchLeast", fn := fun _ => fun
  | [d] => { results := [.lit (.bool true)], args := [d] }
  | _ => none }
def matchLeastRow : OpenClaim := { program := "ytgeeklnokblokaa", sum := "58dc540caec2e39dbc6168365e0d4090a49901be6888da152cd9d97b73dba865", func := "linkwork/linkworklaw13.MatchLeast", spec := "matchLeast", inPlace := ["internal/bytealg.IndexByteString", "internal/bytealg.IndexString", "internal/bytealg.abigen_runtime_cmpstring"], unfollowed := true, recurses := true, named := ["internal/bytealg.MaxLen"], apart := false }
def MatchLeastSaid : Prop := matchLeastRow.holds Try.pinned (OpenSpec.ofChange matchLeastSpec)

/-- ITS FALSE NEIGHBOUR: 'it returns false'. Refute it at one input. -/
def matchLeastWrong : ChangeSpec := { name := "matchLeast", fn := fun _ => fun
  | [d] => { results := [.lit (.bool false)], args := [d] }
  | _ => none }
def MatchLeastWrongFalsely : Prop := matchLeastRow.holds Try.pinned (OpenSpec.ofChange matchLeastWrong)

/-- 'linkworklaw13.MatchSure': WHATEVER THE INPUT: true; the input reads as it did. -/
def matchSureSpec : ChangeSpec := { name := "matchSure", fn := fun _ => fun
  | [d] => { results := [.lit (.bool true)], args := [d] }
  | _ => none }
def matchSureRow : OpenClaim := { program := "ytgeeklnokblokaa", sum := "58dc540caec2e39dbc6168365e0d4090a49901be6888da152cd9d97b73dba865", func := "linkwork/linkworklaw13.MatchSure", spec := "matchSure", inPlace := ["internal/bytealg.IndexByteString", "internal/bytealg.IndexString", "internal/bytealg.abigen_runtime_cmpstring"], unfollowed := true, recurses := true, named := ["internal/bytealg.MaxLen"], apart := false }
def MatchSureSaid : Prop := matchSureRow.holds Try.pinned (OpenSpec.ofChange matchSureSpec)

/-- ITS FALSE NEIGHBOUR: 'it returns false'. Refute it at one input. -/
def matchSureWrong : ChangeSpec := { name := "matchSure", fn := fun _ => fun
  | [d] => { results := [.lit (.bool false)], args := [d] }
  | _ => none }
def MatchSureWrongFalsely : Prop := matchSureRow.holds Try.pinned (OpenSpec.ofChange matchSureWrong)

/-- 'linkworklaw13.MatchMore': WHATEVER THE INPUT: true; the input reads as it did. -/
def matchMoreSpec : ChangeSpec := { name := "matchMore", fn := fun _ => fun
  | [d1, d2, d3] => { results := [.lit (.bool true)], args := [d1, d2, d3] }
  | _ => none }
def matchMoreRow : OpenClaim := { program := "ytgeeklnokblokaa", sum := "58dc540caec2e39dbc6168365e0d4090a49901be6888da152cd9d97b73dba865", func := "linkwork/linkworklaw13.MatchMore", spec := "matchMore", inPlace := ["internal/bytealg.IndexByteString", "internal/bytealg.IndexString", "internal/bytealg.abigen_runtime_cmpstring"], unfollowed := true, recurses := true, named := ["internal/bytealg.MaxLen"], apart := false }
def MatchMoreSaid : Prop := matchMoreRow.holds Try.pinned (OpenSpec.ofChange matchMoreSpec)

/-- ITS FALSE NEIGHBOUR: 'it returns false'. Refute it at one input. -/
def matchMoreWrong : ChangeSpec := { name := "matchMore", fn := fun _ => fun
  | [d1, d2, d3] => { results := [.lit (.bool false)], args := [d1, d2, d3] }
  | _ => none }
def MatchMoreWrongFalsely : Prop := matchMoreRow.holds Try.pinned (OpenSpec.ofChange matchMoreWrong)

/-- 'linkworklaw13.MatchParts': WHATEVER THE INPUT: true; the input reads as it did. -/
def matchPartsSpec : ChangeSpec := { name := "matchParts", fn := fun _ => fun
  | [d] => { results := [.lit (.bool true)], args := [d] }
  | _ => none }
def matchPartsRow : OpenClaim := { program := "ytgeeklnokblokaa", sum := "58dc540caec2e39dbc6168365e0d4090a49901be6888da152cd9d97b73dba865", func := "linkwork/linkworklaw13.MatchParts", spec := "matchParts", inPlace := ["internal/bytealg.IndexByteString", "internal/bytealg.IndexString", "internal/bytealg.abigen_runtime_cmpstring"], unfollowed := true, recurses := true, named := ["internal/bytealg.MaxLen"], apart := false }
def MatchPartsSaid : Prop := matchPartsRow.holds Try.pinned (OpenSpec.ofChange matchPartsSpec)

/-- ITS FALSE NEIGHBOUR: 'it returns false'. Refute it at one input. -/
def matchPartsWrong : ChangeSpec := { name := "matchParts", fn := fun _ => fun
  | [d] => { results := [.lit (.bool false)], args := [d] }
  | _ => none }
def MatchPartsWrongFalsely : Prop := matchPartsRow.holds Try.pinned (OpenSpec.ofChange matchPartsWrong)

/-- 'linkworklaw13.MatchGreatest': WHATEVER THE INPUT: true; the input reads as it did. -/
def matchGreatestSpec : ChangeSpec := { name := "matchGreatest", fn := fun _ => fun
  | [d] => { results := [.lit (.bool true)], args := [d] }
  | _ => none }
def matchGreatestRow : OpenClaim := { program := "ytgeeklnokblokaa", sum := "58dc540caec2e39dbc6168365e0d4090a49901be6888da152cd9d97b73dba865", func := "linkwork/linkworklaw13.MatchGreatest", spec := "matchGreatest", inPlace := ["internal/bytealg.IndexByteString", "internal/bytealg.IndexString", "internal/bytealg.abigen_runtime_cmpstring"], unfollowed := true, recurses := true, named := ["internal/bytealg.MaxLen"], apart := false }
def MatchGreatestSaid : Prop := matchGreatestRow.holds Try.pinned (OpenSpec.ofChange matchGreatestSpec)

/-- ITS FALSE NEIGHBOUR: 'it returns false'. Refute it at one input. -/
def matchGreatestWrong : ChangeSpec := { name := "matchGreatest", fn := fun _ => fun
  | [d] => { results := [.lit (.bool false)], args := [d] }
  | _ => none }
def MatchGreatestWrongFalsely : Prop := matchGreatestRow.holds Try.pinned (OpenSpec.ofChange matchGreatestWrong)

/- THE SECOND FORM. 'bulk': how many values and letters a reading holds, each counted each time it is reached (what is shared counts as often as it is met; a slice's spare places count too). A statement '..UptoSaid' is the law's where the arguments, and the package variables that the reading takes, are together of bulk at most 1048576: NARROWER than '..Said'. Prove '..Said' where nothing that the law and all that it calls make is longer than what came in: it says more and counts as full. Else prove '..UptoSaid'. A law counts once. -/
mutual
def uptoBulk {H : Type} : DataW H → Nat
  | .lit (.string bytes) => bytes.length + 1
  | .lit _ => 1
  | .nil => 1
  | .ptr d => uptoBulk d + 1
  | .slice elems spare => uptoBulkAll elems + uptoBulkAll spare + 1
  | .agg parts => uptoBulkAll parts + 1
  | .iface _ d => uptoBulk d + 1
  | .map entries => uptoBulkEntries entries + 1
  | .held _ => 1
def uptoBulkAll {H : Type} : List (DataW H) → Nat
  | [] => 0
  | d :: r => uptoBulk d + uptoBulkAll r
def uptoBulkEntries {H : Type} : List (Lit × DataW H) → Nat
  | [] => 0
  | x :: r => uptoBulkEntry x + uptoBulkEntries r
def uptoBulkEntry {H : Type} : Lit × DataW H → Nat
  | (.string bytes, d) => bytes.length + uptoBulk d + 1
  | (_, d) => uptoBulk d + 1
 end
def uptoSmall : (H : Type) → List (DataW H) → Bool := fun _ ds => decide (uptoBulkAll ds ≤ 1048576)
def OpenSpec.upto (s : _root_.Go.ChangeSpec) : _root_.Go.OpenSpec := { _root_.Go.OpenSpec.ofChange s with cond := some uptoSmall }

/-- 'linkworklaw13.MatchPlays', WHERE WHAT IT READS IS OF BULK AT MOST 1048576: true; the input reads as it did. -/
def matchPlaysUptoRow : OpenClaim := { program := "ytgeeklnokblokaa", sum := "58dc540caec2e39dbc6168365e0d4090a49901be6888da152cd9d97b73dba865", func := "linkwork/linkworklaw13.MatchPlays", spec := "matchPlays", inPlace := ["internal/bytealg.IndexByteString", "internal/bytealg.IndexString", "internal/bytealg.abigen_runtime_cmpstring"], unfollowed := true, recurses := true, named := ["internal/bytealg.MaxLen"], apart := false, narrowed := true }
def MatchPlaysUptoSaid : Prop := matchPlaysUptoRow.holds Try.pinned (OpenSpec.upto matchPlaysSpec)

/-- 'linkworklaw13.MatchThree', WHERE WHAT IT READS IS OF BULK AT MOST 1048576: true; the input reads as it did. -/
def matchThreeUptoRow : OpenClaim := { program := "ytgeeklnokblokaa", sum := "58dc540caec2e39dbc6168365e0d4090a49901be6888da152cd9d97b73dba865", func := "linkwork/linkworklaw13.MatchThree", spec := "matchThree", inPlace := ["internal/bytealg.IndexByteString", "internal/bytealg.IndexString", "internal/bytealg.abigen_runtime_cmpstring"], unfollowed := true, recurses := true, named := ["internal/bytealg.MaxLen"], apart := false, narrowed := true }
def MatchThreeUptoSaid : Prop := matchThreeUptoRow.holds Try.pinned (OpenSpec.upto matchThreeSpec)

/-- 'linkworklaw13.MatchLeast', WHERE WHAT IT READS IS OF BULK AT MOST 1048576: true; the input reads as it did. -/
def matchLeastUptoRow : OpenClaim := { program := "ytgeeklnokblokaa", sum := "58dc540caec2e39dbc6168365e0d4090a49901be6888da152cd9d97b73dba865", func := "linkwork/linkworklaw13.MatchLeast", spec := "matchLeast", inPlace := ["internal/bytealg.IndexByteString", "internal/bytealg.IndexString", "internal/bytealg.abigen_runtime_cmpstring"], unfollowed := true, recurses := true, named := ["internal/bytealg.MaxLen"], apart := false, narrowed := true }
def MatchLeastUptoSaid : Prop := matchLeastUptoRow.holds Try.pinned (OpenSpec.upto matchLeastSpec)

/-- 'linkworklaw13.MatchSure', WHERE WHAT IT READS IS OF BULK AT MOST 1048576: true; the input reads as it did. -/
def matchSureUptoRow : OpenClaim := { program := "ytgeeklnokblokaa", sum := "58dc540caec2e39dbc6168365e0d4090a49901be6888da152cd9d97b73dba865", func := "linkwork/linkworklaw13.MatchSure", spec := "matchSure", inPlace := ["internal/bytealg.IndexByteString", "internal/bytealg.IndexString", "internal/bytealg.abigen_runtime_cmpstring"], unfollowed := true, recurses := true, named := ["internal/bytealg.MaxLen"], apart := false, narrowed := true }
def MatchSureUptoSaid : Prop := matchSureUptoRow.holds Try.pinned (OpenSpec.upto matchSureSpec)

/-- 'linkworklaw13.MatchMore', WHERE WHAT IT READS IS OF BULK AT MOST 1048576: true; the input reads as it did. -/
def matchMoreUptoRow : OpenClaim := { program := "ytgeeklnokblokaa", sum := "58dc540caec2e39dbc6168365e0d4090a49901be6888da152cd9d97b73dba865", func := "linkwork/linkworklaw13.MatchMore", spec := "matchMore", inPlace := ["internal/bytealg.IndexByteString", "internal/bytealg.IndexString", "internal/bytealg.abigen_runtime_cmpstring"], unfollowed := true, recurses := true, named := ["internal/bytealg.MaxLen"], apart := false, narrowed := true }
def MatchMoreUptoSaid : Prop := matchMoreUptoRow.holds Try.pinned (OpenSpec.upto matchMoreSpec)

/-- 'linkworklaw13.MatchParts', WHERE WHAT IT READS IS OF BULK AT MOST 1048576: true; the input reads as it did. -/
def matchPartsUptoRow : OpenClaim := { program := "ytgeeklnokblokaa", sum := "58dc540caec2e39dbc6168365e0d4090a49901be6888da152cd9d97b73dba865", func := "linkwork/linkworklaw13.MatchParts", spec := "matchParts", inPlace := ["internal/bytealg.IndexByteString", "internal/bytealg.IndexString", "internal/bytealg.abigen_runtime_cmpstring"], unfollowed := true, recurses := true, named := ["internal/bytealg.MaxLen"], apart := false, narrowed := true }
def MatchPartsUptoSaid : Prop := matchPartsUptoRow.holds Try.pinned (OpenSpec.upto matchPartsSpec)

/-- 'linkworklaw13.MatchGreatest', WHERE WHAT IT READS IS OF BULK AT MOST 1048576: true; the input reads as it did. -/
def matchGreatestUptoRow : OpenClaim := { program := "ytgeeklnokblokaa", sum := "58dc540caec2e39dbc6168365e0d4090a49901be6888da152cd9d97b73dba865", func := "linkwork/linkworklaw13.MatchGreatest", spec := "matchGreatest", inPlace := ["internal/bytealg.IndexByteString", "internal/bytealg.IndexString", "internal/bytealg.abigen_runtime_cmpstring"], unfollowed := true, recurses := true, named := ["internal/bytealg.MaxLen"], apart := false, narrowed := true }
def MatchGreatestUptoSaid : Prop := matchGreatestUptoRow.holds Try.pinned (OpenSpec.upto matchGreatestSpec)

end Rows
end Go.Proofs.Ytgeeklnokblokaa
