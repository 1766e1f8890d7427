/-
  NARROWER THAN 'FOR EVERY INPUT', by the rows' own cells (each row's printed sentence says how): FnLogCuts: laid · FnSchemaKept: laid · FnQuotas: laid · FnExactGroupsAfter: laid · FnMoved: laid · FnFinds: laid · FnExactApply: laid · FnExactApplyAll: laid · FnAppliedAll: laid · FnLogs: laid · FnApplied: laid · FnExactRecover: laid.
  DERIVED. THE GIVEN ROWS OF THIS SEAT. 12 by the template 'for every input the law returns true; each argument reads behind the call as it read before'; 0 by the template 'total and deterministic' (their statements: YtbhbkaonlillhaaGreatDoorTotals.lean).
  GIVEN WITH THE SEED: the statements are not yours to turn. If you find one false, say at which input.
  Laid BY PROGRAM, IN A SANDBOX (cutbox-rows.mjs): the forced cells as the released guide's own fill.sh prints them over the translation 4810663a6c808a6b… (all of the seat's roots in one cut). By AI agents, Wed Nov 11 2026. No macro, syntax, notation, axiom, sorry.
-/
import Derived.Test.YtbhbkaonlillhaaGreatDoorChecked
import GoSem.PinnedTables
import GoSem.Claim
import GoSem.ClaimJoined
import GoSem.ClaimMapViews
import Derived.JoinedTies
import Derived.KernelRfl
namespace Go.Proofs.YtbhbkaonlillhaaGreatDoor
/- THE CELL 'sum', in the pinned program and in every row, IS THE sha256 OF THE DUMP (.gsa) THAT YtbhbkaonlillhaaGreatDoorProg.lean LOADS. Nothing in Lean hashes anything: it is a label: what it is worth is what the hold of that sum in a sandbox is worth. -/
noncomputable def Tryz.pinned : Pinned := { name := "ytbhbkaonlillhaagreatdoor", sum := "4810663a6c808a6bc9e3df783c814eb9df93dbb0fd13aeaf54c866325e566816", checked := Tryz.checked }
namespace Rows
def none {H : Type} : Left H := { results := [], args := [] }

/- WHAT THE LISTED PACKAGE-LEVEL VARIABLES READ AS WHEN THE CALL BEGINS. Each datum BY PROGRAM (the guide's laid-datum.mjs) off the statement by which the dump's own 'gosem.cut.vars' lays the variable. In a bare row this is a premise. The card (YtbhbkaonlillhaaGreatDoorCards.lean) ties it to the program's text. -/
def laid_unicode_utf8_acceptRanges {H : Type} : DataW H := .agg [.agg [.lit (.int .u8 128), .lit (.int .u8 191)], .agg [.lit (.int .u8 160), .lit (.int .u8 191)], .agg [.lit (.int .u8 128), .lit (.int .u8 159)], .agg [.lit (.int .u8 144), .lit (.int .u8 191)], .agg [.lit (.int .u8 128), .lit (.int .u8 143)], .agg [.lit (.int .u8 0), .lit (.int .u8 0)], .agg [.lit (.int .u8 0), .lit (.int .u8 0)], .agg [.lit (.int .u8 0), .lit (.int .u8 0)], .agg [.lit (.int .u8 0), .lit (.int .u8 0)], .agg [.lit (.int .u8 0), .lit (.int .u8 0)], .agg [.lit (.int .u8 0), .lit (.int .u8 0)], .agg [.lit (.int .u8 0), .lit (.int .u8 0)], .agg [.lit (.int .u8 0), .lit (.int .u8 0)], .agg [.lit (.int .u8 0), .lit (.int .u8 0)], .agg [.lit (.int .u8 0), .lit (.int .u8 0)], .agg [.lit (.int .u8 0), .lit (.int .u8 0)]]
/-- One of Go's own tables, pinned by name: the form's constant. -/
def laid_unicode_utf8_first : DataW Unit := Go.Pinned.utf8First

/-- 'laws.FnLogCuts': WHATEVER THE INPUT: true; the input reads as it did. -/
def fnLogCutsSpec : ChangeSpec := { name := "fnLogCuts", fn := fun _ => fun
  | [d] => { results := [.lit (.bool true)], args := [d] }
  | _ => none }
def fnLogCutsRow : OpenClaim := { program := "ytbhbkaonlillhaagreatdoor", sum := "4810663a6c808a6bc9e3df783c814eb9df93dbb0fd13aeaf54c866325e566816", func := "loop.example/g00197/laws.FnLogCuts", spec := "fnLogCuts", inPlace := ["internal/bytealg.CountString", "internal/bytealg.IndexByteString", "internal/bytealg.IndexString", "internal/abi.NoEscape", "internal/bytealg.MakeNoZero"], unfollowed := true, recurses := true, named := ["unicode/utf8.first", "unicode/utf8.acceptRanges", "internal/bytealg.MaxLen"], apart := false, laid := [("unicode/utf8.acceptRanges", laid_unicode_utf8_acceptRanges), ("unicode/utf8.first", laid_unicode_utf8_first)] }
def FnLogCutsSaid : Prop := fnLogCutsRow.holds Tryz.pinned (OpenSpec.ofChange fnLogCutsSpec)

/-- ITS FALSE NEIGHBOUR: 'it returns false'. Refute it at one input. -/
def fnLogCutsWrong : ChangeSpec := { name := "fnLogCuts", fn := fun _ => fun
  | [d] => { results := [.lit (.bool false)], args := [d] }
  | _ => none }
def FnLogCutsWrongFalsely : Prop := fnLogCutsRow.holds Tryz.pinned (OpenSpec.ofChange fnLogCutsWrong)

/-- 'laws.FnSchemaKept': WHATEVER THE INPUT: true; the input reads as it did. -/
def fnSchemaKeptSpec : ChangeSpec := { name := "fnSchemaKept", fn := fun _ => fun
  | [d] => { results := [.lit (.bool true)], args := [d] }
  | _ => none }
def fnSchemaKeptRow : OpenClaim := { program := "ytbhbkaonlillhaagreatdoor", sum := "4810663a6c808a6bc9e3df783c814eb9df93dbb0fd13aeaf54c866325e566816", func := "loop.example/g00197/laws.FnSchemaKept", spec := "fnSchemaKept", inPlace := ["internal/bytealg.CountString", "internal/bytealg.IndexByteString", "internal/bytealg.IndexString", "internal/abi.NoEscape", "internal/bytealg.MakeNoZero"], unfollowed := true, recurses := true, named := ["unicode/utf8.first", "unicode/utf8.acceptRanges", "internal/bytealg.MaxLen"], apart := false, laid := [("unicode/utf8.acceptRanges", laid_unicode_utf8_acceptRanges), ("unicode/utf8.first", laid_unicode_utf8_first)] }
def FnSchemaKeptSaid : Prop := fnSchemaKeptRow.holds Tryz.pinned (OpenSpec.ofChange fnSchemaKeptSpec)

/-- ITS FALSE NEIGHBOUR: 'it returns false'. Refute it at one input. -/
def fnSchemaKeptWrong : ChangeSpec := { name := "fnSchemaKept", fn := fun _ => fun
  | [d] => { results := [.lit (.bool false)], args := [d] }
  | _ => none }
def FnSchemaKeptWrongFalsely : Prop := fnSchemaKeptRow.holds Tryz.pinned (OpenSpec.ofChange fnSchemaKeptWrong)

/-- 'laws.FnQuotas': WHATEVER THE INPUT: true; the input reads as it did. -/
def fnQuotasSpec : ChangeSpec := { name := "fnQuotas", fn := fun _ => fun
  | [d] => { results := [.lit (.bool true)], args := [d] }
  | _ => none }
def fnQuotasRow : OpenClaim := { program := "ytbhbkaonlillhaagreatdoor", sum := "4810663a6c808a6bc9e3df783c814eb9df93dbb0fd13aeaf54c866325e566816", func := "loop.example/g00197/laws.FnQuotas", spec := "fnQuotas", inPlace := ["internal/bytealg.CountString", "internal/bytealg.IndexByteString", "internal/bytealg.IndexString", "internal/abi.NoEscape", "internal/bytealg.MakeNoZero"], unfollowed := true, recurses := true, named := ["unicode/utf8.first", "unicode/utf8.acceptRanges", "internal/bytealg.MaxLen"], apart := false, laid := [("unicode/utf8.acceptRanges", laid_unicode_utf8_acceptRanges), ("unicode/utf8.first", laid_unicode_utf8_first)] }
def FnQuotasSaid : Prop := fnQuotasRow.holds Tryz.pinned (OpenSpec.ofChange fnQuotasSpec)

/-- ITS FALSE NEIGHBOUR: 'it returns false'. Refute it at one input. -/
def fnQuotasWrong : ChangeSpec := { name := "fnQuotas", fn := fun _ => fun
  | [d] => { results := [.lit (.bool false)], args := [d] }
  | _ => none }
def FnQuotasWrongFalsely : Prop := fnQuotasRow.holds Tryz.pinned (OpenSpec.ofChange fnQuotasWrong)

/-- 'laws.FnExactGroupsAfter': WHATEVER THE INPUT: true; the input reads as it did. -/
def fnExactGroupsAfterSpec : ChangeSpec := { name := "fnExactGroupsAfter", fn := fun _ => fun
  | [d1, d2, d3] => { results := [.lit (.bool true)], args := [d1, d2, d3] }
  | _ => none }
def fnExactGroupsAfterRow : OpenClaim := { program := "ytbhbkaonlillhaagreatdoor", sum := "4810663a6c808a6bc9e3df783c814eb9df93dbb0fd13aeaf54c866325e566816", func := "loop.example/g00197/laws.FnExactGroupsAfter", spec := "fnExactGroupsAfter", inPlace := ["internal/bytealg.CountString", "internal/bytealg.IndexByteString", "internal/bytealg.IndexString", "internal/abi.NoEscape", "internal/bytealg.MakeNoZero"], unfollowed := true, recurses := true, named := ["unicode/utf8.first", "unicode/utf8.acceptRanges", "internal/bytealg.MaxLen"], apart := false, laid := [("unicode/utf8.acceptRanges", laid_unicode_utf8_acceptRanges), ("unicode/utf8.first", laid_unicode_utf8_first)] }
def FnExactGroupsAfterSaid : Prop := fnExactGroupsAfterRow.holds Tryz.pinned (OpenSpec.ofChange fnExactGroupsAfterSpec)

/-- ITS FALSE NEIGHBOUR: 'it returns false'. Refute it at one input. -/
def fnExactGroupsAfterWrong : ChangeSpec := { name := "fnExactGroupsAfter", fn := fun _ => fun
  | [d1, d2, d3] => { results := [.lit (.bool false)], args := [d1, d2, d3] }
  | _ => none }
def FnExactGroupsAfterWrongFalsely : Prop := fnExactGroupsAfterRow.holds Tryz.pinned (OpenSpec.ofChange fnExactGroupsAfterWrong)

/-- 'laws.FnMoved': WHATEVER THE INPUT: true; the input reads as it did. -/
def fnMovedSpec : ChangeSpec := { name := "fnMoved", fn := fun _ => fun
  | [d] => { results := [.lit (.bool true)], args := [d] }
  | _ => none }
def fnMovedRow : OpenClaim := { program := "ytbhbkaonlillhaagreatdoor", sum := "4810663a6c808a6bc9e3df783c814eb9df93dbb0fd13aeaf54c866325e566816", func := "loop.example/g00197/laws.FnMoved", spec := "fnMoved", inPlace := ["internal/bytealg.CountString", "internal/bytealg.IndexByteString", "internal/bytealg.IndexString", "internal/abi.NoEscape", "internal/bytealg.MakeNoZero"], unfollowed := true, recurses := true, named := ["unicode/utf8.first", "unicode/utf8.acceptRanges", "internal/bytealg.MaxLen"], apart := false, laid := [("unicode/utf8.acceptRanges", laid_unicode_utf8_acceptRanges), ("unicode/utf8.first", laid_unicode_utf8_first)] }
def FnMovedSaid : Prop := fnMovedRow.holds Tryz.pinned (OpenSpec.ofChange fnMovedSpec)

/-- ITS FALSE NEIGHBOUR: 'it returns false'. Refute it at one input. -/
def fnMovedWrong : ChangeSpec := { name := "fnMoved", fn := fun _ => fun
  | [d] => { results := [.lit (.bool false)], args := [d] }
  | _ => none }
def FnMovedWrongFalsely : Prop := fnMovedRow.holds Tryz.pinned (OpenSpec.ofChange fnMovedWrong)

/-- 'laws.FnFinds': WHATEVER THE INPUT: true; the input reads as it did. -/
def fnFindsSpec : ChangeSpec := { name := "fnFinds", fn := fun _ => fun
  | [d] => { results := [.lit (.bool true)], args := [d] }
  | _ => none }
def fnFindsRow : OpenClaim := { program := "ytbhbkaonlillhaagreatdoor", sum := "4810663a6c808a6bc9e3df783c814eb9df93dbb0fd13aeaf54c866325e566816", func := "loop.example/g00197/laws.FnFinds", spec := "fnFinds", inPlace := ["internal/abi.NoEscape", "internal/bytealg.MakeNoZero", "internal/bytealg.CountString", "internal/bytealg.IndexByteString", "internal/bytealg.IndexString"], unfollowed := true, recurses := true, named := ["unicode/utf8.first", "unicode/utf8.acceptRanges", "internal/bytealg.MaxLen"], apart := false, laid := [("unicode/utf8.acceptRanges", laid_unicode_utf8_acceptRanges), ("unicode/utf8.first", laid_unicode_utf8_first)] }
def FnFindsSaid : Prop := fnFindsRow.holds Tryz.pinned (OpenSpec.ofChange fnFindsSpec)

/-- ITS FALSE NEIGHBOUR: 'it returns false'. Refute it at one input. -/
def fnFindsWrong : ChangeSpec := { name := "fnFinds", fn := fun _ => fun
  | [d] => { results := [.lit (.bool false)], args := [d] }
  | _ => none }
def FnFindsWrongFalsely : Prop := fnFindsRow.holds Tryz.pinned (OpenSpec.ofChange fnFindsWrong)

/-- 'laws.FnExactApply': WHATEVER THE INPUT: true; the input reads as it did. -/
def fnExactApplySpec : ChangeSpec := { name := "fnExactApply", fn := fun _ => fun
  | [d1, d2, d3] => { results := [.lit (.bool true)], args := [d1, d2, d3] }
  | _ => none }
def fnExactApplyRow : OpenClaim := { program := "ytbhbkaonlillhaagreatdoor", sum := "4810663a6c808a6bc9e3df783c814eb9df93dbb0fd13aeaf54c866325e566816", func := "loop.example/g00197/laws.FnExactApply", spec := "fnExactApply", inPlace := ["internal/bytealg.CountString", "internal/bytealg.IndexByteString", "internal/bytealg.IndexString", "internal/abi.NoEscape", "internal/bytealg.MakeNoZero"], unfollowed := true, recurses := true, named := ["unicode/utf8.first", "unicode/utf8.acceptRanges", "internal/bytealg.MaxLen"], apart := false, laid := [("unicode/utf8.acceptRanges", laid_unicode_utf8_acceptRanges), ("unicode/utf8.first", laid_unicode_utf8_first)] }
def FnExactApplySaid : Prop := fnExactApplyRow.holds Tryz.pinned (OpenSpec.ofChange fnExactApplySpec)

/-- ITS FALSE NEIGHBOUR: 'it returns false'. Refute it at one input. -/
def fnExactApplyWrong : ChangeSpec := { name := "fnExactApply", fn := fun _ => fun
  | [d1, d2, d3] => { results := [.lit (.bool false)], args := [d1, d2, d3] }
  | _ => none }
def FnExactApplyWrongFalsely : Prop := fnExactApplyRow.holds Tryz.pinned (OpenSpec.ofChange fnExactApplyWrong)

/-- 'laws.FnExactApplyAll': WHATEVER THE INPUT: true; the input reads as it did. -/
def fnExactApplyAllSpec : ChangeSpec := { name := "fnExactApplyAll", fn := fun _ => fun
  | [d1, d2, d3] => { results := [.lit (.bool true)], args := [d1, d2, d3] }
  | _ => none }
def fnExactApplyAllRow : OpenClaim := { program := "ytbhbkaonlillhaagreatdoor", sum := "4810663a6c808a6bc9e3df783c814eb9df93dbb0fd13aeaf54c866325e566816", func := "loop.example/g00197/laws.FnExactApplyAll", spec := "fnExactApplyAll", inPlace := ["internal/bytealg.CountString", "internal/bytealg.IndexByteString", "internal/bytealg.IndexString", "internal/abi.NoEscape", "internal/bytealg.MakeNoZero"], unfollowed := true, recurses := true, named := ["unicode/utf8.first", "unicode/utf8.acceptRanges", "internal/bytealg.MaxLen"], apart := false, laid := [("unicode/utf8.acceptRanges", laid_unicode_utf8_acceptRanges), ("unicode/utf8.first", laid_unicode_utf8_first)] }
def FnExactApplyAllSaid : Prop := fnExactApplyAllRow.holds Tryz.pinned (OpenSpec.ofChange fnExactApplyAllSpec)

/-- ITS FALSE NEIGHBOUR: 'it returns false'. Refute it at one input. -/
def fnExactApplyAllWrong : ChangeSpec := { name := "fnExactApplyAll", fn := fun _ => fun
  | [d1, d2, d3] => { results := [.lit (.bool false)], args := [d1, d2, d3] }
  | _ => none }
def FnExactApplyAllWrongFalsely : Prop := fnExactApplyAllRow.holds Tryz.pinned (OpenSpec.ofChange fnExactApplyAllWrong)

/-- 'laws.FnAppliedAll': WHATEVER THE INPUT: true; the input reads as it did. -/
def fnAppliedAllSpec : ChangeSpec := { name := "fnAppliedAll", fn := fun _ => fun
  | [d] => { results := [.lit (.bool true)], args := [d] }
  | _ => none }
def fnAppliedAllRow : OpenClaim := { program := "ytbhbkaonlillhaagreatdoor", sum := "4810663a6c808a6bc9e3df783c814eb9df93dbb0fd13aeaf54c866325e566816", func := "loop.example/g00197/laws.FnAppliedAll", spec := "fnAppliedAll", inPlace := ["internal/bytealg.CountString", "internal/bytealg.IndexByteString", "internal/bytealg.IndexString", "internal/abi.NoEscape", "internal/bytealg.MakeNoZero"], unfollowed := true, recurses := true, named := ["unicode/utf8.first", "unicode/utf8.acceptRanges", "internal/bytealg.MaxLen"], apart := false, laid := [("unicode/utf8.acceptRanges", laid_unicode_utf8_acceptRanges), ("unicode/utf8.first", laid_unicode_utf8_first)] }
def FnAppliedAllSaid : Prop := fnAppliedAllRow.holds Tryz.pinned (OpenSpec.ofChange fnAppliedAllSpec)

/-- ITS FALSE NEIGHBOUR: 'it returns false'. Refute it at one input. -/
def fnAppliedAllWrong : ChangeSpec := { name := "fnAppliedAll", fn := fun _ => fun
  | [d] => { results := [.lit (.bool false)], args := [d] }
  | _ => none }
def FnAppliedAllWrongFalsely : Prop := fnAppliedAllRow.holds Tryz.pinned (OpenSpec.ofChange fnAppliedAllWrong)

/-- 'laws.FnLogs': WHATEVER THE INPUT: true; the input reads as it did. -/
def fnLogsSpec : ChangeSpec := { name := "fnLogs", fn := fun _ => fun
  | [d] => { results := [.lit (.bool true)], args := [d] }
  | _ => none }
def fnLogsRow : OpenClaim := { program := "ytbhbkaonlillhaagreatdoor", sum := "4810663a6c808a6bc9e3df783c814eb9df93dbb0fd13aeaf54c866325e566816", func := "loop.example/g00197/laws.FnLogs", spec := "fnLogs", inPlace := ["internal/bytealg.CountString", "internal/bytealg.IndexByteString", "internal/bytealg.IndexString", "internal/abi.NoEscape", "internal/bytealg.MakeNoZero"], unfollowed := true, recurses := true, named := ["unicode/utf8.first", "unicode/utf8.acceptRanges", "internal/bytealg.MaxLen"], apart := false, laid := [("unicode/utf8.acceptRanges", laid_unicode_utf8_acceptRanges), ("unicode/utf8.first", laid_unicode_utf8_first)] }
def FnLogsSaid : Prop := fnLogsRow.holds Tryz.pinned (OpenSpec.ofChange fnLogsSpec)

/-- ITS FALSE NEIGHBOUR: 'it returns false'. Refute it at one input. -/
def fnLogsWrong : ChangeSpec := { name := "fnLogs", fn := fun _ => fun
  | [d] => { results := [.lit (.bool false)], args := [d] }
  | _ => none }
def FnLogsWrongFalsely : Prop := fnLogsRow.holds Tryz.pinned (OpenSpec.ofChange fnLogsWrong)

/-- 'laws.FnApplied': WHATEVER THE INPUT: true; the input reads as it did. -/
def fnAppliedSpec : ChangeSpec := { name := "fnApplied", fn := fun _ => fun
  | [d] => { results := [.lit (.bool true)], args := [d] }
  | _ => none }
def fnAppliedRow : OpenClaim := { program := "ytbhbkaonlillhaagreatdoor", sum := "4810663a6c808a6bc9e3df783c814eb9df93dbb0fd13aeaf54c866325e566816", func := "loop.example/g00197/laws.FnApplied", spec := "fnApplied", inPlace := ["internal/bytealg.CountString", "internal/bytealg.IndexByteString", "internal/bytealg.IndexString", "internal/abi.NoEscape", "internal/bytealg.MakeNoZero"], unfollowed := true, recurses := true, named := ["unicode/utf8.first", "unicode/utf8.acceptRanges", "internal/bytealg.MaxLen"], apart := false, laid := [("unicode/utf8.acceptRanges", laid_unicode_utf8_acceptRanges), ("unicode/utf8.first", laid_unicode_utf8_first)] }
def FnAppliedSaid : Prop := fnAppliedRow.holds Tryz.pinned (OpenSpec.ofChange fnAppliedSpec)

/-- ITS FALSE NEIGHBOUR: 'it returns false'. Refute it at one input. -/
def fnAppliedWrong : ChangeSpec := { name := "fnApplied", fn := fun _ => fun
  | [d] => { results := [.lit (.bool false)], args := [d] }
  | _ => none }
def FnAppliedWrongFalsely : Prop := fnAppliedRow.holds Tryz.pinned (OpenSpec.ofChange fnAppliedWrong)

/-- 'laws.FnExactRecover': WHATEVER THE INPUT: true; the input reads as it did. -/
def fnExactRecoverSpec : ChangeSpec := { name := "fnExactRecover", fn := fun _ => fun
  | [d] => { results := [.lit (.bool true)], args := [d] }
  | _ => none }
def fnExactRecoverRow : OpenClaim := { program := "ytbhbkaonlillhaagreatdoor", sum := "4810663a6c808a6bc9e3df783c814eb9df93dbb0fd13aeaf54c866325e566816", func := "loop.example/g00197/laws.FnExactRecover", spec := "fnExactRecover", inPlace := ["internal/bytealg.CountString", "internal/bytealg.IndexByteString", "internal/bytealg.IndexString", "internal/abi.NoEscape", "internal/bytealg.MakeNoZero"], unfollowed := true, recurses := true, named := ["unicode/utf8.first", "unicode/utf8.acceptRanges", "internal/bytealg.MaxLen"], apart := false, laid := [("unicode/utf8.acceptRanges", laid_unicode_utf8_acceptRanges), ("unicode/utf8.first", laid_unicode_utf8_first)] }
def FnExactRecoverSaid : Prop := fnExactRecoverRow.holds Tryz.pinned (OpenSpec.ofChange fnExactRecoverSpec)

/-- ITS FALSE NEIGHBOUR: 'it returns false'. Refute it at one input. -/
def fnExactRecoverWrong : ChangeSpec := { name := "fnExactRecover", fn := fun _ => fun
  | [d] => { results := [.lit (.bool false)], args := [d] }
  | _ => none }
def FnExactRecoverWrongFalsely : Prop := fnExactRecoverRow.holds Tryz.pinned (OpenSpec.ofChange fnExactRecoverWrong)

/- THE SECOND FORM. 'bulk': how many values and letters a reading holds, each counted each time it is reached (what is shared counts as often as it is met; a slice's spare places count too). A statement '..UptoSaid' is the law's where the arguments, and the package variables that the reading takes, are together of bulk at most 1048576: NARROWER than '..Said'. Prove '..Said' where nothing that the law and all that it calls make is longer than what came in: it says more and counts as full. Else prove '..UptoSaid'. A law counts once. -/
mutual
def uptoBulk {H : Type} : DataW H → Nat
  | .lit (.string bytes) => bytes.length + 1
  | .lit _ => 1
  | .nil => 1
  | .ptr d => uptoBulk d + 1
  | .slice elems spare => uptoBulkAll elems + uptoBulkAll spare + 1
  | .agg parts => uptoBulkAll parts + 1
  | .iface _ d => uptoBulk d + 1
  | .map entries => uptoBulkEntries entries + 1
  | .held _ => 1
def uptoBulkAll {H : Type} : List (DataW H) → Nat
  | [] => 0
  | d :: r => uptoBulk d + uptoBulkAll r
def uptoBulkEntries {H : Type} : List (Lit × DataW H) → Nat
  | [] => 0
  | x :: r => uptoBulkEntry x + uptoBulkEntries r
def uptoBulkEntry {H : Type} : Lit × DataW H → Nat
  | (.string bytes, d) => bytes.length + uptoBulk d + 1
  | (_, d) => uptoBulk d + 1
 end
def uptoSmall : (H : Type) → List (DataW H) → Bool := fun _ ds => decide (uptoBulkAll ds ≤ 1048576)
def OpenSpec.upto (s : _root_.Go.ChangeSpec) : _root_.Go.OpenSpec := { _root_.Go.OpenSpec.ofChange s with cond := some uptoSmall }

/-- 'laws.FnLogCuts', WHERE WHAT IT READS IS OF BULK AT MOST 1048576: true; the input reads as it did. -/
def fnLogCutsUptoRow : OpenClaim := { program := "ytbhbkaonlillhaagreatdoor", sum := "4810663a6c808a6bc9e3df783c814eb9df93dbb0fd13aeaf54c866325e566816", func := "loop.example/g00197/laws.FnLogCuts", spec := "fnLogCuts", inPlace := ["internal/bytealg.CountString", "internal/bytealg.IndexByteString", "internal/bytealg.IndexString", "internal/abi.NoEscape", "internal/bytealg.MakeNoZero"], unfollowed := true, recurses := true, named := ["unicode/utf8.first", "unicode/utf8.acceptRanges", "internal/bytealg.MaxLen"], apart := false, laid := [("unicode/utf8.acceptRanges", laid_unicode_utf8_acceptRanges), ("unicode/utf8.first", laid_unicode_utf8_first)], narrowed := true }
def FnLogCutsUptoSaid : Prop := fnLogCutsUptoRow.holds Tryz.pinned (OpenSpec.upto fnLogCutsSpec)

/-- 'laws.FnSchemaKept', WHERE WHAT IT READS IS OF BULK AT MOST 1048576: true; the input reads as it did. -/
def fnSchemaKeptUptoRow : OpenClaim := { program := "ytbhbkaonlillhaagreatdoor", sum := "4810663a6c808a6bc9e3df783c814eb9df93dbb0fd13aeaf54c866325e566816", func := "loop.example/g00197/laws.FnSchemaKept", spec := "fnSchemaKept", inPlace := ["internal/bytealg.CountString", "internal/bytealg.IndexByteString", "internal/bytealg.IndexString", "internal/abi.NoEscape", "internal/bytealg.MakeNoZero"], unfollowed := true, recurses := true, named := ["unicode/utf8.first", "unicode/utf8.acceptRanges", "internal/bytealg.MaxLen"], apart := false, laid := [("unicode/utf8.acceptRanges", laid_unicode_utf8_acceptRanges), ("unicode/utf8.first", laid_unicode_utf8_first)], narrowed := true }
def FnSchemaKeptUptoSaid : Prop := fnSchemaKeptUptoRow.holds Tryz.pinned (OpenSpec.upto fnSchemaKeptSpec)

/-- 'laws.FnQuotas', WHERE WHAT IT READS IS OF BULK AT MOST 1048576: true; the input reads as it did. -/
def fnQuotasUptoRow : OpenClaim := { program := "ytbhbkaonlillhaagreatdoor", sum := "4810663a6c808a6bc9e3df783c814eb9df93dbb0fd13aeaf54c866325e566816", func := "loop.example/g00197/laws.FnQuotas", spec := "fnQuotas", inPlace := ["internal/bytealg.CountString", "internal/bytealg.IndexByteString", "internal/bytealg.IndexString", "internal/abi.NoEscape", "internal/bytealg.MakeNoZero"], unfollowed := true, recurses := true, named := ["unicode/utf8.first", "unicode/utf8.acceptRanges", "internal/bytealg.MaxLen"], apart := false, laid := [("unicode/utf8.acceptRanges", laid_unicode_utf8_acceptRanges), ("unicode/utf8.first", laid_unicode_utf8_first)], narrowed := true }
def FnQuotasUptoSaid : Prop := fnQuotasUptoRow.holds Tryz.pinned (OpenSpec.upto fnQuotasSpec)

/-- 'laws.FnExactGroupsAfter', WHERE WHAT IT READS IS OF BULK AT MOST 1048576: true; the input reads as it did. -/
def fnExactGroupsAfterUptoRow : OpenClaim := { program := "ytbhbkaonlillhaagreatdoor", sum := "4810663a6c808a6bc9e3df783c814eb9df93dbb0fd13aeaf54c866325e566816", func := "loop.example/g00197/laws.FnExactGroupsAfter", spec := "fnExactGroupsAfter", inPlace := ["internal/bytealg.CountString", "internal/bytealg.IndexByteString", "internal/bytealg.IndexString", "internal/abi.NoEscape", "internal/bytealg.MakeNoZero"], unfollowed := true, recurses := true, named := ["unicode/utf8.first", "unicode/utf8.acceptRanges", "internal/bytealg.MaxLen"], apart := false, laid := [("unicode/utf8.acceptRanges", laid_unicode_utf8_acceptRanges), ("unicode/utf8.first", laid_unicode_utf8_first)], narrowed := true }
def FnExactGroupsAfterUptoSaid : Prop := fnExactGroupsAfterUptoRow.holds Tryz.pinned (OpenSpec.upto fnExactGroupsAfterSpec)

/-- 'laws.FnMoved', WHERE WHAT IT READS IS OF BULK AT MOST 1048576: true; the input reads as it did. -/
def fnMovedUptoRow : OpenClaim := { program := "ytbhbkaonlillhaagreatdoor", sum := "4810663a6c808a6bc9e3df783c814eb9df93dbb0fd13aeaf54c866325e566816", func := "loop.example/g00197/laws.FnMoved", spec := "fnMoved", inPlace := ["internal/bytealg.CountString", "internal/bytealg.IndexByteString", "internal/bytealg.IndexString", "internal/abi.NoEscape", "internal/bytealg.MakeNoZero"], unfollowed := true, recurses := true, named := ["unicode/utf8.first", "unicode/utf8.acceptRanges", "internal/bytealg.MaxLen"], apart := false, laid := [("unicode/utf8.acceptRanges", laid_unicode_utf8_acceptRanges), ("unicode/utf8.first", laid_unicode_utf8_first)], narrowed := true }
def FnMovedUptoSaid : Prop := fnMovedUptoRow.holds Tryz.pinned (OpenSpec.upto fnMovedSpec)

/-- 'laws.FnFinds', WHERE WHAT IT READS IS OF BULK AT MOST 1048576: true; the input reads as it did. -/
def fnFindsUptoRow : OpenClaim := { program := "ytbhbkaonlillhaagreatdoor", sum := "4810663a6c808a6bc9e3df783c814eb9df93dbb0fd13aeaf54c866325e566816", func := "loop.example/g00197/laws.FnFinds", spec := "fnFinds", inPlace := ["internal/abi.NoEscape", "internal/bytealg.MakeNoZero", "internal/bytealg.CountString", "internal/bytealg.IndexByteString", "internal/bytealg.IndexString"], unfollowed := true, recurses := true, named := ["unicode/utf8.first", "unicode/utf8.acceptRanges", "internal/bytealg.MaxLen"], apart := false, laid := [("unicode/utf8.acceptRanges", laid_unicode_utf8_acceptRanges), ("unicode/utf8.first", laid_unicode_utf8_first)], narrowed := true }
def FnFindsUptoSaid : Prop := fnFindsUptoRow.holds Tryz.pinned (OpenSpec.upto fnFindsSpec)

/-- 'laws.FnExactApply', WHERE WHAT IT READS IS OF BULK AT MOST 1048576: true; the input reads as it did. -/
def fnExactApplyUptoRow : OpenClaim := { program := "ytbhbkaonlillhaagreatdoor", sum := "4810663a6c808a6bc9e3df783c814eb9df93dbb0fd13aeaf54c866325e566816", func := "loop.example/g00197/laws.FnExactApply", spec := "fnExactApply", inPlace := ["internal/bytealg.CountString", "internal/bytealg.IndexByteString", "internal/bytealg.IndexString", "internal/abi.NoEscape", "internal/bytealg.MakeNoZero"], unfollowed := true, recurses := true, named := ["unicode/utf8.first", "unicode/utf8.acceptRanges", "internal/bytealg.MaxLen"], apart := false, laid := [("unicode/utf8.acceptRanges", laid_unicode_utf8_acceptRanges), ("unicode/utf8.first", laid_unicode_utf8_first)], narrowed := true }
def FnExactApplyUptoSaid : Prop := fnExactApplyUptoRow.holds Tryz.pinned (OpenSpec.upto fnExactApplySpec)

/-- 'laws.FnExactApplyAll', WHERE WHAT IT READS IS OF BULK AT MOST 1048576: true; the input reads as it did. -/
def fnExactApplyAllUptoRow : OpenClaim := { program := "ytbhbkaonlillhaagreatdoor", sum := "4810663a6c808a6bc9e3df783c814eb9df93dbb0fd13aeaf54c866325e566816", func := "loop.example/g00197/laws.FnExactApplyAll", spec := "fnExactApplyAll", inPlace := ["internal/bytealg.CountString", "internal/bytealg.IndexByteString", "internal/bytealg.IndexString", "internal/abi.NoEscape", "internal/bytealg.MakeNoZero"], unfollowed := true, recurses := true, named := ["unicode/utf8.first", "unicode/utf8.acceptRanges", "internal/bytealg.MaxLen"], apart := false, laid := [("unicode/utf8.acceptRanges", laid_unicode_utf8_acceptRanges), ("unicode/utf8.first", laid_unicode_utf8_first)], narrowed := true }
def FnExactApplyAllUptoSaid : Prop := fnExactApplyAllUptoRow.holds Tryz.pinned (OpenSpec.upto fnExactApplyAllSpec)

/-- 'laws.FnAppliedAll', WHERE WHAT IT READS IS OF BULK AT MOST 1048576: true; the input reads as it did. -/
def fnAppliedAllUptoRow : OpenClaim := { program := "ytbhbkaonlillhaagreatdoor", sum := "4810663a6c808a6bc9e3df783c814eb9df93dbb0fd13aeaf54c866325e566816", func := "loop.example/g00197/laws.FnAppliedAll", spec := "fnAppliedAll", inPlace := ["internal/bytealg.CountString", "internal/bytealg.IndexByteString", "internal/bytealg.IndexString", "internal/abi.NoEscape", "internal/bytealg.MakeNoZero"], unfollowed := true, recurses := true, named := ["unicode/utf8.first", "unicode/utf8.acceptRanges", "internal/bytealg.MaxLen"], apart := false, laid := [("unicode/utf8.acceptRanges", laid_unicode_utf8_acceptRanges), ("unicode/utf8.first", laid_unicode_utf8_first)], narrowed := true }
def FnAppliedAllUptoSaid : Prop := fnAppliedAllUptoRow.holds Tryz.pinned (OpenSpec.upto fnAppliedAllSpec)

/-- 'laws.FnLogs', WHERE WHAT IT READS IS OF BULK AT MOST 1048576: true; the input reads as it did. -/
def fnLogsUptoRow : OpenClaim := { program := "ytbhbkaonlillhaagreatdoor", sum := "4810663a6c808a6bc9e3df783c814eb9df93dbb0fd13aeaf54c866325e566816", func := "loop.example/g00197/laws.FnLogs", spec := "fnLogs", inPlace := ["internal/bytealg.CountString", "internal/bytealg.IndexByteString", "internal/bytealg.IndexString", "internal/abi.NoEscape", "internal/bytealg.MakeNoZero"], unfollowed := true, recurses := true, named := ["unicode/utf8.first", "unicode/utf8.acceptRanges", "internal/bytealg.MaxLen"], apart := false, laid := [("unicode/utf8.acceptRanges", laid_unicode_utf8_acceptRanges), ("unicode/utf8.first", laid_unicode_utf8_first)], narrowed := true }
def FnLogsUptoSaid : Prop := fnLogsUptoRow.holds Tryz.pinned (OpenSpec.upto fnLogsSpec)

/-- 'laws.FnApplied', WHERE WHAT IT READS IS OF BULK AT MOST 1048576: true; the input reads as it did. -/
def fnAppliedUptoRow : OpenClaim := { program := "ytbhbkaonlillhaagreatdoor", sum := "4810663a6c808a6bc9e3df783c814eb9df93dbb0fd13aeaf54c866325e566816", func := "loop.example/g00197/laws.FnApplied", spec := "fnApplied", inPlace := ["internal/bytealg.CountString", "internal/bytealg.IndexByteString", "internal/bytealg.IndexString", "internal/abi.NoEscape", "internal/bytealg.MakeNoZero"], unfollowed := true, recurses := true, named := ["unicode/utf8.first", "unicode/utf8.acceptRanges", "internal/bytealg.MaxLen"], apart := false, laid := [("unicode/utf8.acceptRanges", laid_unicode_utf8_acceptRanges), ("unicode/utf8.first", laid_unicode_utf8_first)], narrowed := true }
def FnAppliedUptoSaid : Prop := fnAppliedUptoRow.holds Tryz.pinned (OpenSpec.upto fnAppliedSpec)

/-- 'laws.FnExactRecover', WHERE WHAT IT READS IS OF BULK AT MOST 1048576: true; the input reads as it did. -/
def fnExactRecoverUptoRow : OpenClaim := { program := "ytbhbkaonlillhaagreatdoor", sum := "4810663a6c808a6bc9e3df783c814eb9df93dbb0fd13aeaf54c866325e566816", func := "loop.example/g00197/laws.FnExactRecover", spec := "fnExactRecover", inPlace := ["internal/bytealg.CountString", "internal/bytealg.IndexByteString", "internal/bytealg.IndexString", "internal/abi.NoEscape", "internal/bytealg.MakeNoZero"], unfollowed := true, recurses := true, named := ["unicode/utf8.first", "unicode/utf8.acceptRanges", "internal/bytealg.MaxLen"], apart := false, laid := [("unicode/utf8.acceptRanges", laid_unicode_utf8_acceptRanges), ("unicode/utf8.first", laid_unicode_utf8_first)], narrowed := true }
def FnExactRecoverUptoSaid : Prop := fnExactRecoverUptoRow.holds Tryz.pinned (OpenSpec.upto fnExactRecoverSpec)

end Rows
end Go.Proofs.YtbhbkaonlillhaaGreatDoor
