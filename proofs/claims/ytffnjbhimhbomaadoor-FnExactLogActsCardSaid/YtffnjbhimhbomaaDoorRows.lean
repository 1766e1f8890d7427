/-
  NARROWER THAN 'FOR EVERY INPUT', by the rows' own cells (each row's printed sentence says how): FnExactSplitPath: laid · FnExactParentPath: laid · FnExactEditOk: laid · FnExactEditText: laid · FnExactReadEdit: laid · FnExactLogActs: laid · FnExactReadLog: laid.
  DERIVED. THE GIVEN ROWS OF THIS SEAT. 7 by the template 'for every input the law returns true; each argument reads behind the call as it read before'; 0 by the template 'total and deterministic' (their statements: YtffnjbhimhbomaaDoorTotals.lean).
  GIVEN WITH THE SEED: the statements are not yours to turn. If you find one false, say at which input.
  Laid BY PROGRAM, IN A SANDBOX (cutbox-rows.mjs): the forced cells as the released guide's own fill.sh prints them over the translation c2567a466bfa95b2… (all of the seat's roots in one cut). By AI agents, Wed Nov 11 2026. No macro, syntax, notation, axiom, sorry.
-/
import Derived.Test.YtffnjbhimhbomaaDoorChecked
import GoSem.PinnedTables
import GoSem.Claim
import GoSem.ClaimJoined
import GoSem.ClaimMapViews
import Derived.JoinedTies
import Derived.KernelRfl
namespace Go.Proofs.YtffnjbhimhbomaaDoor
/- THE CELL 'sum', in the pinned program and in every row, IS THE sha256 OF THE DUMP (.gsa) THAT YtffnjbhimhbomaaDoorProg.lean LOADS. Nothing in Lean hashes anything: it is a label: what it is worth is what the hold of that sum in a sandbox is worth. -/
noncomputable def Tryd.pinned : Pinned := { name := "ytffnjbhimhbomaadoor", sum := "c2567a466bfa95b27df891b035d455cceb42016b7ec41d88ec8df91f31623ab6", checked := Tryd.checked }
namespace Rows
def none {H : Type} : Left H := { results := [], args := [] }

/- WHAT THE LISTED PACKAGE-LEVEL VARIABLES READ AS WHEN THE CALL BEGINS. Each datum BY PROGRAM (the guide's laid-datum.mjs) off the statement by which the dump's own 'gosem.cut.vars' lays the variable. In a bare row this is a premise. The card (YtffnjbhimhbomaaDoorCards.lean) ties it to the program's text. -/
def laid_unicode_utf8_acceptRanges {H : Type} : DataW H := .agg [.agg [.lit (.int .u8 128), .lit (.int .u8 191)], .agg [.lit (.int .u8 160), .lit (.int .u8 191)], .agg [.lit (.int .u8 128), .lit (.int .u8 159)], .agg [.lit (.int .u8 144), .lit (.int .u8 191)], .agg [.lit (.int .u8 128), .lit (.int .u8 143)], .agg [.lit (.int .u8 0), .lit (.int .u8 0)], .agg [.lit (.int .u8 0), .lit (.int .u8 0)], .agg [.lit (.int .u8 0), .lit (.int .u8 0)], .agg [.lit (.int .u8 0), .lit (.int .u8 0)], .agg [.lit (.int .u8 0), .lit (.int .u8 0)], .agg [.lit (.int .u8 0), .lit (.int .u8 0)], .agg [.lit (.int .u8 0), .lit (.int .u8 0)], .agg [.lit (.int .u8 0), .lit (.int .u8 0)], .agg [.lit (.int .u8 0), .lit (.int .u8 0)], .agg [.lit (.int .u8 0), .lit (.int .u8 0)], .agg [.lit (.int .u8 0), .lit (.int .u8 0)]]
/-- One of Go's own tables, pinned by name: the form's constant. -/
def laid_unicode_utf8_first : DataW Unit := Go.Pinned.utf8First

/-- 'laws.FnExactSplitPath': WHATEVER THE INPUT: true; the input reads as it did. -/
def fnExactSplitPathSpec : ChangeSpec := { name := "fnExactSplitPath", fn := fun _ => fun
  | [d] => { results := [.lit (.bool true)], args := [d] }
  | _ => none }
def fnExactSplitPathRow : OpenClaim := { program := "ytffnjbhimhbomaadoor", sum := "c2567a466bfa95b27df891b035d455cceb42016b7ec41d88ec8df91f31623ab6", func := "loop.example/g00197/laws.FnExactSplitPath", spec := "fnExactSplitPath", inPlace := ["internal/bytealg.CountString", "internal/bytealg.IndexByteString", "internal/bytealg.IndexString"], unfollowed := true, recurses := true, named := ["unicode/utf8.first", "unicode/utf8.acceptRanges", "internal/bytealg.MaxLen"], apart := false, laid := [("unicode/utf8.acceptRanges", laid_unicode_utf8_acceptRanges), ("unicode/utf8.first", laid_unicode_utf8_first)] }
def FnExactSplitPathSaid : Prop := fnExactSplitPathRow.holds Tryd.pinned (OpenSpec.ofChange fnExactSplitPathSpec)

/-- ITS FALSE NEIGHBOUR: 'it returns false'. Refute it at one input. -/
def fnExactSplitPathWrong : ChangeSpec := { name := "fnExactSplitPath", fn := fun _ => fun
  | [d] => { results := [.lit (.bool false)], args := [d] }
  | _ => none }
def FnExactSplitPathWrongFalsely : Prop := fnExactSplitPathRow.holds Tryd.pinned (OpenSpec.ofChange fnExactSplitPathWrong)

/-- 'laws.FnExactParentPath': WHATEVER THE INPUT: true; the input reads as it did. -/
def fnExactParentPathSpec : ChangeSpec := { name := "fnExactParentPath", fn := fun _ => fun
  | [d] => { results := [.lit (.bool true)], args := [d] }
  | _ => none }
def fnExactParentPathRow : OpenClaim := { program := "ytffnjbhimhbomaadoor", sum := "c2567a466bfa95b27df891b035d455cceb42016b7ec41d88ec8df91f31623ab6", func := "loop.example/g00197/laws.FnExactParentPath", spec := "fnExactParentPath", inPlace := ["internal/bytealg.CountString", "internal/bytealg.IndexByteString", "internal/bytealg.IndexString", "internal/abi.NoEscape", "internal/bytealg.MakeNoZero"], unfollowed := true, recurses := true, named := ["unicode/utf8.first", "unicode/utf8.acceptRanges", "internal/bytealg.MaxLen"], apart := false, laid := [("unicode/utf8.acceptRanges", laid_unicode_utf8_acceptRanges), ("unicode/utf8.first", laid_unicode_utf8_first)] }
def FnExactParentPathSaid : Prop := fnExactParentPathRow.holds Tryd.pinned (OpenSpec.ofChange fnExactParentPathSpec)

/-- ITS FALSE NEIGHBOUR: 'it returns false'. Refute it at one input. -/
def fnExactParentPathWrong : ChangeSpec := { name := "fnExactParentPath", fn := fun _ => fun
  | [d] => { results := [.lit (.bool false)], args := [d] }
  | _ => none }
def FnExactParentPathWrongFalsely : Prop := fnExactParentPathRow.holds Tryd.pinned (OpenSpec.ofChange fnExactParentPathWrong)

/-- 'laws.FnExactEditOk': WHATEVER THE INPUT: true; the input reads as it did. -/
def fnExactEditOkSpec : ChangeSpec := { name := "fnExactEditOk", fn := fun _ => fun
  | [d] => { results := [.lit (.bool true)], args := [d] }
  | _ => none }
def fnExactEditOkRow : OpenClaim := { program := "ytffnjbhimhbomaadoor", sum := "c2567a466bfa95b27df891b035d455cceb42016b7ec41d88ec8df91f31623ab6", func := "loop.example/g00197/laws.FnExactEditOk", spec := "fnExactEditOk", inPlace := ["internal/bytealg.CountString", "internal/bytealg.IndexByteString", "internal/bytealg.IndexString", "internal/abi.NoEscape", "internal/bytealg.MakeNoZero"], unfollowed := true, recurses := true, named := ["unicode/utf8.first", "unicode/utf8.acceptRanges", "internal/bytealg.MaxLen"], apart := false, laid := [("unicode/utf8.acceptRanges", laid_unicode_utf8_acceptRanges), ("unicode/utf8.first", laid_unicode_utf8_first)] }
def FnExactEditOkSaid : Prop := fnExactEditOkRow.holds Tryd.pinned (OpenSpec.ofChange fnExactEditOkSpec)

/-- ITS FALSE NEIGHBOUR: 'it returns false'. Refute it at one input. -/
def fnExactEditOkWrong : ChangeSpec := { name := "fnExactEditOk", fn := fun _ => fun
  | [d] => { results := [.lit (.bool false)], args := [d] }
  | _ => none }
def FnExactEditOkWrongFalsely : Prop := fnExactEditOkRow.holds Tryd.pinned (OpenSpec.ofChange fnExactEditOkWrong)

/-- 'laws.FnExactEditText': WHATEVER THE INPUT: true; the input reads as it did. -/
def fnExactEditTextSpec : ChangeSpec := { name := "fnExactEditText", fn := fun _ => fun
  | [d] => { results := [.lit (.bool true)], args := [d] }
  | _ => none }
def fnExactEditTextRow : OpenClaim := { program := "ytffnjbhimhbomaadoor", sum := "c2567a466bfa95b27df891b035d455cceb42016b7ec41d88ec8df91f31623ab6", func := "loop.example/g00197/laws.FnExactEditText", spec := "fnExactEditText", inPlace := ["internal/bytealg.CountString", "internal/bytealg.IndexByteString", "internal/bytealg.IndexString", "internal/abi.NoEscape", "internal/bytealg.MakeNoZero"], unfollowed := true, recurses := true, named := ["unicode/utf8.first", "unicode/utf8.acceptRanges", "internal/bytealg.MaxLen"], apart := false, laid := [("unicode/utf8.acceptRanges", laid_unicode_utf8_acceptRanges), ("unicode/utf8.first", laid_unicode_utf8_first)] }
def FnExactEditTextSaid : Prop := fnExactEditTextRow.holds Tryd.pinned (OpenSpec.ofChange fnExactEditTextSpec)

/-- ITS FALSE NEIGHBOUR: 'it returns false'. Refute it at one input. -/
def fnExactEditTextWrong : ChangeSpec := { name := "fnExactEditText", fn := fun _ => fun
  | [d] => { results := [.lit (.bool false)], args := [d] }
  | _ => none }
def FnExactEditTextWrongFalsely : Prop := fnExactEditTextRow.holds Tryd.pinned (OpenSpec.ofChange fnExactEditTextWrong)

/-- 'laws.FnExactReadEdit': WHATEVER THE INPUT: true; the input reads as it did. -/
def fnExactReadEditSpec : ChangeSpec := { name := "fnExactReadEdit", fn := fun _ => fun
  | [d] => { results := [.lit (.bool true)], args := [d] }
  | _ => none }
def fnExactReadEditRow : OpenClaim := { program := "ytffnjbhimhbomaadoor", sum := "c2567a466bfa95b27df891b035d455cceb42016b7ec41d88ec8df91f31623ab6", func := "loop.example/g00197/laws.FnExactReadEdit", spec := "fnExactReadEdit", inPlace := ["internal/bytealg.CountString", "internal/bytealg.IndexByteString", "internal/bytealg.IndexString", "internal/abi.NoEscape", "internal/bytealg.MakeNoZero"], unfollowed := true, recurses := true, named := ["unicode/utf8.first", "unicode/utf8.acceptRanges", "internal/bytealg.MaxLen"], apart := false, laid := [("unicode/utf8.acceptRanges", laid_unicode_utf8_acceptRanges), ("unicode/utf8.first", laid_unicode_utf8_first)] }
def FnExactReadEditSaid : Prop := fnExactReadEditRow.holds Tryd.pinned (OpenSpec.ofChange fnExactReadEditSpec)

/-- ITS FALSE NEIGHBOUR: 'it returns false'. Refute it at one input. -/
def fnExactReadEditWrong : ChangeSpec := { name := "fnExactReadEdit", fn := fun _ => fun
  | [d] => { results := [.lit (.bool false)], args := [d] }
  | _ => none }
def FnExactReadEditWrongFalsely : Prop := fnExactReadEditRow.holds Tryd.pinned (OpenSpec.ofChange fnExactReadEditWrong)

/-- 'laws.FnExactLogActs': WHATEVER THE INPUT: true; the input reads as it did. -/
def fnExactLogActsSpec : ChangeSpec := { name := "fnExactLogActs", fn := fun _ => fun
  | [d] => { results := [.lit (.bool true)], args := [d] }
  | _ => none }
def fnExactLogActsRow : OpenClaim := { program := "ytffnjbhimhbomaadoor", sum := "c2567a466bfa95b27df891b035d455cceb42016b7ec41d88ec8df91f31623ab6", func := "loop.example/g00197/laws.FnExactLogActs", spec := "fnExactLogActs", inPlace := ["internal/bytealg.CountString", "internal/bytealg.IndexByteString", "internal/bytealg.IndexString", "internal/abi.NoEscape", "internal/bytealg.MakeNoZero"], unfollowed := true, recurses := true, named := ["unicode/utf8.first", "unicode/utf8.acceptRanges", "internal/bytealg.MaxLen"], apart := false, laid := [("unicode/utf8.acceptRanges", laid_unicode_utf8_acceptRanges), ("unicode/utf8.first", laid_unicode_utf8_first)] }
def FnExactLogActsSaid : Prop := fnExactLogActsRow.holds Tryd.pinned (OpenSpec.ofChange fnExactLogActsSpec)

/-- ITS FALSE NEIGHBOUR: 'it returns false'. Refute it at one input. -/
def fnExactLogActsWrong : ChangeSpec := { name := "fnExactLogActs", fn := fun _ => fun
  | [d] => { results := [.lit (.bool false)], args := [d] }
  | _ => none }
def FnExactLogActsWrongFalsely : Prop := fnExactLogActsRow.holds Tryd.pinned (OpenSpec.ofChange fnExactLogActsWrong)

/-- 'laws.FnExactReadLog': WHATEVER THE INPUT: true; the input reads as it did. -/
def fnExactReadLogSpec : ChangeSpec := { name := "fnExactReadLog", fn := fun _ => fun
  | [d] => { results := [.lit (.bool true)], args := [d] }
  | _ => none }
def fnExactReadLogRow : OpenClaim := { program := "ytffnjbhimhbomaadoor", sum := "c2567a466bfa95b27df891b035d455cceb42016b7ec41d88ec8df91f31623ab6", func := "loop.example/g00197/laws.FnExactReadLog", spec := "fnExactReadLog", inPlace := ["internal/bytealg.CountString", "internal/bytealg.IndexByteString", "internal/bytealg.IndexString", "internal/abi.NoEscape", "internal/bytealg.MakeNoZero"], unfollowed := true, recurses := true, named := ["unicode/utf8.first", "unicode/utf8.acceptRanges", "internal/bytealg.MaxLen"], apart := false, laid := [("unicode/utf8.acceptRanges", laid_unicode_utf8_acceptRanges), ("unicode/utf8.first", laid_unicode_utf8_first)] }
def FnExactReadLogSaid : Prop := fnExactReadLogRow.holds Tryd.pinned (OpenSpec.ofChange fnExactReadLogSpec)

/-- ITS FALSE NEIGHBOUR: 'it returns false'. Refute it at one input. -/
def fnExactReadLogWrong : ChangeSpec := { name := "fnExactReadLog", fn := fun _ => fun
  | [d] => { results := [.lit (.bool false)], args := [d] }
  | _ => none }
def FnExactReadLogWrongFalsely : Prop := fnExactReadLogRow.holds Tryd.pinned (OpenSpec.ofChange fnExactReadLogWrong)

/- THE SECOND FORM. 'bulk': how many values and letters a reading holds, each counted each time it is reached (what is shared counts as often as it is met; a slice's spare places count too). A statement '..UptoSaid' is the law's where the arguments, and the package variables that the reading takes, are together of bulk at most 1048576: NARROWER than '..Said'. Prove '..Said' where nothing that the law and all that it calls make is longer than what came in: it says more and counts as full. Else prove '..UptoSaid'. A law counts once. -/
mutual
def uptoBulk {H : Type} : DataW H → Nat
  | .lit (.string bytes) => bytes.length + 1
  | .lit _ => 1
  | .nil => 1
  | .ptr d => uptoBulk d + 1
  | .slice elems spare => uptoBulkAll elems + uptoBulkAll spare + 1
  | .agg parts => uptoBulkAll parts + 1
  | .iface _ d => uptoBulk d + 1
  | .map entries => uptoBulkEntries entries + 1
  | .held _ => 1
def uptoBulkAll {H : Type} : List (DataW H) → Nat
  | [] => 0
  | d :: r => uptoBulk d + uptoBulkAll r
def uptoBulkEntries {H : Type} : List (Lit × DataW H) → Nat
  | [] => 0
  | x :: r => uptoBulkEntry x + uptoBulkEntries r
def uptoBulkEntry {H : Type} : Lit × DataW H → Nat
  | (.string bytes, d) => bytes.length + uptoBulk d + 1
  | (_, d) => uptoBulk d + 1
 end
def uptoSmall : (H : Type) → List (DataW H) → Bool := fun _ ds => decide (uptoBulkAll ds ≤ 1048576)
def OpenSpec.upto (s : _root_.Go.ChangeSpec) : _root_.Go.OpenSpec := { _root_.Go.OpenSpec.ofChange s with cond := some uptoSmall }

/-- 'laws.FnExactSplitPath', WHERE WHAT IT READS IS OF BULK AT MOST 1048576: true; the input reads as it did. -/
def fnExactSplitPathUptoRow : OpenClaim := { program := "ytffnjbhimhbomaadoor", sum := "c2567a466bfa95b27df891b035d455cceb42016b7ec41d88ec8df91f31623ab6", func := "loop.example/g00197/laws.FnExactSplitPath", spec := "fnExactSplitPath", inPlace := ["internal/bytealg.CountString", "internal/bytealg.IndexByteString", "internal/bytealg.IndexString"], unfollowed := true, recurses := true, named := ["unicode/utf8.first", "unicode/utf8.acceptRanges", "internal/bytealg.MaxLen"], apart := false, laid := [("unicode/utf8.acceptRanges", laid_unicode_utf8_acceptRanges), ("unicode/utf8.first", laid_unicode_utf8_first)], narrowed := true }
def FnExactSplitPathUptoSaid : Prop := fnExactSplitPathUptoRow.holds Tryd.pinned (OpenSpec.upto fnExactSplitPathSpec)

/-- 'laws.FnExactParentPath', WHERE WHAT IT READS IS OF BULK AT MOST 1048576: true; the input reads as it did. -/
def fnExactParentPathUptoRow : OpenClaim := { program := "ytffnjbhimhbomaadoor", sum := "c2567a466bfa95b27df891b035d455cceb42016b7ec41d88ec8df91f31623ab6", func := "loop.example/g00197/laws.FnExactParentPath", spec := "fnExactParentPath", inPlace := ["internal/bytealg.CountString", "internal/bytealg.IndexByteString", "internal/bytealg.IndexString", "internal/abi.NoEscape", "internal/bytealg.MakeNoZero"], unfollowed := true, recurses := true, named := ["unicode/utf8.first", "unicode/utf8.acceptRanges", "internal/bytealg.MaxLen"], apart := false, laid := [("unicode/utf8.acceptRanges", laid_unicode_utf8_acceptRanges), ("unicode/utf8.first", laid_unicode_utf8_first)], narrowed := true }
def FnExactParentPathUptoSaid : Prop := fnExactParentPathUptoRow.holds Tryd.pinned (OpenSpec.upto fnExactParentPathSpec)

/-- 'laws.FnExactEditOk', WHERE WHAT IT READS IS OF BULK AT MOST 1048576: true; the input reads as it did. -/
def fnExactEditOkUptoRow : OpenClaim := { program := "ytffnjbhimhbomaadoor", sum := "c2567a466bfa95b27df891b035d455cceb42016b7ec41d88ec8df91f31623ab6", func := "loop.example/g00197/laws.FnExactEditOk", spec := "fnExactEditOk", inPlace := ["internal/bytealg.CountString", "internal/bytealg.IndexByteString", "internal/bytealg.IndexString", "internal/abi.NoEscape", "internal/bytealg.MakeNoZero"], unfollowed := true, recurses := true, named := ["unicode/utf8.first", "unicode/utf8.acceptRanges", "internal/bytealg.MaxLen"], apart := false, laid := [("unicode/utf8.acceptRanges", laid_unicode_utf8_acceptRanges), ("unicode/utf8.first", laid_unicode_utf8_first)], narrowed := true }
def FnExactEditOkUptoSaid : Prop := fnExactEditOkUptoRow.holds Tryd.pinned (OpenSpec.upto fnExactEditOkSpec)

/-- 'laws.FnExactEditText', WHERE WHAT IT READS IS OF BULK AT MOST 1048576: true; the input reads as it did. -/
def fnExactEditTextUptoRow : OpenClaim := { program := "ytffnjbhimhbomaadoor", sum := "c2567a466bfa95b27df891b035d455cceb42016b7ec41d88ec8df91f31623ab6", func := "loop.example/g00197/laws.FnExactEditText", spec := "fnExactEditText", inPlace := ["internal/bytealg.CountString", "internal/bytealg.IndexByteString", "internal/bytealg.IndexString", "internal/abi.NoEscape", "internal/bytealg.MakeNoZero"], unfollowed := true, recurses := true, named := ["unicode/utf8.first", "unicode/utf8.acceptRanges", "internal/bytealg.MaxLen"], apart := false, laid := [("unicode/utf8.acceptRanges", laid_unicode_utf8_acceptRanges), ("unicode/utf8.first", laid_unicode_utf8_first)], narrowed := true }
def FnExactEditTextUptoSaid : Prop := fnExactEditTextUptoRow.holds Tryd.pinned (OpenSpec.upto fnExactEditTextSpec)

/-- 'laws.FnExactReadEdit', WHERE WHAT IT READS IS OF BULK AT MOST 1048576: true; the input reads as it did. -/
def fnExactReadEditUptoRow : OpenClaim := { program := "ytffnjbhimhbomaadoor", sum := "c2567a466bfa95b27df891b035d455cceb42016b7ec41d88ec8df91f31623ab6", func := "loop.example/g00197/laws.FnExactReadEdit", spec := "fnExactReadEdit", inPlace := ["internal/bytealg.CountString", "internal/bytealg.IndexByteString", "internal/bytealg.IndexString", "internal/abi.NoEscape", "internal/bytealg.MakeNoZero"], unfollowed := true, recurses := true, named := ["unicode/utf8.first", "unicode/utf8.acceptRanges", "internal/bytealg.MaxLen"], apart := false, laid := [("unicode/utf8.acceptRanges", laid_unicode_utf8_acceptRanges), ("unicode/utf8.first", laid_unicode_utf8_first)], narrowed := true }
def FnExactReadEditUptoSaid : Prop := fnExactReadEditUptoRow.holds Tryd.pinned (OpenSpec.upto fnExactReadEditSpec)

/-- 'laws.FnExactLogActs', WHERE WHAT IT READS IS OF BULK AT MOST 1048576: true; the input reads as it did. -/
def fnExactLogActsUptoRow : OpenClaim := { program := "ytffnjbhimhbomaadoor", sum := "c2567a466bfa95b27df891b035d455cceb42016b7ec41d88ec8df91f31623ab6", func := "loop.example/g00197/laws.FnExactLogActs", spec := "fnExactLogActs", inPlace := ["internal/bytealg.CountString", "internal/bytealg.IndexByteString", "internal/bytealg.IndexString", "internal/abi.NoEscape", "internal/bytealg.MakeNoZero"], unfollowed := true, recurses := true, named := ["unicode/utf8.first", "unicode/utf8.acceptRanges", "internal/bytealg.MaxLen"], apart := false, laid := [("unicode/utf8.acceptRanges", laid_unicode_utf8_acceptRanges), ("unicode/utf8.first", laid_unicode_utf8_first)], narrowed := true }
def FnExactLogActsUptoSaid : Prop := fnExactLogActsUptoRow.holds Tryd.pinned (OpenSpec.upto fnExactLogActsSpec)

/-- 'laws.FnExactReadLog', WHERE WHAT IT READS IS OF BULK AT MOST 1048576: true; the input reads as it did. -/
def fnExactReadLogUptoRow : OpenClaim := { program := "ytffnjbhimhbomaadoor", sum := "c2567a466bfa95b27df891b035d455cceb42016b7ec41d88ec8df91f31623ab6", func := "loop.example/g00197/laws.FnExactReadLog", spec := "fnExactReadLog", inPlace := ["internal/bytealg.CountString", "internal/bytealg.IndexByteString", "internal/bytealg.IndexString", "internal/abi.NoEscape", "internal/bytealg.MakeNoZero"], unfollowed := true, recurses := true, named := ["unicode/utf8.first", "unicode/utf8.acceptRanges", "internal/bytealg.MaxLen"], apart := false, laid := [("unicode/utf8.acceptRanges", laid_unicode_utf8_acceptRanges), ("unicode/utf8.first", laid_unicode_utf8_first)], narrowed := true }
def FnExactReadLogUptoSaid : Prop := fnExactReadLogUptoRow.holds Tryd.pinned (OpenSpec.upto fnExactReadLogSpec)

end Rows
end Go.Proofs.YtffnjbhimhbomaaDoor
