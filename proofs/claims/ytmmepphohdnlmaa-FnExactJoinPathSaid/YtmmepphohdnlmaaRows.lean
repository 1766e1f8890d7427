/-
  No cell of these rows narrows 'for every input' (looked for: loops, veiled, ifaces, maps, wideKeys, modest, calm, conditions, laid).
  DERIVED. THE GIVEN ROWS OF THIS SEAT. 12 by the template 'for every input the law returns true; each argument reads behind the call as it read before'; 0 by the template 'total and deterministic' (their statements: YtmmepphohdnlmaaTotals.lean).
  GIVEN WITH THE SEED: the statements are not yours to turn. If you find one false, say at which input.
  Laid BY PROGRAM, IN A SANDBOX (cutbox-rows.mjs): the forced cells as the released guide's own fill.sh prints them over the translation c8fd4b0984d810e3… (all of the seat's roots in one cut). By AI agents, Wed Nov 11 2026. No macro, syntax, notation, axiom, sorry.
-/
import Derived.Test.YtmmepphohdnlmaaChecked
import GoSem.Claim
import GoSem.ClaimJoined
import GoSem.ClaimMapViews
import Derived.JoinedTies
import Derived.KernelRfl
namespace Go.Proofs.Ytmmepphohdnlmaa
/- THE CELL 'sum', in the pinned program and in every row, IS THE sha256 OF THE DUMP (.gsa) THAT YtmmepphohdnlmaaProg.lean LOADS. Nothing in Lean hashes anything: it is a label: what it is worth is what the hold of that sum in a sandbox is worth. -/
noncomputable def Try.pinned : Pinned := { name := "ytmmepphohdnlmaa", sum := "c8fd4b0984d810e3ef727e15e45646b042166fa1b9d3b81ff5d17ec60cdff51e", checked := Try.checked }
namespace Rows
def none {H : Type} : Left H := { results := [], args := [] }

/-- 'laws.FnExactNameOk': WHATEVER THE INPUT: true; the input reads as it did. -/
def fnExactNameOkSpec : ChangeSpec := { name := "fnExactNameOk", fn := fun _ => fun
  | [d] => { results := [.lit (.bool true)], args := [d] }
  | _ => none }
def fnExactNameOkRow : OpenClaim := { program := "ytmmepphohdnlmaa", sum := "c8fd4b0984d810e3ef727e15e45646b042166fa1b9d3b81ff5d17ec60cdff51e", func := "loop.example/g00197/laws.FnExactNameOk", spec := "fnExactNameOk", apart := false }
def FnExactNameOkSaid : Prop := fnExactNameOkRow.holds Try.pinned (OpenSpec.ofChange fnExactNameOkSpec)

/-- ITS FALSE NEIGHBOUR: 'it returns false'. Refute it at one input. -/
def fnExactNameOkWrong : ChangeSpec := { name := "fnExactNameOk", fn := fun _ => fun
  | [d] => { results := [.lit (.bool false)], args := [d] }
  | _ => none }
def FnExactNameOkWrongFalsely : Prop := fnExactNameOkRow.holds Try.pinned (OpenSpec.ofChange fnExactNameOkWrong)

/-- 'laws.FnExactGroupSize': WHATEVER THE INPUT: true; the input reads as it did. -/
def fnExactGroupSizeSpec : ChangeSpec := { name := "fnExactGroupSize", fn := fun _ => fun
  | [d] => { results := [.lit (.bool true)], args := [d] }
  | _ => none }
def fnExactGroupSizeRow : OpenClaim := { program := "ytmmepphohdnlmaa", sum := "c8fd4b0984d810e3ef727e15e45646b042166fa1b9d3b81ff5d17ec60cdff51e", func := "loop.example/g00197/laws.FnExactGroupSize", spec := "fnExactGroupSize", apart := false }
def FnExactGroupSizeSaid : Prop := fnExactGroupSizeRow.holds Try.pinned (OpenSpec.ofChange fnExactGroupSizeSpec)

/-- ITS FALSE NEIGHBOUR: 'it returns false'. Refute it at one input. -/
def fnExactGroupSizeWrong : ChangeSpec := { name := "fnExactGroupSize", fn := fun _ => fun
  | [d] => { results := [.lit (.bool false)], args := [d] }
  | _ => none }
def FnExactGroupSizeWrongFalsely : Prop := fnExactGroupSizeRow.holds Try.pinned (OpenSpec.ofChange fnExactGroupSizeWrong)

/-- 'laws.FnExactSumText': WHATEVER THE INPUT: true; the input reads as it did. -/
def fnExactSumTextSpec : ChangeSpec := { name := "fnExactSumText", fn := fun _ => fun
  | [d] => { results := [.lit (.bool true)], args := [d] }
  | _ => none }
def fnExactSumTextRow : OpenClaim := { program := "ytmmepphohdnlmaa", sum := "c8fd4b0984d810e3ef727e15e45646b042166fa1b9d3b81ff5d17ec60cdff51e", func := "loop.example/g00197/laws.FnExactSumText", spec := "fnExactSumText", apart := false }
def FnExactSumTextSaid : Prop := fnExactSumTextRow.holds Try.pinned (OpenSpec.ofChange fnExactSumTextSpec)

/-- ITS FALSE NEIGHBOUR: 'it returns false'. Refute it at one input. -/
def fnExactSumTextWrong : ChangeSpec := { name := "fnExactSumText", fn := fun _ => fun
  | [d] => { results := [.lit (.bool false)], args := [d] }
  | _ => none }
def FnExactSumTextWrongFalsely : Prop := fnExactSumTextRow.holds Try.pinned (OpenSpec.ofChange fnExactSumTextWrong)

/-- 'laws.FnExactPlaceOf': WHATEVER THE INPUT: true; the input reads as it did. -/
def fnExactPlaceOfSpec : ChangeSpec := { name := "fnExactPlaceOf", fn := fun _ => fun
  | [d1, d2] => { results := [.lit (.bool true)], args := [d1, d2] }
  | _ => none }
def fnExactPlaceOfRow : OpenClaim := { program := "ytmmepphohdnlmaa", sum := "c8fd4b0984d810e3ef727e15e45646b042166fa1b9d3b81ff5d17ec60cdff51e", func := "loop.example/g00197/laws.FnExactPlaceOf", spec := "fnExactPlaceOf", apart := false }
def FnExactPlaceOfSaid : Prop := fnExactPlaceOfRow.holds Try.pinned (OpenSpec.ofChange fnExactPlaceOfSpec)

/-- ITS FALSE NEIGHBOUR: 'it returns false'. Refute it at one input. -/
def fnExactPlaceOfWrong : ChangeSpec := { name := "fnExactPlaceOf", fn := fun _ => fun
  | [d1, d2] => { results := [.lit (.bool false)], args := [d1, d2] }
  | _ => none }
def FnExactPlaceOfWrongFalsely : Prop := fnExactPlaceOfRow.holds Try.pinned (OpenSpec.ofChange fnExactPlaceOfWrong)

/-- 'laws.FnExactOffsetOf': WHATEVER THE INPUT: true; the input reads as it did. -/
def fnExactOffsetOfSpec : ChangeSpec := { name := "fnExactOffsetOf", fn := fun _ => fun
  | [d1, d2, d3, d4] => { results := [.lit (.bool true)], args := [d1, d2, d3, d4] }
  | _ => none }
def fnExactOffsetOfRow : OpenClaim := { program := "ytmmepphohdnlmaa", sum := "c8fd4b0984d810e3ef727e15e45646b042166fa1b9d3b81ff5d17ec60cdff51e", func := "loop.example/g00197/laws.FnExactOffsetOf", spec := "fnExactOffsetOf", apart := false }
def FnExactOffsetOfSaid : Prop := fnExactOffsetOfRow.holds Try.pinned (OpenSpec.ofChange fnExactOffsetOfSpec)

/-- ITS FALSE NEIGHBOUR: 'it returns false'. Refute it at one input. -/
def fnExactOffsetOfWrong : ChangeSpec := { name := "fnExactOffsetOf", fn := fun _ => fun
  | [d1, d2, d3, d4] => { results := [.lit (.bool false)], args := [d1, d2, d3, d4] }
  | _ => none }
def FnExactOffsetOfWrongFalsely : Prop := fnExactOffsetOfRow.holds Try.pinned (OpenSpec.ofChange fnExactOffsetOfWrong)

/-- 'laws.FnExactSpans': WHATEVER THE INPUT: true; the input reads as it did. -/
def fnExactSpansSpec : ChangeSpec := { name := "fnExactSpans", fn := fun _ => fun
  | [d1, d2] => { results := [.lit (.bool true)], args := [d1, d2] }
  | _ => none }
def fnExactSpansRow : OpenClaim := { program := "ytmmepphohdnlmaa", sum := "c8fd4b0984d810e3ef727e15e45646b042166fa1b9d3b81ff5d17ec60cdff51e", func := "loop.example/g00197/laws.FnExactSpans", spec := "fnExactSpans", apart := false }
def FnExactSpansSaid : Prop := fnExactSpansRow.holds Try.pinned (OpenSpec.ofChange fnExactSpansSpec)

/-- ITS FALSE NEIGHBOUR: 'it returns false'. Refute it at one input. -/
def fnExactSpansWrong : ChangeSpec := { name := "fnExactSpans", fn := fun _ => fun
  | [d1, d2] => { results := [.lit (.bool false)], args := [d1, d2] }
  | _ => none }
def FnExactSpansWrongFalsely : Prop := fnExactSpansRow.holds Try.pinned (OpenSpec.ofChange fnExactSpansWrong)

/-- 'laws.FnExactLoadOf': WHATEVER THE INPUT: true; the input reads as it did. -/
def fnExactLoadOfSpec : ChangeSpec := { name := "fnExactLoadOf", fn := fun _ => fun
  | [d] => { results := [.lit (.bool true)], args := [d] }
  | _ => none }
def fnExactLoadOfRow : OpenClaim := { program := "ytmmepphohdnlmaa", sum := "c8fd4b0984d810e3ef727e15e45646b042166fa1b9d3b81ff5d17ec60cdff51e", func := "loop.example/g00197/laws.FnExactLoadOf", spec := "fnExactLoadOf", apart := false }
def FnExactLoadOfSaid : Prop := fnExactLoadOfRow.holds Try.pinned (OpenSpec.ofChange fnExactLoadOfSpec)

/-- ITS FALSE NEIGHBOUR: 'it returns false'. Refute it at one input. -/
def fnExactLoadOfWrong : ChangeSpec := { name := "fnExactLoadOf", fn := fun _ => fun
  | [d] => { results := [.lit (.bool false)], args := [d] }
  | _ => none }
def FnExactLoadOfWrongFalsely : Prop := fnExactLoadOfRow.holds Try.pinned (OpenSpec.ofChange fnExactLoadOfWrong)

/-- 'laws.FnStripes': WHATEVER THE INPUT: true; the input reads as it did. -/
def fnStripesSpec : ChangeSpec := { name := "fnStripes", fn := fun _ => fun
  | [d] => { results := [.lit (.bool true)], args := [d] }
  | _ => none }
def fnStripesRow : OpenClaim := { program := "ytmmepphohdnlmaa", sum := "c8fd4b0984d810e3ef727e15e45646b042166fa1b9d3b81ff5d17ec60cdff51e", func := "loop.example/g00197/laws.FnStripes", spec := "fnStripes", apart := false }
def FnStripesSaid : Prop := fnStripesRow.holds Try.pinned (OpenSpec.ofChange fnStripesSpec)

/-- ITS FALSE NEIGHBOUR: 'it returns false'. Refute it at one input. -/
def fnStripesWrong : ChangeSpec := { name := "fnStripes", fn := fun _ => fun
  | [d] => { results := [.lit (.bool false)], args := [d] }
  | _ => none }
def FnStripesWrongFalsely : Prop := fnStripesRow.holds Try.pinned (OpenSpec.ofChange fnStripesWrong)

/-- 'laws.FnExactJoinPath': WHATEVER THE INPUT: true; the input reads as it did. -/
def fnExactJoinPathSpec : ChangeSpec := { name := "fnExactJoinPath", fn := fun _ => fun
  | [d] => { results := [.lit (.bool true)], args := [d] }
  | _ => none }
def fnExactJoinPathRow : OpenClaim := { program := "ytmmepphohdnlmaa", sum := "c8fd4b0984d810e3ef727e15e45646b042166fa1b9d3b81ff5d17ec60cdff51e", func := "loop.example/g00197/laws.FnExactJoinPath", spec := "fnExactJoinPath", inPlace := ["internal/abi.NoEscape", "internal/bytealg.MakeNoZero"], apart := false }
def FnExactJoinPathSaid : Prop := fnExactJoinPathRow.holds Try.pinned (OpenSpec.ofChange fnExactJoinPathSpec)

/-- ITS FALSE NEIGHBOUR: 'it returns false'. Refute it at one input. -/
def fnExactJoinPathWrong : ChangeSpec := { name := "fnExactJoinPath", fn := fun _ => fun
  | [d] => { results := [.lit (.bool false)], args := [d] }
  | _ => none }
def FnExactJoinPathWrongFalsely : Prop := fnExactJoinPathRow.holds Try.pinned (OpenSpec.ofChange fnExactJoinPathWrong)

/-- 'laws.FnExactJoinUnits': WHATEVER THE INPUT: true; the input reads as it did. -/
def fnExactJoinUnitsSpec : ChangeSpec := { name := "fnExactJoinUnits", fn := fun _ => fun
  | [d1, d2, d3] => { results := [.lit (.bool true)], args := [d1, d2, d3] }
  | _ => none }
def fnExactJoinUnitsRow : OpenClaim := { program := "ytmmepphohdnlmaa", sum := "c8fd4b0984d810e3ef727e15e45646b042166fa1b9d3b81ff5d17ec60cdff51e", func := "loop.example/g00197/laws.FnExactJoinUnits", spec := "fnExactJoinUnits", apart := false }
def FnExactJoinUnitsSaid : Prop := fnExactJoinUnitsRow.holds Try.pinned (OpenSpec.ofChange fnExactJoinUnitsSpec)

/-- ITS FALSE NEIGHBOUR: 'it returns false'. Refute it at one input. -/
def fnExactJoinUnitsWrong : ChangeSpec := { name := "fnExactJoinUnits", fn := fun _ => fun
  | [d1, d2, d3] => { results := [.lit (.bool false)], args := [d1, d2, d3] }
  | _ => none }
def FnExactJoinUnitsWrongFalsely : Prop := fnExactJoinUnitsRow.holds Try.pinned (OpenSpec.ofChange fnExactJoinUnitsWrong)

/-- 'laws.FnExactHostOk': WHATEVER THE INPUT: true; the input reads as it did. -/
def fnExactHostOkSpec : ChangeSpec := { name := "fnExactHostOk", fn := fun _ => fun
  | [d] => { results := [.lit (.bool true)], args := [d] }
  | _ => none }
def fnExactHostOkRow : OpenClaim := { program := "ytmmepphohdnlmaa", sum := "c8fd4b0984d810e3ef727e15e45646b042166fa1b9d3b81ff5d17ec60cdff51e", func := "loop.example/g00197/laws.FnExactHostOk", spec := "fnExactHostOk", apart := false }
def FnExactHostOkSaid : Prop := fnExactHostOkRow.holds Try.pinned (OpenSpec.ofChange fnExactHostOkSpec)

/-- ITS FALSE NEIGHBOUR: 'it returns false'. Refute it at one input. -/
def fnExactHostOkWrong : ChangeSpec := { name := "fnExactHostOk", fn := fun _ => fun
  | [d] => { results := [.lit (.bool false)], args := [d] }
  | _ => none }
def FnExactHostOkWrongFalsely : Prop := fnExactHostOkRow.holds Try.pinned (OpenSpec.ofChange fnExactHostOkWrong)

/-- 'laws.FnExactCutUnits': WHATEVER THE INPUT: true; the input reads as it did. -/
def fnExactCutUnitsSpec : ChangeSpec := { name := "fnExactCutUnits", fn := fun _ => fun
  | [d1, d2] => { results := [.lit (.bool true)], args := [d1, d2] }
  | _ => none }
def fnExactCutUnitsRow : OpenClaim := { program := "ytmmepphohdnlmaa", sum := "c8fd4b0984d810e3ef727e15e45646b042166fa1b9d3b81ff5d17ec60cdff51e", func := "loop.example/g00197/laws.FnExactCutUnits", spec := "fnExactCutUnits", apart := false }
def FnExactCutUnitsSaid : Prop := fnExactCutUnitsRow.holds Try.pinned (OpenSpec.ofChange fnExactCutUnitsSpec)

/-- ITS FALSE NEIGHBOUR: 'it returns false'. Refute it at one input. -/
def fnExactCutUnitsWrong : ChangeSpec := { name := "fnExactCutUnits", fn := fun _ => fun
  | [d1, d2] => { results := [.lit (.bool false)], args := [d1, d2] }
  | _ => none }
def FnExactCutUnitsWrongFalsely : Prop := fnExactCutUnitsRow.holds Try.pinned (OpenSpec.ofChange fnExactCutUnitsWrong)

/- THE SECOND FORM. 'bulk': how many values and letters a reading holds, each counted each time it is reached (what is shared counts as often as it is met; a slice's spare places count too). A statement '..UptoSaid' is the law's where the arguments, and the package variables that the reading takes, are together of bulk at most 1048576: NARROWER than '..Said'. Prove '..Said' where nothing that the law and all that it calls make is longer than what came in: it says more and counts as full. Else prove '..UptoSaid'. A law counts once. -/
mutual
def uptoBulk {H : Type} : DataW H → Nat
  | .lit (.string bytes) => bytes.length + 1
  | .lit _ => 1
  | .nil => 1
  | .ptr d => uptoBulk d + 1
  | .slice elems spare => uptoBulkAll elems + uptoBulkAll spare + 1
  | .agg parts => uptoBulkAll parts + 1
  | .iface _ d => uptoBulk d + 1
  | .map entries => uptoBulkEntries entries + 1
  | .held _ => 1
def uptoBulkAll {H : Type} : List (DataW H) → Nat
  | [] => 0
  | d :: r => uptoBulk d + uptoBulkAll r
def uptoBulkEntries {H : Type} : List (Lit × DataW H) → Nat
  | [] => 0
  | x :: r => uptoBulkEntry x + uptoBulkEntries r
def uptoBulkEntry {H : Type} : Lit × DataW H → Nat
  | (.string bytes, d) => bytes.length + uptoBulk d + 1
  | (_, d) => uptoBulk d + 1
 end
def uptoSmall : (H : Type) → List (DataW H) → Bool := fun _ ds => decide (uptoBulkAll ds ≤ 1048576)
def OpenSpec.upto (s : _root_.Go.ChangeSpec) : _root_.Go.OpenSpec := { _root_.Go.OpenSpec.ofChange s with cond := some uptoSmall }

/-- 'laws.FnExactNameOk', WHERE WHAT IT READS IS OF BULK AT MOST 1048576: true; the input reads as it did. -/
def fnExactNameOkUptoRow : OpenClaim := { program := "ytmmepphohdnlmaa", sum := "c8fd4b0984d810e3ef727e15e45646b042166fa1b9d3b81ff5d17ec60cdff51e", func := "loop.example/g00197/laws.FnExactNameOk", spec := "fnExactNameOk", apart := false, narrowed := true }
def FnExactNameOkUptoSaid : Prop := fnExactNameOkUptoRow.holds Try.pinned (OpenSpec.upto fnExactNameOkSpec)

/-- 'laws.FnExactGroupSize', WHERE WHAT IT READS IS OF BULK AT MOST 1048576: true; the input reads as it did. -/
def fnExactGroupSizeUptoRow : OpenClaim := { program := "ytmmepphohdnlmaa", sum := "c8fd4b0984d810e3ef727e15e45646b042166fa1b9d3b81ff5d17ec60cdff51e", func := "loop.example/g00197/laws.FnExactGroupSize", spec := "fnExactGroupSize", apart := false, narrowed := true }
def FnExactGroupSizeUptoSaid : Prop := fnExactGroupSizeUptoRow.holds Try.pinned (OpenSpec.upto fnExactGroupSizeSpec)

/-- 'laws.FnExactSumText', WHERE WHAT IT READS IS OF BULK AT MOST 1048576: true; the input reads as it did. -/
def fnExactSumTextUptoRow : OpenClaim := { program := "ytmmepphohdnlmaa", sum := "c8fd4b0984d810e3ef727e15e45646b042166fa1b9d3b81ff5d17ec60cdff51e", func := "loop.example/g00197/laws.FnExactSumText", spec := "fnExactSumText", apart := false, narrowed := true }
def FnExactSumTextUptoSaid : Prop := fnExactSumTextUptoRow.holds Try.pinned (OpenSpec.upto fnExactSumTextSpec)

/-- 'laws.FnExactPlaceOf', WHERE WHAT IT READS IS OF BULK AT MOST 1048576: true; the input reads as it did. -/
def fnExactPlaceOfUptoRow : OpenClaim := { program := "ytmmepphohdnlmaa", sum := "c8fd4b0984d810e3ef727e15e45646b042166fa1b9d3b81ff5d17ec60cdff51e", func := "loop.example/g00197/laws.FnExactPlaceOf", spec := "fnExactPlaceOf", apart := false, narrowed := true }
def FnExactPlaceOfUptoSaid : Prop := fnExactPlaceOfUptoRow.holds Try.pinned (OpenSpec.upto fnExactPlaceOfSpec)

/-- 'laws.FnExactOffsetOf', WHERE WHAT IT READS IS OF BULK AT MOST 1048576: true; the input reads as it did. -/
def fnExactOffsetOfUptoRow : OpenClaim := { program := "ytmmepphohdnlmaa", sum := "c8fd4b0984d810e3ef727e15e45646b042166fa1b9d3b81ff5d17ec60cdff51e", func := "loop.example/g00197/laws.FnExactOffsetOf", spec := "fnExactOffsetOf", apart := false, narrowed := true }
def FnExactOffsetOfUptoSaid : Prop := fnExactOffsetOfUptoRow.holds Try.pinned (OpenSpec.upto fnExactOffsetOfSpec)

/-- 'laws.FnExactSpans', WHERE WHAT IT READS IS OF BULK AT MOST 1048576: true; the input reads as it did. -/
def fnExactSpansUptoRow : OpenClaim := { program := "ytmmepphohdnlmaa", sum := "c8fd4b0984d810e3ef727e15e45646b042166fa1b9d3b81ff5d17ec60cdff51e", func := "loop.example/g00197/laws.FnExactSpans", spec := "fnExactSpans", apart := false, narrowed := true }
def FnExactSpansUptoSaid : Prop := fnExactSpansUptoRow.holds Try.pinned (OpenSpec.upto fnExactSpansSpec)

/-- 'laws.FnExactLoadOf', WHERE WHAT IT READS IS OF BULK AT MOST 1048576: true; the input reads as it did. -/
def fnExactLoadOfUptoRow : OpenClaim := { program := "ytmmepphohdnlmaa", sum := "c8fd4b0984d810e3ef727e15e45646b042166fa1b9d3b81ff5d17ec60cdff51e", func := "loop.example/g00197/laws.FnExactLoadOf", spec := "fnExactLoadOf", apart := false, narrowed := true }
def FnExactLoadOfUptoSaid : Prop := fnExactLoadOfUptoRow.holds Try.pinned (OpenSpec.upto fnExactLoadOfSpec)

/-- 'laws.FnStripes', WHERE WHAT IT READS IS OF BULK AT MOST 1048576: true; the input reads as it did. -/
def fnStripesUptoRow : OpenClaim := { program := "ytmmepphohdnlmaa", sum := "c8fd4b0984d810e3ef727e15e45646b042166fa1b9d3b81ff5d17ec60cdff51e", func := "loop.example/g00197/laws.FnStripes", spec := "fnStripes", apart := false, narrowed := true }
def FnStripesUptoSaid : Prop := fnStripesUptoRow.holds Try.pinned (OpenSpec.upto fnStripesSpec)

/-- 'laws.FnExactJoinPath', WHERE WHAT IT READS IS OF BULK AT MOST 1048576: true; the input reads as it did. -/
def fnExactJoinPathUptoRow : OpenClaim := { program := "ytmmepphohdnlmaa", sum := "c8fd4b0984d810e3ef727e15e45646b042166fa1b9d3b81ff5d17ec60cdff51e", func := "loop.example/g00197/laws.FnExactJoinPath", spec := "fnExactJoinPath", inPlace := ["internal/abi.NoEscape", "internal/bytealg.MakeNoZero"], apart := false, narrowed := true }
def FnExactJoinPathUptoSaid : Prop := fnExactJoinPathUptoRow.holds Try.pinned (OpenSpec.upto fnExactJoinPathSpec)

/-- 'laws.FnExactJoinUnits', WHERE WHAT IT READS IS OF BULK AT MOST 1048576: true; the input reads as it did. -/
def fnExactJoinUnitsUptoRow : OpenClaim := { program := "ytmmepphohdnlmaa", sum := "c8fd4b0984d810e3ef727e15e45646b042166fa1b9d3b81ff5d17ec60cdff51e", func := "loop.example/g00197/laws.FnExactJoinUnits", spec := "fnExactJoinUnits", apart := false, narrowed := true }
def FnExactJoinUnitsUptoSaid : Prop := fnExactJoinUnitsUptoRow.holds Try.pinned (OpenSpec.upto fnExactJoinUnitsSpec)

/-- 'laws.FnExactHostOk', WHERE WHAT IT READS IS OF BULK AT MOST 1048576: true; the input reads as it did. -/
def fnExactHostOkUptoRow : OpenClaim := { program := "ytmmepphohdnlmaa", sum := "c8fd4b0984d810e3ef727e15e45646b042166fa1b9d3b81ff5d17ec60cdff51e", func := "loop.example/g00197/laws.FnExactHostOk", spec := "fnExactHostOk", apart := false, narrowed := true }
def FnExactHostOkUptoSaid : Prop := fnExactHostOkUptoRow.holds Try.pinned (OpenSpec.upto fnExactHostOkSpec)

/-- 'laws.FnExactCutUnits', WHERE WHAT IT READS IS OF BULK AT MOST 1048576: true; the input reads as it did. -/
def fnExactCutUnitsUptoRow : OpenClaim := { program := "ytmmepphohdnlmaa", sum := "c8fd4b0984d810e3ef727e15e45646b042166fa1b9d3b81ff5d17ec60cdff51e", func := "loop.example/g00197/laws.FnExactCutUnits", spec := "fnExactCutUnits", apart := false, narrowed := true }
def FnExactCutUnitsUptoSaid : Prop := fnExactCutUnitsUptoRow.holds Try.pinned (OpenSpec.upto fnExactCutUnitsSpec)

end Rows
end Go.Proofs.Ytmmepphohdnlmaa
