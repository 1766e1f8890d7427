/-
  No cell of these rows narrows 'for every input' (looked for: loops, veiled, ifaces, maps, wideKeys, modest, calm, conditions, laid).
  DERIVED. THE GIVEN ROWS OF THIS SEAT. 7 by the template 'for every input the law returns true; each argument reads behind the call as it read before'; 0 by the template 'total and deterministic' (their statements: YtgmmihbogfcppaaTotals.lean).
  GIVEN WITH THE SEED: the statements are not yours to turn. If you find one false, say at which input.
  Laid BY PROGRAM, IN A SANDBOX (cutbox-rows.mjs): the forced cells as the released guide's own fill.sh prints them over the translation 018ba12c24f40f6f… (all of the seat's roots in one cut). By AI agents, Wed Nov 11 2026. No macro, syntax, notation, axiom, sorry.
-/
import Derived.Test.YtgmmihbogfcppaaChecked
import GoSem.Claim
import GoSem.ClaimJoined
import GoSem.ClaimMapViews
import Derived.JoinedTies
import Derived.KernelRfl
namespace Go.Proofs.Ytgmmihbogfcppaa
/- THE CELL 'sum', in the pinned program and in every row, IS THE sha256 OF THE DUMP (.gsa) THAT YtgmmihbogfcppaaProg.lean LOADS. Nothing in Lean hashes anything: it is a label: what it is worth is what the hold of that sum in a sandbox is worth. -/
noncomputable def Try.pinned : Pinned := { name := "ytgmmihbogfcppaa", sum := "018ba12c24f40f6f4d0a618e4da5468ebe6367501979bf5fdd0f853e6977004b", checked := Try.checked }
namespace Rows
def none {H : Type} : Left H := { results := [], args := [] }

/-- 'laws.FnCuts': WHATEVER THE INPUT: true; the input reads as it did. -/
def fnCutsSpec : ChangeSpec := { name := "fnCuts", fn := fun _ => fun
  | [d] => { results := [.lit (.bool true)], args := [d] }
  | _ => none }
def fnCutsRow : OpenClaim := { program := "ytgmmihbogfcppaa", sum := "018ba12c24f40f6f4d0a618e4da5468ebe6367501979bf5fdd0f853e6977004b", func := "loop.example/g00197/laws.FnCuts", spec := "fnCuts", apart := false }
def FnCutsSaid : Prop := fnCutsRow.holds Try.pinned (OpenSpec.ofChange fnCutsSpec)

/-- ITS FALSE NEIGHBOUR: 'it returns false'. Refute it at one input. -/
def fnCutsWrong : ChangeSpec := { name := "fnCuts", fn := fun _ => fun
  | [d] => { results := [.lit (.bool false)], args := [d] }
  | _ => none }
def FnCutsWrongFalsely : Prop := fnCutsRow.holds Try.pinned (OpenSpec.ofChange fnCutsWrong)

/-- 'laws.FnExactGetUnit': WHATEVER THE INPUT: true; the input reads as it did. -/
def fnExactGetUnitSpec : ChangeSpec := { name := "fnExactGetUnit", fn := fun _ => fun
  | [d1, d2, d3] => { results := [.lit (.bool true)], args := [d1, d2, d3] }
  | _ => none }
def fnExactGetUnitRow : OpenClaim := { program := "ytgmmihbogfcppaa", sum := "018ba12c24f40f6f4d0a618e4da5468ebe6367501979bf5fdd0f853e6977004b", func := "loop.example/g00197/laws.FnExactGetUnit", spec := "fnExactGetUnit", unfollowed := true, recurses := true, apart := false }
def FnExactGetUnitSaid : Prop := fnExactGetUnitRow.holds Try.pinned (OpenSpec.ofChange fnExactGetUnitSpec)

/-- ITS FALSE NEIGHBOUR: 'it returns false'. Refute it at one input. -/
def fnExactGetUnitWrong : ChangeSpec := { name := "fnExactGetUnit", fn := fun _ => fun
  | [d1, d2, d3] => { results := [.lit (.bool false)], args := [d1, d2, d3] }
  | _ => none }
def FnExactGetUnitWrongFalsely : Prop := fnExactGetUnitRow.holds Try.pinned (OpenSpec.ofChange fnExactGetUnitWrong)

/-- 'laws.FnExactDropUnit': WHATEVER THE INPUT: true; the input reads as it did. -/
def fnExactDropUnitSpec : ChangeSpec := { name := "fnExactDropUnit", fn := fun _ => fun
  | [d1, d2, d3] => { results := [.lit (.bool true)], args := [d1, d2, d3] }
  | _ => none }
def fnExactDropUnitRow : OpenClaim := { program := "ytgmmihbogfcppaa", sum := "018ba12c24f40f6f4d0a618e4da5468ebe6367501979bf5fdd0f853e6977004b", func := "loop.example/g00197/laws.FnExactDropUnit", spec := "fnExactDropUnit", unfollowed := true, recurses := true, apart := false }
def FnExactDropUnitSaid : Prop := fnExactDropUnitRow.holds Try.pinned (OpenSpec.ofChange fnExactDropUnitSpec)

/-- ITS FALSE NEIGHBOUR: 'it returns false'. Refute it at one input. -/
def fnExactDropUnitWrong : ChangeSpec := { name := "fnExactDropUnit", fn := fun _ => fun
  | [d1, d2, d3] => { results := [.lit (.bool false)], args := [d1, d2, d3] }
  | _ => none }
def FnExactDropUnitWrongFalsely : Prop := fnExactDropUnitRow.holds Try.pinned (OpenSpec.ofChange fnExactDropUnitWrong)

/-- 'laws.FnExactSpoil': WHATEVER THE INPUT: true; the input reads as it did. -/
def fnExactSpoilSpec : ChangeSpec := { name := "fnExactSpoil", fn := fun _ => fun
  | [d1, d2, d3, d4] => { results := [.lit (.bool true)], args := [d1, d2, d3, d4] }
  | _ => none }
def fnExactSpoilRow : OpenClaim := { program := "ytgmmihbogfcppaa", sum := "018ba12c24f40f6f4d0a618e4da5468ebe6367501979bf5fdd0f853e6977004b", func := "loop.example/g00197/laws.FnExactSpoil", spec := "fnExactSpoil", unfollowed := true, recurses := true, apart := false }
def FnExactSpoilSaid : Prop := fnExactSpoilRow.holds Try.pinned (OpenSpec.ofChange fnExactSpoilSpec)

/-- ITS FALSE NEIGHBOUR: 'it returns false'. Refute it at one input. -/
def fnExactSpoilWrong : ChangeSpec := { name := "fnExactSpoil", fn := fun _ => fun
  | [d1, d2, d3, d4] => { results := [.lit (.bool false)], args := [d1, d2, d3, d4] }
  | _ => none }
def FnExactSpoilWrongFalsely : Prop := fnExactSpoilRow.holds Try.pinned (OpenSpec.ofChange fnExactSpoilWrong)

/-- 'laws.FnExactPutUnit': WHATEVER THE INPUT: true; the input reads as it did. -/
def fnExactPutUnitSpec : ChangeSpec := { name := "fnExactPutUnit", fn := fun _ => fun
  | [d1, d2] => { results := [.lit (.bool true)], args := [d1, d2] }
  | _ => none }
def fnExactPutUnitRow : OpenClaim := { program := "ytgmmihbogfcppaa", sum := "018ba12c24f40f6f4d0a618e4da5468ebe6367501979bf5fdd0f853e6977004b", func := "loop.example/g00197/laws.FnExactPutUnit", spec := "fnExactPutUnit", inPlace := ["slices.overlaps[loop.example/g00197/impl.Unit]"], unfollowed := true, recurses := true, apart := false }
def FnExactPutUnitSaid : Prop := fnExactPutUnitRow.holds Try.pinned (OpenSpec.ofChange fnExactPutUnitSpec)

/-- ITS FALSE NEIGHBOUR: 'it returns false'. Refute it at one input. -/
def fnExactPutUnitWrong : ChangeSpec := { name := "fnExactPutUnit", fn := fun _ => fun
  | [d1, d2] => { results := [.lit (.bool false)], args := [d1, d2] }
  | _ => none }
def FnExactPutUnitWrongFalsely : Prop := fnExactPutUnitRow.holds Try.pinned (OpenSpec.ofChange fnExactPutUnitWrong)

/-- 'laws.FnUnits': WHATEVER THE INPUT: true; the input reads as it did. -/
def fnUnitsSpec : ChangeSpec := { name := "fnUnits", fn := fun _ => fun
  | [d] => { results := [.lit (.bool true)], args := [d] }
  | _ => none }
def fnUnitsRow : OpenClaim := { program := "ytgmmihbogfcppaa", sum := "018ba12c24f40f6f4d0a618e4da5468ebe6367501979bf5fdd0f853e6977004b", func := "loop.example/g00197/laws.FnUnits", spec := "fnUnits", inPlace := ["slices.overlaps[loop.example/g00197/impl.Unit]"], unfollowed := true, recurses := true, apart := false }
def FnUnitsSaid : Prop := fnUnitsRow.holds Try.pinned (OpenSpec.ofChange fnUnitsSpec)

/-- ITS FALSE NEIGHBOUR: 'it returns false'. Refute it at one input. -/
def fnUnitsWrong : ChangeSpec := { name := "fnUnits", fn := fun _ => fun
  | [d] => { results := [.lit (.bool false)], args := [d] }
  | _ => none }
def FnUnitsWrongFalsely : Prop := fnUnitsRow.holds Try.pinned (OpenSpec.ofChange fnUnitsWrong)

/-- 'laws.FnExactTreeNew': WHATEVER THE INPUT: true; the input reads as it did. -/
def fnExactTreeNewSpec : ChangeSpec := { name := "fnExactTreeNew", fn := fun _ => fun
  | [] => { results := [.lit (.bool true)], args := [] }
  | _ => none }
def fnExactTreeNewRow : OpenClaim := { program := "ytgmmihbogfcppaa", sum := "018ba12c24f40f6f4d0a618e4da5468ebe6367501979bf5fdd0f853e6977004b", func := "loop.example/g00197/laws.FnExactTreeNew", spec := "fnExactTreeNew", apart := false }
def FnExactTreeNewSaid : Prop := fnExactTreeNewRow.holds Try.pinned (OpenSpec.ofChange fnExactTreeNewSpec)

/-- ITS FALSE NEIGHBOUR: 'it returns false'. Refute it at one input. -/
def fnExactTreeNewWrong : ChangeSpec := { name := "fnExactTreeNew", fn := fun _ => fun
  | [] => { results := [.lit (.bool false)], args := [] }
  | _ => none }
def FnExactTreeNewWrongFalsely : Prop := fnExactTreeNewRow.holds Try.pinned (OpenSpec.ofChange fnExactTreeNewWrong)

/- THE SECOND FORM. 'bulk': how many values and letters a reading holds, each counted each time it is reached (what is shared counts as often as it is met; a slice's spare places count too). A statement '..UptoSaid' is the law's where the arguments, and the package variables that the reading takes, are together of bulk at most 1048576: NARROWER than '..Said'. Prove '..Said' where nothing that the law and all that it calls make is longer than what came in: it says more and counts as full. Else prove '..UptoSaid'. A law counts once. -/
mutual
def uptoBulk {H : Type} : DataW H → Nat
  | .lit (.string bytes) => bytes.length + 1
  | .lit _ => 1
  | .nil => 1
  | .ptr d => uptoBulk d + 1
  | .slice elems spare => uptoBulkAll elems + uptoBulkAll spare + 1
  | .agg parts => uptoBulkAll parts + 1
  | .iface _ d => uptoBulk d + 1
  | .map entries => uptoBulkEntries entries + 1
  | .held _ => 1
def uptoBulkAll {H : Type} : List (DataW H) → Nat
  | [] => 0
  | d :: r => uptoBulk d + uptoBulkAll r
def uptoBulkEntries {H : Type} : List (Lit × DataW H) → Nat
  | [] => 0
  | x :: r => uptoBulkEntry x + uptoBulkEntries r
def uptoBulkEntry {H : Type} : Lit × DataW H → Nat
  | (.string bytes, d) => bytes.length + uptoBulk d + 1
  | (_, d) => uptoBulk d + 1
 end
def uptoSmall : (H : Type) → List (DataW H) → Bool := fun _ ds => decide (uptoBulkAll ds ≤ 1048576)
def OpenSpec.upto (s : _root_.Go.ChangeSpec) : _root_.Go.OpenSpec := { _root_.Go.OpenSpec.ofChange s with cond := some uptoSmall }

/-- 'laws.FnCuts', WHERE WHAT IT READS IS OF BULK AT MOST 1048576: true; the input reads as it did. -/
def fnCutsUptoRow : OpenClaim := { program := "ytgmmihbogfcppaa", sum := "018ba12c24f40f6f4d0a618e4da5468ebe6367501979bf5fdd0f853e6977004b", func := "loop.example/g00197/laws.FnCuts", spec := "fnCuts", apart := false, narrowed := true }
def FnCutsUptoSaid : Prop := fnCutsUptoRow.holds Try.pinned (OpenSpec.upto fnCutsSpec)

/-- 'laws.FnExactGetUnit', WHERE WHAT IT READS IS OF BULK AT MOST 1048576: true; the input reads as it did. -/
def fnExactGetUnitUptoRow : OpenClaim := { program := "ytgmmihbogfcppaa", sum := "018ba12c24f40f6f4d0a618e4da5468ebe6367501979bf5fdd0f853e6977004b", func := "loop.example/g00197/laws.FnExactGetUnit", spec := "fnExactGetUnit", unfollowed := true, recurses := true, apart := false, narrowed := true }
def FnExactGetUnitUptoSaid : Prop := fnExactGetUnitUptoRow.holds Try.pinned (OpenSpec.upto fnExactGetUnitSpec)

/-- 'laws.FnExactDropUnit', WHERE WHAT IT READS IS OF BULK AT MOST 1048576: true; the input reads as it did. -/
def fnExactDropUnitUptoRow : OpenClaim := { program := "ytgmmihbogfcppaa", sum := "018ba12c24f40f6f4d0a618e4da5468ebe6367501979bf5fdd0f853e6977004b", func := "loop.example/g00197/laws.FnExactDropUnit", spec := "fnExactDropUnit", unfollowed := true, recurses := true, apart := false, narrowed := true }
def FnExactDropUnitUptoSaid : Prop := fnExactDropUnitUptoRow.holds Try.pinned (OpenSpec.upto fnExactDropUnitSpec)

/-- 'laws.FnExactSpoil', WHERE WHAT IT READS IS OF BULK AT MOST 1048576: true; the input reads as it did. -/
def fnExactSpoilUptoRow : OpenClaim := { program := "ytgmmihbogfcppaa", sum := "018ba12c24f40f6f4d0a618e4da5468ebe6367501979bf5fdd0f853e6977004b", func := "loop.example/g00197/laws.FnExactSpoil", spec := "fnExactSpoil", unfollowed := true, recurses := true, apart := false, narrowed := true }
def FnExactSpoilUptoSaid : Prop := fnExactSpoilUptoRow.holds Try.pinned (OpenSpec.upto fnExactSpoilSpec)

/-- 'laws.FnExactPutUnit', WHERE WHAT IT READS IS OF BULK AT MOST 1048576: true; the input reads as it did. -/
def fnExactPutUnitUptoRow : OpenClaim := { program := "ytgmmihbogfcppaa", sum := "018ba12c24f40f6f4d0a618e4da5468ebe6367501979bf5fdd0f853e6977004b", func := "loop.example/g00197/laws.FnExactPutUnit", spec := "fnExactPutUnit", inPlace := ["slices.overlaps[loop.example/g00197/impl.Unit]"], unfollowed := true, recurses := true, apart := false, narrowed := true }
def FnExactPutUnitUptoSaid : Prop := fnExactPutUnitUptoRow.holds Try.pinned (OpenSpec.upto fnExactPutUnitSpec)

/-- 'laws.FnUnits', WHERE WHAT IT READS IS OF BULK AT MOST 1048576: true; the input reads as it did. -/
def fnUnitsUptoRow : OpenClaim := { program := "ytgmmihbogfcppaa", sum := "018ba12c24f40f6f4d0a618e4da5468ebe6367501979bf5fdd0f853e6977004b", func := "loop.example/g00197/laws.FnUnits", spec := "fnUnits", inPlace := ["slices.overlaps[loop.example/g00197/impl.Unit]"], unfollowed := true, recurses := true, apart := false, narrowed := true }
def FnUnitsUptoSaid : Prop := fnUnitsUptoRow.holds Try.pinned (OpenSpec.upto fnUnitsSpec)

/-- 'laws.FnExactTreeNew', WHERE WHAT IT READS IS OF BULK AT MOST 1048576: true; the input reads as it did. -/
def fnExactTreeNewUptoRow : OpenClaim := { program := "ytgmmihbogfcppaa", sum := "018ba12c24f40f6f4d0a618e4da5468ebe6367501979bf5fdd0f853e6977004b", func := "loop.example/g00197/laws.FnExactTreeNew", spec := "fnExactTreeNew", apart := false, narrowed := true }
def FnExactTreeNewUptoSaid : Prop := fnExactTreeNewUptoRow.holds Try.pinned (OpenSpec.upto fnExactTreeNewSpec)

end Rows
end Go.Proofs.Ytgmmihbogfcppaa
