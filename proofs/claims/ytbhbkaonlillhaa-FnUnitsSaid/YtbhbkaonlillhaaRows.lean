/-
  No cell of these rows narrows 'for every input' (looked for: loops, veiled, ifaces, maps, wideKeys, modest, calm, conditions, laid).
  DERIVED. THE GIVEN ROWS OF THIS SEAT. 7 by the template 'for every input the law returns true; each argument reads behind the call as it read before'; 0 by the template 'total and deterministic' (their statements: YtbhbkaonlillhaaTotals.lean).
  GIVEN WITH THE SEED: the statements are not yours to turn. If you find one false, say at which input.
  Laid BY PROGRAM, IN A SANDBOX (cutbox-rows.mjs): the forced cells as the released guide's own fill.sh prints them over the translation 2f7dd6c4e1721723… (all of the seat's roots in one cut). By AI agents, Wed Nov 11 2026. No macro, syntax, notation, axiom, sorry.
-/
import Derived.Test.YtbhbkaonlillhaaChecked
import GoSem.Claim
import GoSem.ClaimJoined
import GoSem.ClaimMapViews
import Derived.JoinedTies
import Derived.KernelRfl
namespace Go.Proofs.Ytbhbkaonlillhaa
/- THE CELL 'sum', in the pinned program and in every row, IS THE sha256 OF THE DUMP (.gsa) THAT YtbhbkaonlillhaaProg.lean LOADS. Nothing in Lean hashes anything: it is a label: what it is worth is what the hold of that sum in a sandbox is worth. -/
noncomputable def Try.pinned : Pinned := { name := "ytbhbkaonlillhaa", sum := "2f7dd6c4e17217236ef4dd1ce5ced03df4c572b3d6589cb029a8f378bc08036a", checked := Try.checked }
namespace Rows
def none {H : Type} : Left H := { results := [], args := [] }

/-- 'laws.FnExactSpoil': WHATEVER THE INPUT: true; the input reads as it did. -/
def fnExactSpoilSpec : ChangeSpec := { name := "fnExactSpoil", fn := fun _ => fun
  | [d1, d2, d3, d4] => { results := [.lit (.bool true)], args := [d1, d2, d3, d4] }
  | _ => none }
def fnExactSpoilRow : OpenClaim := { program := "ytbhbkaonlillhaa", sum := "2f7dd6c4e17217236ef4dd1ce5ced03df4c572b3d6589cb029a8f378bc08036a", func := "loop.example/g00197/laws.FnExactSpoil", spec := "fnExactSpoil", unfollowed := true, recurses := true, apart := false }
def FnExactSpoilSaid : Prop := fnExactSpoilRow.holds Try.pinned (OpenSpec.ofChange fnExactSpoilSpec)

/-- ITS FALSE NEIGHBOUR: 'it returns false'. Refute it at one input. -/
def fnExactSpoilWrong : ChangeSpec := { name := "fnExactSpoil", fn := fun _ => fun
  | [d1, d2, d3, d4] => { results := [.lit (.bool false)], args := [d1, d2, d3, d4] }
  | _ => none }
def FnExactSpoilWrongFalsely : Prop := fnExactSpoilRow.holds Try.pinned (OpenSpec.ofChange fnExactSpoilWrong)

/-- 'laws.FnExactPutUnit': WHATEVER THE INPUT: true; the input reads as it did. -/
def fnExactPutUnitSpec : ChangeSpec := { name := "fnExactPutUnit", fn := fun _ => fun
  | [d1, d2] => { results := [.lit (.bool true)], args := [d1, d2] }
  | _ => none }
def fnExactPutUnitRow : OpenClaim := { program := "ytbhbkaonlillhaa", sum := "2f7dd6c4e17217236ef4dd1ce5ced03df4c572b3d6589cb029a8f378bc08036a", func := "loop.example/g00197/laws.FnExactPutUnit", spec := "fnExactPutUnit", inPlace := ["slices.overlaps[loop.example/g00197/impl.Unit]"], unfollowed := true, recurses := true, apart := false }
def FnExactPutUnitSaid : Prop := fnExactPutUnitRow.holds Try.pinned (OpenSpec.ofChange fnExactPutUnitSpec)

/-- ITS FALSE NEIGHBOUR: 'it returns false'. Refute it at one input. -/
def fnExactPutUnitWrong : ChangeSpec := { name := "fnExactPutUnit", fn := fun _ => fun
  | [d1, d2] => { results := [.lit (.bool false)], args := [d1, d2] }
  | _ => none }
def FnExactPutUnitWrongFalsely : Prop := fnExactPutUnitRow.holds Try.pinned (OpenSpec.ofChange fnExactPutUnitWrong)

/-- 'laws.FnUnits': WHATEVER THE INPUT: true; the input reads as it did. -/
def fnUnitsSpec : ChangeSpec := { name := "fnUnits", fn := fun _ => fun
  | [d] => { results := [.lit (.bool true)], args := [d] }
  | _ => none }
def fnUnitsRow : OpenClaim := { program := "ytbhbkaonlillhaa", sum := "2f7dd6c4e17217236ef4dd1ce5ced03df4c572b3d6589cb029a8f378bc08036a", func := "loop.example/g00197/laws.FnUnits", spec := "fnUnits", inPlace := ["slices.overlaps[loop.example/g00197/impl.Unit]"], unfollowed := true, recurses := true, apart := false }
def FnUnitsSaid : Prop := fnUnitsRow.holds Try.pinned (OpenSpec.ofChange fnUnitsSpec)

/-- ITS FALSE NEIGHBOUR: 'it returns false'. Refute it at one input. -/
def fnUnitsWrong : ChangeSpec := { name := "fnUnits", fn := fun _ => fun
  | [d] => { results := [.lit (.bool false)], args := [d] }
  | _ => none }
def FnUnitsWrongFalsely : Prop := fnUnitsRow.holds Try.pinned (OpenSpec.ofChange fnUnitsWrong)

/-- 'laws.FnExactBelowOf': WHATEVER THE INPUT: true; the input reads as it did. -/
def fnExactBelowOfSpec : ChangeSpec := { name := "fnExactBelowOf", fn := fun _ => fun
  | [d1, d2] => { results := [.lit (.bool true)], args := [d1, d2] }
  | _ => none }
def fnExactBelowOfRow : OpenClaim := { program := "ytbhbkaonlillhaa", sum := "2f7dd6c4e17217236ef4dd1ce5ced03df4c572b3d6589cb029a8f378bc08036a", func := "loop.example/g00197/laws.FnExactBelowOf", spec := "fnExactBelowOf", unfollowed := true, recurses := true, apart := false }
def FnExactBelowOfSaid : Prop := fnExactBelowOfRow.holds Try.pinned (OpenSpec.ofChange fnExactBelowOfSpec)

/-- ITS FALSE NEIGHBOUR: 'it returns false'. Refute it at one input. -/
def fnExactBelowOfWrong : ChangeSpec := { name := "fnExactBelowOf", fn := fun _ => fun
  | [d1, d2] => { results := [.lit (.bool false)], args := [d1, d2] }
  | _ => none }
def FnExactBelowOfWrongFalsely : Prop := fnExactBelowOfRow.holds Try.pinned (OpenSpec.ofChange fnExactBelowOfWrong)

/-- 'laws.FnUses': WHATEVER THE INPUT: true; the input reads as it did. -/
def fnUsesSpec : ChangeSpec := { name := "fnUses", fn := fun _ => fun
  | [d] => { results := [.lit (.bool true)], args := [d] }
  | _ => none }
def fnUsesRow : OpenClaim := { program := "ytbhbkaonlillhaa", sum := "2f7dd6c4e17217236ef4dd1ce5ced03df4c572b3d6589cb029a8f378bc08036a", func := "loop.example/g00197/laws.FnUses", spec := "fnUses", unfollowed := true, recurses := true, apart := false }
def FnUsesSaid : Prop := fnUsesRow.holds Try.pinned (OpenSpec.ofChange fnUsesSpec)

/-- ITS FALSE NEIGHBOUR: 'it returns false'. Refute it at one input. -/
def fnUsesWrong : ChangeSpec := { name := "fnUses", fn := fun _ => fun
  | [d] => { results := [.lit (.bool false)], args := [d] }
  | _ => none }
def FnUsesWrongFalsely : Prop := fnUsesRow.holds Try.pinned (OpenSpec.ofChange fnUsesWrong)

/-- 'laws.FnExactKidsOf': WHATEVER THE INPUT: true; the input reads as it did. -/
def fnExactKidsOfSpec : ChangeSpec := { name := "fnExactKidsOf", fn := fun _ => fun
  | [d1, d2] => { results := [.lit (.bool true)], args := [d1, d2] }
  | _ => none }
def fnExactKidsOfRow : OpenClaim := { program := "ytbhbkaonlillhaa", sum := "2f7dd6c4e17217236ef4dd1ce5ced03df4c572b3d6589cb029a8f378bc08036a", func := "loop.example/g00197/laws.FnExactKidsOf", spec := "fnExactKidsOf", unfollowed := true, recurses := true, apart := false }
def FnExactKidsOfSaid : Prop := fnExactKidsOfRow.holds Try.pinned (OpenSpec.ofChange fnExactKidsOfSpec)

/-- ITS FALSE NEIGHBOUR: 'it returns false'. Refute it at one input. -/
def fnExactKidsOfWrong : ChangeSpec := { name := "fnExactKidsOf", fn := fun _ => fun
  | [d1, d2] => { results := [.lit (.bool false)], args := [d1, d2] }
  | _ => none }
def FnExactKidsOfWrongFalsely : Prop := fnExactKidsOfRow.holds Try.pinned (OpenSpec.ofChange fnExactKidsOfWrong)

/-- 'laws.FnExactGroupsOf': WHATEVER THE INPUT: true; the input reads as it did. -/
def fnExactGroupsOfSpec : ChangeSpec := { name := "fnExactGroupsOf", fn := fun _ => fun
  | [d1, d2] => { results := [.lit (.bool true)], args := [d1, d2] }
  | _ => none }
def fnExactGroupsOfRow : OpenClaim := { program := "ytbhbkaonlillhaa", sum := "2f7dd6c4e17217236ef4dd1ce5ced03df4c572b3d6589cb029a8f378bc08036a", func := "loop.example/g00197/laws.FnExactGroupsOf", spec := "fnExactGroupsOf", unfollowed := true, recurses := true, apart := false }
def FnExactGroupsOfSaid : Prop := fnExactGroupsOfRow.holds Try.pinned (OpenSpec.ofChange fnExactGroupsOfSpec)

/-- ITS FALSE NEIGHBOUR: 'it returns false'. Refute it at one input. -/
def fnExactGroupsOfWrong : ChangeSpec := { name := "fnExactGroupsOf", fn := fun _ => fun
  | [d1, d2] => { results := [.lit (.bool false)], args := [d1, d2] }
  | _ => none }
def FnExactGroupsOfWrongFalsely : Prop := fnExactGroupsOfRow.holds Try.pinned (OpenSpec.ofChange fnExactGroupsOfWrong)

/- THE SECOND FORM. 'bulk': how many values and letters a reading holds, each counted each time it is reached (what is shared counts as often as it is met; a slice's spare places count too). A statement '..UptoSaid' is the law's where the arguments, and the package variables that the reading takes, are together of bulk at most 1048576: NARROWER than '..Said'. Prove '..Said' where nothing that the law and all that it calls make is longer than what came in: it says more and counts as full. Else prove '..UptoSaid'. A law counts once. -/
mutual
def uptoBulk {H : Type} : DataW H → Nat
  | .lit (.string bytes) => bytes.length + 1
  | .lit _ => 1
  | .nil => 1
  | .ptr d => uptoBulk d + 1
  | .slice elems spare => uptoBulkAll elems + uptoBulkAll spare + 1
  | .agg parts => uptoBulkAll parts + 1
  | .iface _ d => uptoBulk d + 1
  | .map entries => uptoBulkEntries entries + 1
  | .held _ => 1
def uptoBulkAll {H : Type} : List (DataW H) → Nat
  | [] => 0
  | d :: r => uptoBulk d + uptoBulkAll r
def uptoBulkEntries {H : Type} : List (Lit × DataW H) → Nat
  | [] => 0
  | x :: r => uptoBulkEntry x + uptoBulkEntries r
def uptoBulkEntry {H : Type} : Lit × DataW H → Nat
  | (.string bytes, d) => bytes.length + uptoBulk d + 1
  | (_, d) => uptoBulk d + 1
 end
def uptoSmall : (H : Type) → List (DataW H) → Bool := fun _ ds => decide (uptoBulkAll ds ≤ 1048576)
def OpenSpec.upto (s : _root_.Go.ChangeSpec) : _root_.Go.OpenSpec := { _root_.Go.OpenSpec.ofChange s with cond := some uptoSmall }

/-- 'laws.FnExactSpoil', WHERE WHAT IT READS IS OF BULK AT MOST 1048576: true; the input reads as it did. -/
def fnExactSpoilUptoRow : OpenClaim := { program := "ytbhbkaonlillhaa", sum := "2f7dd6c4e17217236ef4dd1ce5ced03df4c572b3d6589cb029a8f378bc08036a", func := "loop.example/g00197/laws.FnExactSpoil", spec := "fnExactSpoil", unfollowed := true, recurses := true, apart := false, narrowed := true }
def FnExactSpoilUptoSaid : Prop := fnExactSpoilUptoRow.holds Try.pinned (OpenSpec.upto fnExactSpoilSpec)

/-- 'laws.FnExactPutUnit', WHERE WHAT IT READS IS OF BULK AT MOST 1048576: true; the input reads as it did. -/
def fnExactPutUnitUptoRow : OpenClaim := { program := "ytbhbkaonlillhaa", sum := "2f7dd6c4e17217236ef4dd1ce5ced03df4c572b3d6589cb029a8f378bc08036a", func := "loop.example/g00197/laws.FnExactPutUnit", spec := "fnExactPutUnit", inPlace := ["slices.overlaps[loop.example/g00197/impl.Unit]"], unfollowed := true, recurses := true, apart := false, narrowed := true }
def FnExactPutUnitUptoSaid : Prop := fnExactPutUnitUptoRow.holds Try.pinned (OpenSpec.upto fnExactPutUnitSpec)

/-- 'laws.FnUnits', WHERE WHAT IT READS IS OF BULK AT MOST 1048576: true; the input reads as it did. -/
def fnUnitsUptoRow : OpenClaim := { program := "ytbhbkaonlillhaa", sum := "2f7dd6c4e17217236ef4dd1ce5ced03df4c572b3d6589cb029a8f378bc08036a", func := "loop.example/g00197/laws.FnUnits", spec := "fnUnits", inPlace := ["slices.overlaps[loop.example/g00197/impl.Unit]"], unfollowed := true, recurses := true, apart := false, narrowed := true }
def FnUnitsUptoSaid : Prop := fnUnitsUptoRow.holds Try.pinned (OpenSpec.upto fnUnitsSpec)

/-- 'laws.FnExactBelowOf', WHERE WHAT IT READS IS OF BULK AT MOST 1048576: true; the input reads as it did. -/
def fnExactBelowOfUptoRow : OpenClaim := { program := "ytbhbkaonlillhaa", sum := "2f7dd6c4e17217236ef4dd1ce5ced03df4c572b3d6589cb029a8f378bc08036a", func := "loop.example/g00197/laws.FnExactBelowOf", spec := "fnExactBelowOf", unfollowed := true, recurses := true, apart := false, narrowed := true }
def FnExactBelowOfUptoSaid : Prop := fnExactBelowOfUptoRow.holds Try.pinned (OpenSpec.upto fnExactBelowOfSpec)

/-- 'laws.FnUses', WHERE WHAT IT READS IS OF BULK AT MOST 1048576: true; the input reads as it did. -/
def fnUsesUptoRow : OpenClaim := { program := "ytbhbkaonlillhaa", sum := "2f7dd6c4e17217236ef4dd1ce5ced03df4c572b3d6589cb029a8f378bc08036a", func := "loop.example/g00197/laws.FnUses", spec := "fnUses", unfollowed := true, recurses := true, apart := false, narrowed := true }
def FnUsesUptoSaid : Prop := fnUsesUptoRow.holds Try.pinned (OpenSpec.upto fnUsesSpec)

/-- 'laws.FnExactKidsOf', WHERE WHAT IT READS IS OF BULK AT MOST 1048576: true; the input reads as it did. -/
def fnExactKidsOfUptoRow : OpenClaim := { program := "ytbhbkaonlillhaa", sum := "2f7dd6c4e17217236ef4dd1ce5ced03df4c572b3d6589cb029a8f378bc08036a", func := "loop.example/g00197/laws.FnExactKidsOf", spec := "fnExactKidsOf", unfollowed := true, recurses := true, apart := false, narrowed := true }
def FnExactKidsOfUptoSaid : Prop := fnExactKidsOfUptoRow.holds Try.pinned (OpenSpec.upto fnExactKidsOfSpec)

/-- 'laws.FnExactGroupsOf', WHERE WHAT IT READS IS OF BULK AT MOST 1048576: true; the input reads as it did. -/
def fnExactGroupsOfUptoRow : OpenClaim := { program := "ytbhbkaonlillhaa", sum := "2f7dd6c4e17217236ef4dd1ce5ced03df4c572b3d6589cb029a8f378bc08036a", func := "loop.example/g00197/laws.FnExactGroupsOf", spec := "fnExactGroupsOf", unfollowed := true, recurses := true, apart := false, narrowed := true }
def FnExactGroupsOfUptoSaid : Prop := fnExactGroupsOfUptoRow.holds Try.pinned (OpenSpec.upto fnExactGroupsOfSpec)

end Rows
end Go.Proofs.Ytbhbkaonlillhaa
