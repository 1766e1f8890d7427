/- FnUnits holds: for every input the law returns true and leaves its input as it was. What comes in is told as cells that are only read; the law's contract gives the rest. -/
import Derived.Test.YtbhbkaonlillhaaRows
import Derived.Test.YtbhbkaonlillhaaCUm
import Derived.Test.YtbhbkaonlillhaaAbc
import Derived.WalkKit
import Derived.ProofKit
import Derived.OpenShut
import Derived.ShutString
import Derived.ChangeOld
import Derived.Below
import Derived.SizedLaws
namespace Go.Proofs.Ytbhbkaonlillhaa.fnUnits
open Go Go.Abs Go.Proofs Go.Tm Go.ChangeShapes Go.WideShapes Go.ChangeAt Go.RowKit
open Go.ChangeMaps (open_string shut_string)
set_option linter.unusedVariables false
set_option linter.unusedSimpArgs false
theorem own : ownKnob Try.prog.godebug = none := by kernel_rfl
theorem laidOut : laidOutB Try.prog = true := by kernel_rfl
theorem hZ : ZOk Try.prog Try.prog.cellsOf := fun e i h => by simp [Program.cellsOf, h]
theorem rl_one {R : AV → Value → Prop} {x : AV} {u : Value} (h1 : R x u) : RL R [x] [u] := ⟨rfl, fun i a b ha hb => by
  cases i with
  | zero => cases ha; cases hb; exact h1
  | succ i => simp at ha⟩
set_option maxRecDepth 100000 in
theorem lifted (os : Os) (started : os.Started) (H : Type) (enc : TypeId × Value → H) :
    ReturnsInHanded {} Try.checked os 5 .any (Rows.fnUnitsSpec.pre6 enc Try.prog Try.f5 Rows.fnUnitsRow.domain false) (Rows.fnUnitsSpec.post enc Try.prog Try.f5 false true false false) := by
  refine returnsInHanded_of_change_sized (C := Try.checked) own started (by kernel_rfl) Try.func5
    (ChangeSpec.witness6 (enc := enc) (C := Try.checked) false ⟨#[], #[.slice none 0 0], []⟩ 8 (by kernel_rfl) (by kernel_rfl) (by kernel_rfl) (by kernel_rfl)) ?_
  intro W base args ds gs before hval0 hW hcnd hsz0 _
  have hval : ∀ (j : Nat) t v, Try.f5.params[j]? = some t → args[j]? = some v → Value.okWide Try.prog W .any base t v := hval0
  have hW' := hW
  obtain ⟨p, q, hA0, hV, rfl, hfz, hnd⟩ := hW
  have hA : DataW.TrodAll enc Try.prog W 0 (fun _ => true) true Try.f5.params.toList args.toList ds p := hA0
  rw [Try.params5] at hA hval
  obtain ⟨v0, vs0, d0, ds0, p0, q0, hargs, rfl, rfl, h0, r0⟩ := trodAll_cons hA
  obtain ⟨rfl, rfl, rfl⟩ := trodAll_nil r0
  obtain rfl : args = #[v0] := by cases args; simp_all
  obtain ⟨rfl, rfl⟩ := trodVars_none hV
  have k0 := h0
  have lt0 : ∀ x ∈ p0, x.block < W.heap.size := by obtain ⟨m, hm⟩ := k0; exact DataW.trod_lt m _ _ _ hm
  obtain ⟨A0, n0, c0, rfl⟩ := okWide_slice Try.underlying42 (hval 0 42 v0 rfl rfl)
  obtain ⟨fuel0, hf0⟩ := h0
  obtain ⟨x0, hx0, hR0⟩ := saysA_slice (sz := 1) Try.underlying42 (by kernel_rfl) (by omega) (by kernel_rfl) (saysA_int (enc := enc) Try.underlying5) fuel0 _ _ hf0
  have hd := (exUnits_spec (G := fun _ => True) (B0 := W.heap.size) hZ x0).begin (w := W) (fun _ _ _ _ _ _ _ => trivial) trivial (rl_one (hR0.arg))
  simp [Value.cells] at hd
  refine Calls.mono hd fun e W' ⟨v, he, ⟨fp, S, hpr⟩, bel⟩ => ?_
  obtain rfl := hpr.bool_inv
  subst he
  exact ⟨_, rfl, _, _, _, [], _, [], hW', trodAll_mk1 (shut_bool Try.underlying4 _), (trodAll_cons_mk (Below.trod laidOut (by kernel_rfl) (of_decide_eq_true (by kernel_rfl)) k0 bel lt0) trodAll_mk0), rfl, bel.frame _, fun h => by cases h⟩
theorem over : Rows.fnUnitsRow.holds Try.pinned (OpenSpec.ofChange Rows.fnUnitsSpec) :=
  OpenClaim.holds_of_wide 5 Try.f5 rfl rfl rfl rfl rfl rfl rfl ⟨rfl, rfl, rfl, rfl, rfl⟩ rfl rfl rfl rfl rfl (by kernel_rfl) Try.func5 (by kernel_rfl)
    (of_decide_eq_true (by kernel_rfl)) (by unfold Func.isWrapper; first | (rw [if_pos (by decide +kernel)]; kernel_rfl) | (rw [if_neg (by decide +kernel)]; exact ⟨rfl, rfl⟩))
    (fun os started H enc _ => lifted os started H enc)
theorem proved : Rows.FnUnitsSaid := over
#print axioms proved
end Go.Proofs.Ytbhbkaonlillhaa.fnUnits
namespace Go.Proofs.Ytbhbkaonlillhaa
/-- The row, under a short name, for the claim. -/
theorem fnUnits_holds : Rows.FnUnitsSaid := fnUnits.proved
end Go.Proofs.Ytbhbkaonlillhaa
