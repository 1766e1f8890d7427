/- FnExactSpoil holds: for every input the law returns true and leaves its input as it was. What comes in is told as cells that are only read; the law's contract gives the rest. -/
import Derived.Test.YtbhbkaonlillhaaRows
import Derived.Test.YtbhbkaonlillhaaCUj
import Derived.Test.YtbhbkaonlillhaaAbc
import Derived.WalkKit
import Derived.ProofKit
import Derived.OpenShut
import Derived.ShutString
import Derived.ChangeOld
import Derived.Below
import Derived.SizedLaws
namespace Go.Proofs.Ytbhbkaonlillhaa.fnExactSpoil
open Go Go.Abs Go.Proofs Go.Tm Go.ChangeShapes Go.WideShapes Go.ChangeAt Go.RowKit
open Go.ChangeMaps (open_string shut_string)
set_option linter.unusedVariables false
theorem own : ownKnob Try.prog.godebug = none := by kernel_rfl
theorem laidOut : laidOutB Try.prog = true := by kernel_rfl
theorem hZ : ZOk Try.prog Try.prog.cellsOf := fun e i h => by simp [Program.cellsOf, h]
section
variable {H : Type} {enc : TypeId × Value → H} {w : World} {base : Nat} {spare : Nat → Bool} {held : Bool}
theorem saysUn : SaysA Try.prog.cellsOf enc Try.prog w base spare held 36 unE (fun _ => True) :=
  saysA_imp (saysA_struct Try.underlying36 (by kernel_rfl) (partA_cons (n := 1) rfl (by kernel_rfl) (saysA_int Try.underlying3) (partA_cons (n := 1) rfl (by kernel_rfl) (saysA_int Try.underlying3) (partA_cons (n := 1) rfl (by kernel_rfl) (saysA_string Try.underlying9) (partA_one (n := 1) rfl (by kernel_rfl) (saysA_int Try.underlying3))))) (fun x => (⟨x.1, x.2.1, x.2.2.1, x.2.2.2⟩ : Un)) unE (fun _ => rfl)) fun _ _ => trivial
theorem saysHs : SaysA Try.prog.cellsOf enc Try.prog w base spare held 24 (fun h : Hst => [iC h.id, bC h.up, unsL h.units]) (fun _ => True) :=
  saysA_imp (saysA_struct Try.underlying24 (by kernel_rfl) (partA_cons (n := 1) rfl (by kernel_rfl) (saysA_int Try.underlying3) (partA_cons (n := 1) rfl (by kernel_rfl) (saysA_bool Try.underlying4) (partA_one (n := 1) rfl (by kernel_rfl) (saysA_slice (sz := 4) Try.underlying22 (by kernel_rfl) (by omega) (by kernel_rfl) saysUn)))) (fun x => (⟨x.1, x.2.1, x.2.2⟩ : Hst)) (fun h : Hst => [iC h.id, bC h.up, unsL h.units]) (fun _ => rfl)) fun _ _ => trivial
end
theorem rl_four {R : AV → Value → Prop} {x y z t : AV} {a b c d : Value} (h1 : R x a) (h2 : R y b) (h3 : R z c) (h4 : R t d) : RL R [x, y, z, t] [a, b, c, d] := ⟨rfl, fun i p q hp hq => by
  match i, hp, hq with
  | 0, hp, hq => cases hp; cases hq; exact h1
  | 1, hp, hq => cases hp; cases hq; exact h2
  | 2, hp, hq => cases hp; cases hq; exact h3
  | 3, hp, hq => cases hp; cases hq; exact h4
  | i + 4, hp, hq => simp at hp⟩
set_option maxRecDepth 100000 in
theorem lifted (os : Os) (started : os.Started) (H : Type) (enc : TypeId × Value → H) :
    ReturnsInHanded {} Try.checked os 3 .any (Rows.fnExactSpoilSpec.pre6 enc Try.prog Try.f3 Rows.fnExactSpoilRow.domain false) (Rows.fnExactSpoilSpec.post enc Try.prog Try.f3 false true false false) := by
  refine returnsInHanded_of_change_sized (C := Try.checked) own started (by kernel_rfl) Try.func3
    (ChangeSpec.witness6 (enc := enc) (C := Try.checked) false ⟨#[], #[.agg #[.int .i64 0, .bool false, .slice none 0 0], .int .i64 0, .int .i64 0, .int .i64 0], []⟩ 8 (by kernel_rfl) (by kernel_rfl) (by kernel_rfl) (by kernel_rfl)) ?_
  intro W base args ds gs before hval0 hW hcnd hsz0 _
  have hval : ∀ (j : Nat) t v, Try.f3.params[j]? = some t → args[j]? = some v → Value.okWide Try.prog W .any base t v := hval0
  have hW' := hW
  obtain ⟨p, q, hA0, hV, rfl, hfz, hnd⟩ := hW
  have hA : DataW.TrodAll enc Try.prog W 0 (fun _ => true) true Try.f3.params.toList args.toList ds p := hA0
  rw [Try.params3] at hA hval
  obtain ⟨v0, vs0, d0, ds0, p0, q0, hargs, rfl, rfl, h0, r0⟩ := trodAll_cons hA
  obtain ⟨v1, vs1, d1, ds1, p1, q1, rfl, rfl, rfl, h1, r1⟩ := trodAll_cons r0
  obtain ⟨v2, vs2, d2, ds2, p2, q2, rfl, rfl, rfl, h2, r2⟩ := trodAll_cons r1
  obtain ⟨v3, vs3, d3, ds3, p3, q3, rfl, rfl, rfl, h3, r3⟩ := trodAll_cons r2
  obtain ⟨rfl, rfl, rfl⟩ := trodAll_nil r3
  obtain rfl : args = #[v0, v1, v2, v3] := by cases args; simp_all
  obtain ⟨rfl, rfl⟩ := trodVars_none hV
  have k0 := h0
  have lt0 : ∀ x ∈ p0, x.block < W.heap.size := by obtain ⟨m, hm⟩ := k0; exact DataW.trod_lt m _ _ _ hm
  obtain ⟨cs0, rfl, _⟩ := okWide_struct Try.underlying24 (hval 0 24 v0 rfl rfl)
  obtain ⟨fuel0, hf0⟩ := h0
  obtain ⟨t, _, hR0⟩ := saysHs (enc := enc) fuel0 _ _ hf0
  obtain ⟨a1, rfl, rfl, rfl, w1⟩ := open_int Try.underlying3 (hval 1 3 v1 rfl rfl) h1
  obtain ⟨a2, rfl, rfl, rfl, w2⟩ := open_int Try.underlying3 (hval 2 3 v2 rfl rfl) h2
  obtain ⟨a3, rfl, rfl, rfl, w3⟩ := open_int Try.underlying3 (hval 3 3 v3 rfl rfl) h3
  have hd := (exSpoil_spec (G := fun _ => True) (B0 := W.heap.size) hZ t a1 a2 a3).begin (w := W) (fun _ _ _ _ _ _ _ => trivial) trivial (rl_four (hR0.argS) (.c (.sc rfl)) (.c (.sc rfl)) (.c (.sc rfl)))
  simp [Value.cells] at hd
  refine Calls.mono hd fun e W' ⟨v, he, ⟨fp, S, hpr⟩, bel⟩ => ?_
  obtain rfl := hpr.bool_inv
  subst he
  exact ⟨_, rfl, _, _, _, [], _, [], hW', trodAll_mk1 (shut_bool Try.underlying4 _), (trodAll_cons_mk (Below.trod laidOut (by kernel_rfl) (of_decide_eq_true (by kernel_rfl)) k0 bel lt0) (trodAll_cons_mk (shut_int Try.underlying3 w1) (trodAll_cons_mk (shut_int Try.underlying3 w2) (trodAll_cons_mk (shut_int Try.underlying3 w3) trodAll_mk0)))), rfl, bel.frame _, fun h => by cases h⟩
theorem over : Rows.fnExactSpoilRow.holds Try.pinned (OpenSpec.ofChange Rows.fnExactSpoilSpec) :=
  OpenClaim.holds_of_wide 3 Try.f3 rfl rfl rfl rfl rfl rfl rfl ⟨rfl, rfl, rfl, rfl, rfl⟩ rfl rfl rfl rfl rfl (by kernel_rfl) Try.func3 (by kernel_rfl)
    (of_decide_eq_true (by kernel_rfl)) (by unfold Func.isWrapper; first | (rw [if_pos (by decide +kernel)]; kernel_rfl) | (rw [if_neg (by decide +kernel)]; exact ⟨rfl, rfl⟩))
    (fun os started H enc _ => lifted os started H enc)
theorem proved : Rows.FnExactSpoilSaid := over
#print axioms proved
end Go.Proofs.Ytbhbkaonlillhaa.fnExactSpoil
namespace Go.Proofs.Ytbhbkaonlillhaa
/-- The row, under a short name, for the claim. -/
theorem fnExactSpoil_holds : Rows.FnExactSpoilSaid := fnExactSpoil.proved
end Go.Proofs.Ytbhbkaonlillhaa
