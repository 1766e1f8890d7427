/- FnExactGroupsOf holds: for every input the law returns true and leaves its input as it was. What comes in is told as cells that are only read; the law's contract gives the rest. -/
import Derived.Test.YtbhbkaonlillhaaRows
import Derived.Test.YtbhbkaonlillhaaCEo
import Derived.Test.YtbhbkaonlillhaaLc
import Derived.WalkKit
import Derived.ProofKit
import Derived.OpenShut
import Derived.ShutString
import Derived.ChangeOld
import Derived.Below
import Derived.SizedLaws
namespace Go.Proofs.Ytbhbkaonlillhaa.fnExactGroupsOf
open Go Go.Abs Go.Proofs Go.Tm Go.ChangeShapes Go.WideShapes Go.ChangeAt Go.RowKit
open Go.ChangeMaps (open_string shut_string)
set_option linter.unusedVariables false
theorem own : ownKnob Try.prog.godebug = none := by kernel_rfl
theorem laidOut : laidOutB Try.prog = true := by kernel_rfl
theorem hZ : ZOk Try.prog Try.prog.cellsOf := fun e i h => by simp [Program.cellsOf, h]
section
variable {H : Type} {enc : TypeId × Value → H} {w : World} {base : Nat} {spare : Nat → Bool} {held : Bool}
theorem saysPc : SaysA Try.prog.cellsOf enc Try.prog w base spare held 167 pcE (fun _ => True) :=
  saysA_imp (saysA_struct Try.underlying167 (by kernel_rfl) (partA_cons (n := 1) rfl (by kernel_rfl) (saysA_int Try.underlying3) (partA_one (n := 1) rfl (by kernel_rfl) (saysA_int Try.underlying3))) (fun x => (⟨x.1, x.2⟩ : Pc)) pcE (fun _ => rfl)) fun _ _ => trivial
theorem saysNd : SaysA Try.prog.cellsOf enc Try.prog w base spare held 118 ndL (fun _ => True) :=
  saysA_imp (saysA_struct Try.underlying118 (by kernel_rfl) (partA_cons (n := 1) rfl (by kernel_rfl) (saysA_int Try.underlying3) (partA_cons (n := 1) rfl (by kernel_rfl) (saysA_int Try.underlying3) (partA_cons (n := 1) rfl (by kernel_rfl) (saysA_string Try.underlying9) (partA_cons (n := 1) rfl (by kernel_rfl) (saysA_bool Try.underlying4)
    (partA_cons (n := 1) rfl (by kernel_rfl) (saysA_int Try.underlying3) (partA_cons (n := 1) rfl (by kernel_rfl) (saysA_int Try.underlying3) (partA_cons (n := 1) rfl (by kernel_rfl) (saysA_int Try.underlying3) (partA_cons (n := 1) rfl (by kernel_rfl) (saysA_slice (sz := 2) Try.underlying116 (by kernel_rfl) (by omega) (by kernel_rfl) saysPc) (partA_one (n := 1) rfl (by kernel_rfl) (saysA_int Try.underlying3))))))))))
    (fun x => (⟨x.1, x.2.1, x.2.2.1, x.2.2.2.1, x.2.2.2.2.1, x.2.2.2.2.2.1, x.2.2.2.2.2.2.1, x.2.2.2.2.2.2.2.1, x.2.2.2.2.2.2.2.2⟩ : Nod)) ndL (fun _ => rfl)) fun _ _ => trivial
theorem saysTr : SaysA Try.prog.cellsOf enc Try.prog w base spare held 55 (fun t : Tree => [ndsL t.nodes, iC t.next]) (fun _ => True) :=
  saysA_imp (saysA_struct Try.underlying55 (by kernel_rfl) (partA_cons (n := 1) rfl (by kernel_rfl) (saysA_slice (sz := 9) Try.underlying53 (by kernel_rfl) (by omega) (by kernel_rfl) saysNd) (partA_one (n := 1) rfl (by kernel_rfl) (saysA_int Try.underlying3))) (fun x => (⟨x.1, x.2⟩ : Tree)) (fun t : Tree => [ndsL t.nodes, iC t.next]) (fun _ => rfl)) fun _ _ => trivial
end
set_option maxRecDepth 100000 in
theorem lifted (os : Os) (started : os.Started) (H : Type) (enc : TypeId × Value → H) :
    ReturnsInHanded {} Try.checked os 9 .any (Rows.fnExactGroupsOfSpec.pre6 enc Try.prog Try.f9 Rows.fnExactGroupsOfRow.domain false) (Rows.fnExactGroupsOfSpec.post enc Try.prog Try.f9 false true false false) := by
  refine returnsInHanded_of_change_sized (C := Try.checked) own started (by kernel_rfl) Try.func9
    (ChangeSpec.witness6 (enc := enc) (C := Try.checked) false ⟨#[], #[.agg #[.slice none 0 0, .int .i64 0], .int .i64 0], []⟩ 8 (by kernel_rfl) (by kernel_rfl) (by kernel_rfl) (by kernel_rfl)) ?_
  intro W base args ds gs before hval0 hW hcnd hsz0 _
  have hval : ∀ (j : Nat) t v, Try.f9.params[j]? = some t → args[j]? = some v → Value.okWide Try.prog W .any base t v := hval0
  have hW' := hW
  obtain ⟨p, q, hA0, hV, rfl, hfz, hnd⟩ := hW
  have hA : DataW.TrodAll enc Try.prog W 0 (fun _ => true) true Try.f9.params.toList args.toList ds p := hA0
  rw [Try.params9] at hA hval
  obtain ⟨v0, vs0, d0, ds0, p0, q0, hargs, rfl, rfl, h0, r0⟩ := trodAll_cons hA
  obtain ⟨v1, vs1, d1, ds1, p1, q1, rfl, rfl, rfl, h1, r1⟩ := trodAll_cons r0
  obtain ⟨rfl, rfl, rfl⟩ := trodAll_nil r1
  obtain rfl : args = #[v0, v1] := by cases args; simp_all
  obtain ⟨rfl, rfl⟩ := trodVars_none hV
  have k0 := h0
  have lt0 : ∀ x ∈ p0, x.block < W.heap.size := by obtain ⟨m, hm⟩ := k0; exact DataW.trod_lt m _ _ _ hm
  obtain ⟨cs0, rfl, _⟩ := okWide_struct Try.underlying55 (hval 0 55 v0 rfl rfl)
  obtain ⟨fuel0, hf0⟩ := h0
  obtain ⟨t, _, hR0⟩ := saysTr (enc := enc) fuel0 _ _ hf0
  obtain ⟨a1, rfl, rfl, rfl, w1⟩ := open_int Try.underlying3 (hval 1 3 v1 rfl rfl) h1
  have hd := (exGroupsOf_spec (G := fun _ => True) (B0 := W.heap.size) hZ t a1).begin (w := W) (fun _ _ _ _ _ _ _ => trivial) trivial (RL.mk2 (hR0.argS) (.c (.sc rfl)))
  simp [Value.cells] at hd
  refine Calls.mono hd fun e W' ⟨v, he, ⟨fp, S, hpr⟩, bel⟩ => ?_
  obtain rfl := hpr.bool_inv
  subst he
  exact ⟨_, rfl, _, _, _, [], _, [], hW', trodAll_mk1 (shut_bool Try.underlying4 _), (trodAll_cons_mk (Below.trod laidOut (by kernel_rfl) (of_decide_eq_true (by kernel_rfl)) k0 bel lt0) (trodAll_cons_mk (shut_int Try.underlying3 w1) trodAll_mk0)), rfl, bel.frame _, fun h => by cases h⟩
theorem over : Rows.fnExactGroupsOfRow.holds Try.pinned (OpenSpec.ofChange Rows.fnExactGroupsOfSpec) :=
  OpenClaim.holds_of_wide 9 Try.f9 rfl rfl rfl rfl rfl rfl rfl ⟨rfl, rfl, rfl, rfl, rfl⟩ rfl rfl rfl rfl rfl (by kernel_rfl) Try.func9 (by kernel_rfl)
    (of_decide_eq_true (by kernel_rfl)) (by unfold Func.isWrapper; first | (rw [if_pos (by decide +kernel)]; kernel_rfl) | (rw [if_neg (by decide +kernel)]; exact ⟨rfl, rfl⟩))
    (fun os started H enc _ => lifted os started H enc)
theorem proved : Rows.FnExactGroupsOfSaid := over
#print axioms proved
end Go.Proofs.Ytbhbkaonlillhaa.fnExactGroupsOf
namespace Go.Proofs.Ytbhbkaonlillhaa
/-- The row, under a short name, for the claim. -/
theorem fnExactGroupsOf_holds : Rows.FnExactGroupsOfSaid := fnExactGroupsOf.proved
end Go.Proofs.Ytbhbkaonlillhaa
