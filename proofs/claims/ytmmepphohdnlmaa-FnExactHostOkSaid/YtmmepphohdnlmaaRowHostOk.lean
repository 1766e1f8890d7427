/- The row of FnExactHostOk: what comes in is opened to numbers, bools, texts and lists; its walk and its pure statement give the rest. -/
import Derived.Test.YtmmepphohdnlmaaRows
import Derived.Test.YtmmepphohdnlmaaOpens
import Derived.Test.YtmmepphohdnlmaaPureFnExactHostOk
import Derived.Test.YtmmepphohdnlmaaPFnExactHostOkx6
import Derived.WalkKit
import Derived.ProofKit
import Derived.OpenShut
import Derived.ShutString
import Derived.ChangeOld
import Derived.Below
import Derived.SizedLaws
namespace Go.Proofs.Ytmmepphohdnlmaa.fnExactHostOk
open Go.ChangeShapes Go.WideShapes Go.ChangeAt Go.RowKit Go.Proofs.YtmmepphohdnlmaaW.PrintWords Go.Proofs.Ytmmepphohdnlmaa.Opens Go.Proofs.Ytmmepphohdnlmaa.PFnExactHostOk
open Go.ChangeMaps (open_string shut_string)
set_option linter.unusedVariables false
theorem own : ownKnob Try.prog.godebug = none := by kernel_rfl
theorem laidOut : laidOutB Try.prog = true := by kernel_rfl
def ok81 (x : S81) : Prop := (fun n : Int => (Lit.int .i64 n).wf = true) x.f0 ∧ (fun n : Int => (Lit.int .i64 n).wf = true) x.f1 ∧ (fun s : ByteArray => s.size ≤ maxLen) x.f2 ∧ (fun n : Int => (Lit.int .i64 n).wf = true) x.f3
theorem says81 {H : Type} {enc : TypeId × Value → H} (W : World) {base : Nat} {spare : Nat → Bool} {held : Bool} : Says enc Try.prog W base spare held 81 k81 ok81 :=
  says_struct Try.underlying81 (by kernel_rfl) (part_cons rfl (by kernel_rfl) (says_int Try.underlying3) (part_cons rfl (by kernel_rfl) (says_int Try.underlying3) (part_cons rfl (by kernel_rfl) (says_string Try.underlying9) (part_one rfl (by kernel_rfl) (says_int Try.underlying3))))) (fun x : S81 => (x.f0, x.f1, x.f2, x.f3)) (fun p => ⟨p.1, p.2.1, p.2.2.1, p.2.2.2⟩) (fun _ => rfl)
set_option maxRecDepth 100000 in
theorem lifted (os : Os) (started : os.Started) (H : Type) (enc : TypeId × Value → H) :
    ReturnsInHanded {} Try.checked os 13 .any (Rows.fnExactHostOkSpec.pre6 enc Try.prog Try.f13 Rows.fnExactHostOkRow.domain false) (Rows.fnExactHostOkSpec.post enc Try.prog Try.f13 false true false false) := by
  refine returnsInHanded_of_change_sized (C := Try.checked) own started (by kernel_rfl) Try.func13
    (ChangeSpec.witness6 (enc := enc) (C := Try.checked) false ⟨#[], #[.agg #[.int .i64 0, .bool false, .slice none 0 0]], []⟩ 8 (by kernel_rfl) (by kernel_rfl) (by kernel_rfl) (by kernel_rfl)) ?_
  intro W base args ds gs before hval0 hW hcnd hsz0 _
  have hsz : (DataW.weightsEach Try.prog (Try.f13.params.toList ++ Rows.fnExactHostOkSpec.plain.varTypes Try.prog) (ds ++ gs)).all (· ≤ reachBytes) = true := hsz0
  have hval : ∀ (j : Nat) t v, Try.f13.params[j]? = some t → args[j]? = some v → Value.okWide Try.prog W .any base t v := hval0
  have hW' := hW
  obtain ⟨p, q, hA0, hV, rfl, hfz, hnd⟩ := hW
  have hA : DataW.TrodAll enc Try.prog W 0 (fun _ => true) true Try.f13.params.toList args.toList ds p := hA0
  rw [Try.params13] at hA hval hsz
  obtain ⟨v0, vs0, d0, ds0, p0, q0, hargs, rfl, rfl, h0, r0⟩ := trodAll_cons hA
  obtain ⟨rfl, rfl, rfl⟩ := trodAll_nil r0
  obtain rfl : args = #[v0] := by cases args; simp_all
  obtain ⟨rfl, rfl⟩ := trodVars_none hV
  have k0 := h0
  have lt0 : ∀ x ∈ p0, x.block < W.heap.size := by obtain ⟨m, hm⟩ := k0; exact DataW.trod_lt m _ _ _ hm
  obtain ⟨cs0, rfl, _⟩ := okWide_struct Try.underlying37 (hval 0 37 v0 rfl rfl)
  obtain ⟨fuel0, hf0⟩ := h0
  obtain ⟨b0, hK0, o0⟩ := says_struct Try.underlying37 (by kernel_rfl) (part_cons rfl (by kernel_rfl) (says_int Try.underlying3) (part_cons rfl (by kernel_rfl) (says_bool Try.underlying4) (part_one rfl (by kernel_rfl) (says_slice Try.underlying35 (by kernel_rfl) (says81 W))))) id id (fun _ => rfl) fuel0 _ _ hf0
  obtain ⟨b0_0, b0_1, b0_2⟩ := b0
  obtain ⟨_, _, e0, rfl, _, _, rfl, rfl, A0_2, c0_2, rfl, hc0_2, hr0_2⟩ := hK0
  obtain rfl : cs0 = #[.int .i64 b0_0, .bool b0_1, .slice A0_2 b0_2.length c0_2] := by
    cases cs0 with | mk l_ => simpa [Value.cells] using e0
  simp only [id] at o0
  clear hA0 hval0 hsz0 hsz
  obtain ⟨K, hK_⟩ := Pure.FnExactHostOk b0_0 b0_1 b0_2 o0
  refine (laws_FnExactHostOk.calls K b0_0 b0_1 A0_2 c0_2 b0_2 true W hr0_2 hc0_2 hK_).mono fun e W' ⟨he, bel⟩ => ?_
  subst he
  exact ⟨_, rfl, _, _, _, [], _, [], hW', trodAll_mk1 (shut_bool Try.underlying4 _), (trodAll_cons_mk (Below.trod laidOut (by kernel_rfl) (of_decide_eq_true (by kernel_rfl)) k0 bel lt0) trodAll_mk0), rfl, bel.frame _, fun h => by cases h⟩
theorem over : Rows.fnExactHostOkRow.holds Try.pinned (OpenSpec.ofChange Rows.fnExactHostOkSpec) :=
  OpenClaim.holds_of_wide 13 Try.f13 rfl rfl rfl rfl rfl rfl rfl ⟨rfl, rfl, rfl, rfl, rfl⟩ rfl rfl rfl rfl rfl (by kernel_rfl) Try.func13 (by kernel_rfl)
    (of_decide_eq_true (by kernel_rfl)) (by unfold Func.isWrapper; first | (rw [if_pos (by decide +kernel)]; kernel_rfl) | (rw [if_neg (by decide +kernel)]; exact ⟨rfl, rfl⟩))
    (fun os started H enc _ => lifted os started H enc)
theorem proved : Rows.FnExactHostOkSaid := over
#print axioms proved
end Go.Proofs.Ytmmepphohdnlmaa.fnExactHostOk
namespace Go.Proofs.Ytmmepphohdnlmaa
/-- The row, under a short name, for the claim. -/
theorem fnExactHostOk_holds : Rows.FnExactHostOkSaid := fnExactHostOk.proved
end Go.Proofs.Ytmmepphohdnlmaa
