/- The row of FnExactRoomFor: what comes in is opened to numbers, bools, texts and lists; its walk and its pure statement give the rest. -/
import Derived.Test.YtnhbfbgflgplcaaRows
import Derived.Test.YtnhbfbgflgplcaaOpens
import Derived.Test.YtnhbfbgflgplcaaPureFnExactRoomFor
import Derived.Test.YtnhbfbgflgplcaaQTW18
import Derived.WalkKit
import Derived.ProofKit
import Derived.OpenShut
import Derived.ShutString
import Derived.ChangeOld
import Derived.Below
import Derived.SizedLaws
namespace Go.Proofs.Ytnhbfbgflgplcaa.fnExactRoomFor
open Go.ChangeShapes Go.WideShapes Go.ChangeAt Go.RowKit Go.Proofs.YtnhbfbgflgplcaaW.PrintWords Go.Proofs.Ytnhbfbgflgplcaa.Opens Go.Proofs.Ytnhbfbgflgplcaa.QTW
open Go.ChangeMaps (open_string shut_string)
set_option linter.unusedVariables false
theorem own : ownKnob Try.prog.godebug = none := by kernel_rfl
theorem laidOut : laidOutB Try.prog = true := by kernel_rfl
def ok116 (x : S116) : Prop := (fun n : Int => (Lit.int .i64 n).wf = true) x.f0 ∧ (fun n : Int => (Lit.int .i64 n).wf = true) x.f1
theorem says116 {H : Type} {enc : TypeId × Value → H} (W : World) {base : Nat} {spare : Nat → Bool} {held : Bool} : Says enc Try.prog W base spare held 116 k116 ok116 :=
  says_struct Try.underlying116 (by kernel_rfl) (part_cons rfl (by kernel_rfl) (says_int Try.underlying3) (part_one rfl (by kernel_rfl) (says_int Try.underlying3))) (fun x : S116 => (x.f0, x.f1)) (fun p => ⟨p.1, p.2⟩) (fun _ => rfl)
def ok70 (x : S70) : Prop := (fun n : Int => (Lit.int .i64 n).wf = true) x.f0 ∧ (fun n : Int => (Lit.int .i64 n).wf = true) x.f1 ∧ (fun s : ByteArray => s.size ≤ maxLen) x.f2 ∧ (fun _ : Bool => True) x.f3 ∧ (fun n : Int => (Lit.int .i64 n).wf = true) x.f4 ∧ (fun n : Int => (Lit.int .i64 n).wf = true) x.f5 ∧ (fun n : Int => (Lit.int .i64 n).wf = true) x.f6 ∧ (fun xs : List (S116) => xs.length ≤ maxLen ∧ ∀ x ∈ xs, ok116 x) x.f7 ∧ (fun n : Int => (Lit.int .i64 n).wf = true) x.f8
theorem says70 {H : Type} {enc : TypeId × Value → H} (W : World) {base : Nat} {spare : Nat → Bool} {held : Bool} : Says enc Try.prog W base spare held 70 k70 ok70 :=
  says_struct Try.underlying70 (by kernel_rfl) (part_cons rfl (by kernel_rfl) (says_int Try.underlying3) (part_cons rfl (by kernel_rfl) (says_int Try.underlying3) (part_cons rfl (by kernel_rfl) (says_string Try.underlying9) (part_cons rfl (by kernel_rfl) (says_bool Try.underlying4) (part_cons rfl (by kernel_rfl) (says_int Try.underlying3) (part_cons rfl (by kernel_rfl) (says_int Try.underlying3) (part_cons rfl (by kernel_rfl) (says_int Try.underlying3) (part_cons rfl (by kernel_rfl) (says_slice Try.underlying68 (by kernel_rfl) (says116 W)) (part_one rfl (by kernel_rfl) (says_int Try.underlying3)))))))))) (fun x : S70 => (x.f0, x.f1, x.f2, x.f3, x.f4, x.f5, x.f6, x.f7, x.f8)) (fun p => ⟨p.1, p.2.1, p.2.2.1, p.2.2.2.1, p.2.2.2.2.1, p.2.2.2.2.2.1, p.2.2.2.2.2.2.1, p.2.2.2.2.2.2.2.1, p.2.2.2.2.2.2.2.2⟩) (fun _ => rfl)
set_option maxRecDepth 100000 in
theorem lifted (os : Os) (started : os.Started) (H : Type) (enc : TypeId × Value → H) :
    ReturnsInHanded {} Try.checked os 6 .any (Rows.fnExactRoomForSpec.pre6 enc Try.prog Try.f6 Rows.fnExactRoomForRow.domain false) (Rows.fnExactRoomForSpec.post enc Try.prog Try.f6 false true false false) := by
  refine returnsInHanded_of_change_sized (C := Try.checked) own started (by kernel_rfl) Try.func6
    (ChangeSpec.witness6 (enc := enc) (C := Try.checked) false ⟨#[], #[.agg #[.slice none 0 0, .int .i64 0], .int .i64 0, .int .i64 0], []⟩ 8 (by kernel_rfl) (by kernel_rfl) (by kernel_rfl) (by kernel_rfl)) ?_
  intro W base args ds gs before hval0 hW hcnd hsz0 _
  have hsz : (DataW.weightsEach Try.prog (Try.f6.params.toList ++ Rows.fnExactRoomForSpec.plain.varTypes Try.prog) (ds ++ gs)).all (· ≤ reachBytes) = true := hsz0
  have hval : ∀ (j : Nat) t v, Try.f6.params[j]? = some t → args[j]? = some v → Value.okWide Try.prog W .any base t v := hval0
  have hW' := hW
  obtain ⟨p, q, hA0, hV, rfl, hfz, hnd⟩ := hW
  have hA : DataW.TrodAll enc Try.prog W 0 (fun _ => true) true Try.f6.params.toList args.toList ds p := hA0
  rw [Try.params6] at hA hval hsz
  obtain ⟨v0, vs0, d0, ds0, p0, q0, hargs, rfl, rfl, h0, r0⟩ := trodAll_cons hA
  obtain ⟨v1, vs1, d1, ds1, p1, q1, rfl, rfl, rfl, h1, r1⟩ := trodAll_cons r0
  obtain ⟨v2, vs2, d2, ds2, p2, q2, rfl, rfl, rfl, h2, r2⟩ := trodAll_cons r1
  obtain ⟨rfl, rfl, rfl⟩ := trodAll_nil r2
  obtain rfl : args = #[v0, v1, v2] := by cases args; simp_all
  obtain ⟨rfl, rfl⟩ := trodVars_none hV
  have k0 := h0
  have lt0 : ∀ x ∈ p0, x.block < W.heap.size := by obtain ⟨m, hm⟩ := k0; exact DataW.trod_lt m _ _ _ hm
  obtain ⟨cs0, rfl, _⟩ := okWide_struct Try.underlying24 (hval 0 24 v0 rfl rfl)
  obtain ⟨fuel0, hf0⟩ := h0
  obtain ⟨b0, hK0, o0⟩ := says_struct Try.underlying24 (by kernel_rfl) (part_cons rfl (by kernel_rfl) (says_slice Try.underlying22 (by kernel_rfl) (says70 W)) (part_one rfl (by kernel_rfl) (says_int Try.underlying3))) id id (fun _ => rfl) fuel0 _ _ hf0
  obtain ⟨b0_0, b0_1⟩ := b0
  obtain ⟨_, _, e0, ⟨A0_0, c0_0, rfl, hc0_0, hr0_0⟩, rfl⟩ := hK0
  obtain rfl : cs0 = #[.slice A0_0 b0_0.length c0_0, .int .i64 b0_1] := by
    cases cs0 with | mk l_ => simpa [Value.cells] using e0
  simp only [id] at o0
  obtain ⟨a1, rfl, rfl, rfl, w1⟩ := open_int Try.underlying3 (hval 1 3 v1 rfl rfl) h1
  obtain ⟨a2, rfl, rfl, rfl, w2⟩ := open_int Try.underlying3 (hval 2 3 v2 rfl rfl) h2
  clear hA0 hval0 hsz0 hsz
  obtain ⟨K, hK_⟩ := Pure.FnExactRoomFor b0_0 b0_1 a1 a2 o0 w1 w2
  refine (laws_FnExactRoomFor.calls K A0_0 c0_0 b0_0 b0_1 a1 a2 true W hr0_0 hc0_0 hK_).mono fun e W' ⟨he, bel⟩ => ?_
  subst he
  exact ⟨_, rfl, _, _, _, [], _, [], hW', trodAll_mk1 (shut_bool Try.underlying4 _), (trodAll_cons_mk (Below.trod laidOut (by kernel_rfl) (of_decide_eq_true (by kernel_rfl)) k0 bel lt0) (trodAll_cons_mk (shut_int Try.underlying3 w1) (trodAll_cons_mk (shut_int Try.underlying3 w2) trodAll_mk0))), rfl, bel.frame _, fun h => by cases h⟩
theorem over : Rows.fnExactRoomForRow.holds Try.pinned (OpenSpec.ofChange Rows.fnExactRoomForSpec) :=
  OpenClaim.holds_of_wide 6 Try.f6 rfl rfl rfl rfl rfl rfl rfl ⟨rfl, rfl, rfl, rfl, rfl⟩ rfl rfl rfl rfl rfl (by kernel_rfl) Try.func6 (by kernel_rfl)
    (of_decide_eq_true (by kernel_rfl)) (by unfold Func.isWrapper; first | (rw [if_pos (by decide +kernel)]; kernel_rfl) | (rw [if_neg (by decide +kernel)]; exact ⟨rfl, rfl⟩))
    (fun os started H enc _ => lifted os started H enc)
theorem proved : Rows.FnExactRoomForSaid := over
#print axioms proved
end Go.Proofs.Ytnhbfbgflgplcaa.fnExactRoomFor
namespace Go.Proofs.Ytnhbfbgflgplcaa
/-- The row, under a short name, for the claim. -/
theorem fnExactRoomFor_holds : Rows.FnExactRoomForSaid := fnExactRoomFor.proved
end Go.Proofs.Ytnhbfbgflgplcaa
