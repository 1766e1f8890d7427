/- FnLogCuts holds: for every input the law returns true and leaves its input as it was; what the row lists of the library's tables is tied to the program's text. What comes in is told as cells that are only read; the law's contract gives the rest. -/
import Derived.Test.YtbhbkaonlillhaaGreatDoorTie
import Derived.Test.YtbhbkaonlillhaaGreatDoorCards
import Derived.Test.YtbhbkaonlillhaaGreatDoorCWrap
import Derived.Test.YtbhbkaonlillhaaGreatDoorCRowLogCutsJ
import Derived.Test.YtbhbkaonlillhaaGreatDoorCLz
import Derived.Test.YtbhbkaonlillhaaGreatDoorCMh
import Derived.Test.YtbhbkaonlillhaaGreatDoorAbc
import Derived.WalkKit
import Derived.ProofKit
import Derived.OpenShut
import Derived.ShutString
import Derived.ChangeOld
import Derived.Below
import Derived.SizedLaws
import Derived.LaidMore
import Derived.Lay
import Derived.SevenTiedAt
import Derived.Stop.Joined
import Derived.Shelf.Vars
namespace Go.Proofs.YtbhbkaonlillhaaGreatDoor.fnLogCuts
open Go Go.Abs Go.Proofs Go.Tm Go.ChangeShapes Go.WideShapes Go.ChangeAt Go.RowKit
open Go.ChangeMaps (open_string shut_string)
set_option linter.unusedVariables false
set_option linter.unusedSimpArgs false
theorem own : ownKnob Tryz.prog.godebug = none := by kernel_rfl
theorem laidOut : laidOutB Tryz.prog = true := by kernel_rfl
theorem hZ : ZOk Tryz.prog Tryz.prog.cellsOf := fun e i h => by simp [Program.cellsOf, h]
def laidL : List (String × DataW Unit) := [("unicode/utf8.acceptRanges", Rows.laid_unicode_utf8_acceptRanges), ("unicode/utf8.first", Rows.laid_unicode_utf8_first)]
section
variable {H : Type} {enc : TypeId × Value → H} {w : World} {base : Nat} {spare : Nat → Bool} {held : Bool}
end
set_option maxRecDepth 100000 in
theorem lifted (os : Os) (started : os.Started) (H : Type) (enc : TypeId × Value → H) :
    ReturnsInHanded {} Tryz.checked os 3 .any (fun w args => (Rows.fnLogCutsSpec.pre enc Tryz.prog Tryz.f3 Rows.fnLogCutsRow.domain false w args ∧ laidMetH Tryz.prog laidL w) ∧ sizedMet enc Tryz.prog Tryz.f3 (OpenSpec.ofChange Rows.fnLogCutsSpec) false w args) (Rows.fnLogCutsSpec.post enc Tryz.prog Tryz.f3 false true false false) := by
  refine returnsInHanded_of_change_and_shaped (C := Tryz.checked) (X := fun w _ => laidMetH Tryz.prog laidL w) (fun _ _ _ hh h => h.of_heap hh) own started (by kernel_rfl) Tryz.func3
    (ChangeSpec.witness_shaped (enc := enc) (C := Tryz.checked) (os := os) (X := fun w _ => laidMetH Tryz.prog laidL w) false (World.laidAll Tryz.prog os laidL) #[.slice none 0 0] 8 (World.laidAll_os _ _ _)
      (World.shaped_of_ZipB (by kernel_rfl) (by kernel_rfl)) (by kernel_rfl) (by kernel_rfl) (by kernel_rfl)
      (by rw [MakeChecks.laidMetH_plain _ _ _ (by kernel_rfl)]; exact laidMet_laidAll _ (by kernel_rfl) (by kernel_rfl))) ?_
  intro W base args ds gs before hval0 hW hcnd hsz0 hLaid hsh _
  have hg : MG W := cell_of_shapedOpen_int (zero := #[.int .i64 0]) (t := 3) hsh (of_decide_eq_true (by kernel_rfl)) (by kernel_rfl) rfl (by kernel_rfl) (by kernel_rfl) Tryz.underlying3
  have hval : ∀ (j : Nat) t v, Tryz.f3.params[j]? = some t → args[j]? = some v → Value.okWide Tryz.prog W .any base t v := hval0
  have hW' := hW
  obtain ⟨p, q, hA0, hV, rfl, hfz, hnd⟩ := hW
  have hA : DataW.TrodAll enc Tryz.prog W 0 (fun _ => true) true Tryz.f3.params.toList args.toList ds p := hA0
  rw [Tryz.params3] at hA hval
  obtain ⟨v0, vs0, d0, ds0, p0, q0, hargs, rfl, rfl, h0, r0⟩ := trodAll_cons hA
  obtain ⟨rfl, rfl, rfl⟩ := trodAll_nil r0
  obtain rfl : args = #[v0] := by cases args; simp_all
  obtain ⟨rfl, rfl⟩ := trodVars_none hV
  have k0 := h0
  have lt0 : ∀ x ∈ p0, x.block < W.heap.size := by obtain ⟨m, hm⟩ := k0; exact DataW.trod_lt m _ _ _ hm
  obtain ⟨A0, n0, c0, rfl⟩ := okWide_slice Tryz.underlying22 (hval 0 22 v0 rfl rfl)
  obtain ⟨fuel0, hf0⟩ := h0
  obtain ⟨x0, hx0, hR0⟩ := saysA_slice (sz := 1) Tryz.underlying22 (by kernel_rfl) (by omega) (by kernel_rfl) (saysA_int (enc := enc) Tryz.underlying5) fuel0 _ _ hf0
  have hK : GK MG W.heap.size := mg_keep hg
  have hd := (lawLogCuts_spec (G := MG) (B0 := W.heap.size) hZ (fun _ h => h) x0).begin (w := W) hK hg (rl_mk1 (hR0.arg))
  simp [Value.cells] at hd
  refine Calls.mono hd fun e W' ⟨v, he, ⟨fp, S, hpr⟩, bel⟩ => ?_
  obtain rfl := hpr.bool_inv
  subst he
  exact ⟨_, rfl, _, _, _, [], _, [], hW', trodAll_mk1 (shut_bool Tryz.underlying4 _), (trodAll_cons_mk (Below.trod laidOut (by kernel_rfl) (of_decide_eq_true (by kernel_rfl)) k0 bel lt0) trodAll_mk0), rfl, bel.frame _, fun h => by cases h⟩
theorem over : Rows.fnLogCutsRow.holds Tryz.pinned (OpenSpec.ofChange Rows.fnLogCutsSpec) :=
  OpenClaim.holds_of_wide 3 Tryz.f3 rfl rfl rfl rfl rfl rfl rfl ⟨rfl, rfl, rfl, rfl, rfl⟩ rfl rfl rfl rfl rfl cN Tryz.func3 joined
    (of_decide_eq_true (by kernel_rfl)) (by unfold Func.isWrapper; first | (rw [if_pos (by decide +kernel)]; kernel_rfl) | (rw [if_neg (by decide +kernel)]; exact ⟨rfl, rfl⟩))
    (fun os started H enc _ => lifted os started H enc)
theorem proved : Claim7.holds Tryz.pinned (.plain (OpenSpec.ofChange Rows.fnLogCutsSpec)) Rows.fnLogCutsCard :=
  Claim7.holds_tied_plain_at .later [] [.data, .pinned] true (true, "c098dedf05992501ee9d2431a2b68abbc1fbd17807d13dd145cd22df0809d7c7") false
    over (fun _ h => by cases h) cW (fun _ h => by cases h) fnLogCuts_row_tie rfl ⟨rfl, rfl⟩ cM rfl
    (fun f fn hf hfn => by
      obtain rfl : f = 3 := Option.some.inj (cN.symm.trans hf) |>.symm
      obtain rfl : fn = Tryz.f3 := (Option.some.inj (Tryz.func3.symm.trans hfn)).symm
      exact ⟨cL, fun j t ht => by
        rw [Tryz.params3] at ht
        have hm : t ∈ [22] := by simpa using Array.mem_of_getElem? ht
        have hall : ([22].all fun u => !Tryz.prog.wantsStandIn u) = true := by kernel_rfl
        exact (show Tryz.prog.wantsStandIn t = false by simpa using List.all_eq_true.1 hall t hm)⟩)
    cG
#print axioms proved
end Go.Proofs.YtbhbkaonlillhaaGreatDoor.fnLogCuts
namespace Go.Proofs.YtbhbkaonlillhaaGreatDoor
/-- The card, under a short name, for the claim. -/
theorem fnLogCuts_holds : Rows.FnLogCutsCardSaid := fnLogCuts.proved
end Go.Proofs.YtbhbkaonlillhaaGreatDoor
