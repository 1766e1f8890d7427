/- Facts on the program that the row of FnLogCuts asks for. -/
import Derived.Test.YtbhbkaonlillhaaGreatDoorCRz
import Derived.Test.YtbhbkaonlillhaaGreatDoorCards
namespace Go.Proofs.YtbhbkaonlillhaaGreatDoor.fnLogCuts
open Go Go.Proofs
set_option linter.unusedVariables false
abbrev cR : OpenClaim := Rows.fnLogCutsRow
abbrev sS : ChangeSpec := Rows.fnLogCutsSpec
theorem j0 : (cR.wf (OpenSpec.ofChange sS)) = true := by kernel_rfl
theorem j3 : (Tryz.f3.params.all (PP.readableRec ·)) = true := by kernel_rfl
theorem j4 : (namedTie PP cR.named sS.vars) = true := by kernel_rfl
theorem j5 : ((cR.stops == [])) = true := by kernel_rfl
theorem j7 : ((cR.knobs == [])) = true := by kernel_rfl
theorem j9 : ((cR.inPlace == PP.inPlace 3)) = true := by kernel_rfl
theorem j10 : ((cR.unfollowed == PP.unfollowed 3)) = true := by kernel_rfl
theorem j11 : ((cR.recurses == PP.recurses 3)) = true := by kernel_rfl
theorem j12 : ((cR.named == PP.varsNamed 3)) = true := by kernel_rfl
theorem j13 : ((cR.maps == (Tryz.f3.params.toList ++ sS.plain.varTypes PP).any (PP.mapsRec ·))) = true := by kernel_rfl
theorem j14 : ((cR.ifaces == (Tryz.f3.params.toList ++ sS.plain.varTypes PP).any (PP.ifacesRec ·))) = true := by kernel_rfl
theorem j15 : ((cR.mapsOut == PP.mapsAmong Tryz.f3.resultTypes.toList)) = true := by kernel_rfl
theorem j16 : ((cR.loops == (Tryz.f3.params.toList ++ sS.plain.varTypes PP).any (PP.loopsFrom ·))) = true := by kernel_rfl
theorem j17 : ((cR.wideKeys == (Tryz.f3.params.toList ++ sS.plain.varTypes PP ++ Tryz.f3.resultTypes.toList).any (PP.wideKeysFrom ·))) = true := by kernel_rfl
theorem j18 : (sS.vars.all (PP.varReadable ·)) = true := by kernel_rfl
theorem j19 : (Tryz.f3.resultTypes.all (fun t => PP.readableRec t && decide (t < PP.types.size))) = true := by kernel_rfl
theorem j20 : ((cR.ifacesOut == Tryz.f3.resultTypes.toList.any (PP.ifacesRec ·))) = true := by kernel_rfl
theorem j21 : ((cR.loopsOut == Tryz.f3.resultTypes.toList.any (PP.loopsFrom ·))) = true := by kernel_rfl
theorem j22 : ((cR.plainKeys == PP.plainKeys)) = true := by kernel_rfl
theorem j23 : (cR.shortTexts.isNone) = true := by kernel_rfl
theorem j26 : ((cR.lifted == PP.liftsFinal)) = true := by kernel_rfl
theorem j27 : ((PP.make == some cR.make)) = true := by kernel_rfl
theorem j28 : ((cR.kinds == (if cR.domain.isEmpty then [] else Tryz.f3.params.toList.map fun t => match PP.underlying t with | some (.int k) => some k | _ => none))) = true := by kernel_rfl
theorem j29 : ((cR.pinned == cR.pinnedBy)) = true := by kernel_rfl
theorem j30 : ((cR.veiled == (Tryz.f3.params.toList ++ sS.plain.varTypes PP ++ Tryz.f3.resultTypes.toList).any (PP.veiledRec ·))) = true := by kernel_rfl
theorem j31 : (cR.veiledFits PP Tryz.f3.params.toList (Tryz.f3.params.toList ++ sS.plain.varTypes PP ++ Tryz.f3.resultTypes.toList)) = true := by kernel_rfl
set_option maxRecDepth 100000 in
theorem joined : joinedFacts PP 3 Tryz.f3 sS cR = true := by
  unfold joinedFacts
  exact Bool.and_eq_true_iff.2 ⟨Bool.and_eq_true_iff.2 ⟨Bool.and_eq_true_iff.2 ⟨Bool.and_eq_true_iff.2 ⟨Bool.and_eq_true_iff.2 ⟨Bool.and_eq_true_iff.2 ⟨Bool.and_eq_true_iff.2 ⟨Bool.and_eq_true_iff.2 ⟨Bool.and_eq_true_iff.2 ⟨Bool.and_eq_true_iff.2 ⟨Bool.and_eq_true_iff.2 ⟨Bool.and_eq_true_iff.2 ⟨Bool.and_eq_true_iff.2 ⟨Bool.and_eq_true_iff.2 ⟨Bool.and_eq_true_iff.2 ⟨Bool.and_eq_true_iff.2 ⟨Bool.and_eq_true_iff.2 ⟨Bool.and_eq_true_iff.2 ⟨Bool.and_eq_true_iff.2 ⟨Bool.and_eq_true_iff.2 ⟨Bool.and_eq_true_iff.2 ⟨Bool.and_eq_true_iff.2 ⟨Bool.and_eq_true_iff.2 ⟨Bool.and_eq_true_iff.2 ⟨Bool.and_eq_true_iff.2 ⟨Bool.and_eq_true_iff.2 ⟨Bool.and_eq_true_iff.2 ⟨Bool.and_eq_true_iff.2 ⟨Bool.and_eq_true_iff.2 ⟨Bool.and_eq_true_iff.2 ⟨Bool.and_eq_true_iff.2 ⟨j0, j1⟩, j2⟩, j3⟩, j4⟩, j5⟩, j6⟩, j7⟩, j8⟩, j9⟩, j10⟩, j11⟩, j12⟩, j13⟩, j14⟩, j15⟩, j16⟩, j17⟩, j18⟩, j19⟩, j20⟩, j21⟩, j22⟩, j23⟩, j24⟩, j25⟩, j26⟩, j27⟩, j28⟩, j29⟩, j30⟩, j31⟩
theorem cN : Tryz.prog.funcNamed "loop.example/g00197/laws.FnLogCuts" = some 3 := by kernel_rfl
theorem cG : false = Rows.fnLogCutsRow.goesBy Tryz.pinned.checked.prog := by kernel_rfl
theorem cW : Rows.fnLogCutsRow.wfByText (OpenSpec.ofChange Rows.fnLogCutsSpec) = true := by kernel_rfl
end Go.Proofs.YtbhbkaonlillhaaGreatDoor.fnLogCuts
