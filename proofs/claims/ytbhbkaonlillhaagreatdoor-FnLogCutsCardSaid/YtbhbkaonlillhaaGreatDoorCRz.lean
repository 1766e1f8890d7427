/- Facts on the program that every row of the seat asks for. -/
import Derived.Test.YtbhbkaonlillhaaGreatDoorChecked
import Derived.Test.YtbhbkaonlillhaaGreatDoorRows
import Derived.JoinedOf
import Derived.SevenTiedAt
namespace Go.Proofs.YtbhbkaonlillhaaGreatDoor
open Go Go.Proofs
noncomputable abbrev PP : Program := Tryz.pinned.checked.prog
theorem j1 : (laidOutB PP) = true := by kernel_rfl
theorem j2 : (mapsRowed PP) = true := by kernel_rfl
theorem j6 : ((PP.stops == [])) = true := by kernel_rfl
theorem j8 : ((PP.stopKnobs == [])) = true := by kernel_rfl
theorem j24 : (PP.stopsHeard) = true := by kernel_rfl
theorem j25 : (PP.mayEnter) = true := by kernel_rfl
theorem cM : Tryz.pinned.checked.prog.mainIs = some (true, "c098dedf05992501ee9d2431a2b68abbc1fbd17807d13dd145cd22df0809d7c7".toList) := by kernel_rfl
theorem cL : false = Tryz.pinned.checked.prog.looks [] := by kernel_rfl
end Go.Proofs.YtbhbkaonlillhaaGreatDoor
