/- The law of BelowOf. -/
import Derived.Test.YtbhbkaonlillhaaGreatDoorCEi
import Derived.Test.YtbhbkaonlillhaaGreatDoorCEc
namespace Go.Proofs.YtbhbkaonlillhaaGreatDoor
open Go Go.Abs Go.Proofs Go.Tm
set_option linter.unusedSimpArgs false
set_option linter.unusedVariables false
set_option maxRecDepth 10000
variable {Z : TypeId → Nat} {G : World → Prop} {B0 : Nat}
theorem noShr_ints (l : List Int) : noShr (intsE true l) = true := by simp [intsE, noShrLL_mem]
theorem iBelowOf_spec2 (hZ : ZOk Tryz.prog Z) (t : Tree) (id : Int) : Does Z Tryz.prog G B0 52 [trA false t, iA id] [] [] (fun y _ => y = .c (intsE true (belowOf t id))) :=
  (iBelowOf_spec hZ t id).denil 3 fun y _ h => by
    rcases h with rfl | ⟨rfl, h⟩
    · simp [denil, intsE]
    · simp [denil, intsE, h]
end Go.Proofs.YtbhbkaonlillhaaGreatDoor
