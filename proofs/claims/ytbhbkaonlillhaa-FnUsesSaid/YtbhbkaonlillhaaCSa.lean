/- Contracts: the laws' helpers. -/
import Derived.Test.YtbhbkaonlillhaaCEb
import Derived.Test.YtbhbkaonlillhaaCDa
namespace Go.Proofs.Ytbhbkaonlillhaa
open Go Go.Abs Go.Proofs Go.Tm
set_option linter.unusedSimpArgs false
set_option linter.unusedVariables false
set_option maxRecDepth 10000
variable {Z : TypeId → Nat} {G : World → Prop} {B0 : Nat}
theorem big_spec (hZ : ZOk Try.prog Z) (b : List Int) : Does Z Try.prog G B0 21 [.c (byE b)] [] [] (fun y _ => ∃ v, y = bA v) := by
  refine Does.bodyF hZ Try.func21 rfl rfl (Nat.le_of_ble_eq_true rfl) fun hf => ?_
  simp [Try.f21, byE]
  omega
end Go.Proofs.Ytbhbkaonlillhaa
