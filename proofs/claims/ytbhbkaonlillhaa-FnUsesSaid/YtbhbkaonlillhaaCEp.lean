/- Contracts of the laws' functions on records, files, acts. -/
import Derived.Test.YtbhbkaonlillhaaCEg
import Derived.Test.YtbhbkaonlillhaaTm
namespace Go.Proofs.Ytbhbkaonlillhaa
open Go Go.Abs Go.Proofs Go.Tm
set_option linter.unusedSimpArgs false
set_option linter.unusedVariables false
set_option maxRecDepth 10000
variable {Z : TypeId → Nat} {G : World → Prop} {B0 : Nat}
def edE (x : Edt) : List Cell := [iC x.kind, sC x.path, sC x.to, iC x.num, iC x.who]
def edsE (own : Bool) (l : List Edt) : Cell := .row own 142 (l.map edE)
def edA (x : Edt) : AV := .agg ((edE x).map .c)
@[simp] theorem share_eds (l : List Edt) : shareLL (l.map edE) = l.map edE := by simp [shareLL_eq, edE, share]
theorem noShr_eds (l : List Edt) : noShr (edsE true l) = true := by simp [edsE, edE, noShrLL_mem]
end Go.Proofs.Ytbhbkaonlillhaa
