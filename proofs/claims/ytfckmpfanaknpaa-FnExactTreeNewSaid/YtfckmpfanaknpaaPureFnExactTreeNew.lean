/- What FnExactTreeNew answers. -/
import Derived.Test.YtfckmpfanaknpaaLw
namespace Go.Proofs.Ytfckmpfanaknpaa.Pure
open Go.Proofs.Ytfckmpfanaknpaa.QTN
theorem FnExactTreeNew : ∃ k, laws_FnExactTreeNew.f k = some true := ⟨0, rfl⟩
end Go.Proofs.Ytfckmpfanaknpaa.Pure
