/- Walks, as the kit's print writes them, run with stubs of my own and mended: PB. -/
import Derived.Test.YtmgdekfajjdcdaaDoorQPA0
import Derived.Test.YtmgdekfajjdcdaaDoorZrPB
namespace Go.Proofs.YtmgdekfajjdcdaaDoor.QPB
open Go.Proofs.YtmgdekfajjdcdaaDoorW.Zip.RPB
open Go.Proofs.YtmgdekfajjdcdaaDoor.QPA
open Go.Proofs.YtmgdekfajjdcdaaDoorW Go.Proofs.YtmgdekfajjdcdaaDoorW.Zip
open Go.RowKit Go.Proofs.YtmgdekfajjdcdaaDoorW.PrintWords Go.Proofs.YtmgdekfajjdcdaaDoorW.PrintLast Go.Proofs.YtmgdekfajjdcdaaDoorW.PrintMore
attribute [local go_sem] max2_int min2_int max_two min_two max_three min_three max_four min_four   -- for this text's walks alone
set_option linter.unusedVariables false
set_option linter.unusedSimpArgs false
theorem info5 : (Tryd.prog.info? 5).map (fun i => (i.zero, i.size, i.bytes)) = some (some (.int .u8 0), 1, 1) := by kernel_rfl
end Go.Proofs.YtmgdekfajjdcdaaDoor.QPB
