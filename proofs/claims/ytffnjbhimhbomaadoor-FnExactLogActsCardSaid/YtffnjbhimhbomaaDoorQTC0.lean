/- Walks, as the kit's print writes them, run with stubs of my own and mended: TC. -/
import Derived.Test.YtffnjbhimhbomaaDoorQTA0
import Derived.Test.YtffnjbhimhbomaaDoorQTB0
namespace Go.Proofs.YtffnjbhimhbomaaDoor.QTC
open Go.Proofs.YtffnjbhimhbomaaDoor.QTA Go.Proofs.YtffnjbhimhbomaaDoor.QTB
open Go.Proofs.YtffnjbhimhbomaaDoorW Go.Proofs.YtffnjbhimhbomaaDoorW.Zip
open Go.RowKit Go.Proofs.YtffnjbhimhbomaaDoorW.PrintWords Go.Proofs.YtffnjbhimhbomaaDoorW.PrintLast Go.Proofs.YtffnjbhimhbomaaDoorW.PrintMore
attribute [local go_sem] max2_int min2_int max_two min_two max_three min_three max_four min_four   -- for this text's walks alone
set_option linter.unusedVariables false
set_option linter.unusedSimpArgs false
end Go.Proofs.YtffnjbhimhbomaaDoor.QTC
