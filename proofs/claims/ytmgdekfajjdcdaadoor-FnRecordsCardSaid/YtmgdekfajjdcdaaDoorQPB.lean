/- Walks, as the kit's print writes them, run with stubs of my own and mended: PB. -/
import Derived.Test.YtmgdekfajjdcdaaDoorQPB0
import Derived.Test.YtmgdekfajjdcdaaDoorQPB1
import Derived.Test.YtmgdekfajjdcdaaDoorQPB2
import Derived.Test.YtmgdekfajjdcdaaDoorQPB3
import Derived.Test.YtmgdekfajjdcdaaDoorQPB4
import Derived.Test.YtmgdekfajjdcdaaDoorQPB5
import Derived.Test.YtmgdekfajjdcdaaDoorQPB6
import Derived.Test.YtmgdekfajjdcdaaDoorQPB7
import Derived.Test.YtmgdekfajjdcdaaDoorQPB8
import Derived.Test.YtmgdekfajjdcdaaDoorQPB9
import Derived.Test.YtmgdekfajjdcdaaDoorZrPB
namespace Go.Proofs.YtmgdekfajjdcdaaDoor.QPB
open Go.Proofs.YtmgdekfajjdcdaaDoorW.Zip.RPB
open Go.Proofs.YtmgdekfajjdcdaaDoor.QPA
open Go.Proofs.YtmgdekfajjdcdaaDoorW Go.Proofs.YtmgdekfajjdcdaaDoorW.Zip
open Go.RowKit Go.Proofs.YtmgdekfajjdcdaaDoorW.PrintWords Go.Proofs.YtmgdekfajjdcdaaDoorW.PrintLast Go.Proofs.YtmgdekfajjdcdaaDoorW.PrintMore
attribute [local go_sem] max2_int min2_int max_two min_two max_three min_three max_four min_four   -- for this text's walks alone
set_option linter.unusedVariables false
set_option linter.unusedSimpArgs false
end Go.Proofs.YtmgdekfajjdcdaaDoor.QPB
