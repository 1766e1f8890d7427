/- Walks, as the kit's print writes them, run with stubs of my own and mended: JP. -/
import Derived.Test.YtmmepphohdnlmaaProg
import Derived.Below
import Derived.Deep.Draws
import Derived.Deep.AppendLies
import Derived.Maps.AppendAt
import Derived.OwnWalk
import Derived.Laws.BytesArg
import Derived.Laws.MakeOwn
import Derived.Laws.OwnMore
import Derived.Deep.OwnRows
import Derived.Tactics
import Derived.Lib.ConvBytes
import Derived.Laws.Slices
import Derived.WalkKit
import Derived.KernelRfl
import Derived.RowKit3
import Derived.Deep.LoopGhost
import Derived.Deep.QuietTactic
import Derived.BigQuiet
import Derived.WideLaws
import Derived.Deep.DeepCutAuto
import Derived.Deep.CutBlock
import Derived.Deep.RegionHeld3
import Derived.Laws.Rows
import Derived.Lib.AppendStr
import Derived.ArgAppend
import Derived.Laws.IdiomCopy
import Derived.OrdersHeld
import Derived.Laws.BitsLemmas
import Derived.RowKit
import Derived.Test.YtmmepphohdnlmaaShelf
import Derived.Test.YtmmepphohdnlmaaWWords
import Derived.Test.YtmmepphohdnlmaaWLast
import Derived.Test.YtmmepphohdnlmaaWTab
import Derived.Test.YtmmepphohdnlmaaWFour
import Derived.Test.YtmmepphohdnlmaaWQPut
import Derived.Test.YtmmepphohdnlmaaWApart
import Derived.Test.YtmmepphohdnlmaaWArr
import Derived.Test.YtmmepphohdnlmaaWZeros
import Derived.Test.YtmmepphohdnlmaaWFoot
import Derived.Test.YtmmepphohdnlmaaWKept
import Derived.Test.YtmmepphohdnlmaaWShare
import Derived.Test.YtmmepphohdnlmaaWN
import Derived.Test.YtmmepphohdnlmaaWFootNe
import Derived.Test.YtmmepphohdnlmaaWAt
import Derived.Test.YtmmepphohdnlmaaWEqStruct
import Derived.Test.YtmmepphohdnlmaaWRepsOne
import Derived.Test.YtmmepphohdnlmaaWInv
import Derived.Test.YtmmepphohdnlmaaWInvWords
import Derived.Test.YtmmepphohdnlmaaWGuard
import Derived.Test.YtmmepphohdnlmaaWNEv
import Derived.Test.YtmmepphohdnlmaaWMore
namespace Go.Proofs.Ytmmepphohdnlmaa.QJP
open Go.RowKit Go.Proofs.YtmmepphohdnlmaaW.PrintWords Go.Proofs.YtmmepphohdnlmaaW.PrintLast Go.Proofs.YtmmepphohdnlmaaW.PrintMore
attribute [local go_sem] max2_int min2_int max_two min_two max_three min_three max_four min_four   -- for this text's walks alone
set_option linter.unusedVariables false
set_option linter.unusedSimpArgs false



def errW : Option Int → Value
  | none => .nilIface
  | some c => .iface 0 (.int .i64 c)
theorem errW_none : errW none = .nilIface := rfl
theorem errW_some (c : Int) : errW (some c) = .iface 0 (.int .i64 c) := rfl

theorem info9 : (Try.prog.info? 9).map (fun i => (i.zero, i.size, i.bytes)) = some (some (.string ⟨#[]⟩), 1, 16) := by kernel_rfl
-- the values' own types

end Go.Proofs.Ytmmepphohdnlmaa.QJP
