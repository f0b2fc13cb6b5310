import Derived.Test.YtgboijlipcimkaaProg
import Derived.Below
import Derived.Deep.Draws
import Derived.Deep.AppendLies
import Derived.Maps.AppendAt
import Derived.OwnWalk
import Derived.Laws.BytesArg
import Derived.Laws.MakeOwn
import Derived.Laws.OwnMore
import Derived.Deep.OwnRows
import Derived.Tactics
import Derived.Lib.ConvBytes
import Derived.Laws.Slices
import Derived.WalkKit
import Derived.KernelRfl
import Derived.RowKit3
import Derived.Deep.LoopGhost
import Derived.Deep.QuietTactic
import Derived.BigQuiet
import Derived.WideLaws
import Derived.Deep.DeepCutAuto
import Derived.Deep.CutBlock
import Derived.Deep.RegionHeld3
import Derived.Laws.Rows
import Derived.Lib.AppendStr
import Derived.ArgAppend
import Derived.Laws.IdiomCopy
import Derived.OrdersHeld
import Derived.Laws.BitsLemmas
import Derived.RowKit
import Derived.Test.YtgboijlipcimkaaWWords
import Derived.Test.YtgboijlipcimkaaWLast
import Derived.Test.YtgboijlipcimkaaWTab
import Derived.Test.YtgboijlipcimkaaWFour
import Derived.Test.YtgboijlipcimkaaWQPut
import Derived.Test.YtgboijlipcimkaaWApart
import Derived.Test.YtgboijlipcimkaaWArr
import Derived.Test.YtgboijlipcimkaaWZeros
import Derived.Test.YtgboijlipcimkaaWFoot
import Derived.Test.YtgboijlipcimkaaWKept
import Derived.Test.YtgboijlipcimkaaWShare
import Derived.Test.YtgboijlipcimkaaWN
import Derived.Test.YtgboijlipcimkaaWFootNe
import Derived.Test.YtgboijlipcimkaaWAt
import Derived.Test.YtgboijlipcimkaaWEqStruct
import Derived.Test.YtgboijlipcimkaaWRepsOne
import Derived.Test.YtgboijlipcimkaaWInv
import Derived.Test.YtgboijlipcimkaaWInvWords
import Derived.Test.YtgboijlipcimkaaWGuard
import Derived.Test.YtgboijlipcimkaaWNEv
import Derived.Test.YtgboijlipcimkaaWMore
namespace Go.Proofs.Ytgboijlipcimkaa.F
open Go.RowKit Go.Proofs.YtgboijlipcimkaaW.PrintWords Go.Proofs.YtgboijlipcimkaaW.PrintLast Go.Proofs.YtgboijlipcimkaaW.PrintMore
attribute [local go_sem] max2_int min2_int max_two min_two max_three min_three max_four min_four   -- for this text's walks alone
set_option linter.unusedVariables false
set_option linter.unusedSimpArgs false



def errW : Option Int → Value
  | none => .nilIface
  | some c => .iface 0 (.int .i64 c)
theorem errW_none : errW none = .nilIface := rfl
theorem errW_some (c : Int) : errW (some c) = .iface 0 (.int .i64 c) := rfl

theorem info2 : (Try.prog.info? 2).map (fun i => (i.zero, i.size, i.bytes)) = some (some (.int .i64 0), 1, 8) := by kernel_rfl
-- the values' own types

end Go.Proofs.Ytgboijlipcimkaa.F
