-- WRITTEN BY ownprint2.py, a program of this session, over functions that were proved by hand (Lean checks it)
import Derived.Test.YtknphhcppllpoaaProg
import Derived.Below
import Derived.Deep.Draws
import Derived.Deep.AppendLies
import Derived.Maps.AppendAt
import Derived.OwnWalk
import Derived.Laws.BytesArg
import Derived.Laws.MakeOwn
import Derived.Laws.OwnMore
import Derived.Deep.OwnRows
import Derived.Tactics
import Derived.Lib.ConvBytes
import Derived.Laws.Slices
import Derived.WalkKit
import Derived.KernelRfl
import Derived.RowKit3
import Derived.Deep.LoopGhost
import Derived.Deep.QuietTactic
import Derived.BigQuiet
import Derived.WideLaws
import Derived.Deep.DeepCutAuto
import Derived.Deep.CutBlock
import Derived.Deep.RegionHeld3
import Derived.Laws.Rows
import Derived.Lib.AppendStr
import Derived.ArgAppend
import Derived.Laws.IdiomCopy
import Derived.OrdersHeld
import Derived.Laws.BitsLemmas
import Derived.RowKit
import Derived.Test.YtknphhcppllpoaaWWords
import Derived.Test.YtknphhcppllpoaaWLast
import Derived.Test.YtknphhcppllpoaaWTab
import Derived.Test.YtknphhcppllpoaaWFour
import Derived.Test.YtknphhcppllpoaaWQPut
import Derived.Test.YtknphhcppllpoaaWApart
import Derived.Test.YtknphhcppllpoaaWArr
import Derived.Test.YtknphhcppllpoaaWZeros
import Derived.Test.YtknphhcppllpoaaWFoot
import Derived.Test.YtknphhcppllpoaaWKept
import Derived.Test.YtknphhcppllpoaaWShare
import Derived.Test.YtknphhcppllpoaaWN
import Derived.Test.YtknphhcppllpoaaWFootNe
import Derived.Test.YtknphhcppllpoaaWAt
import Derived.Test.YtknphhcppllpoaaWEqStruct
import Derived.Test.YtknphhcppllpoaaWRepsOne
import Derived.Test.YtknphhcppllpoaaWInv
import Derived.Test.YtknphhcppllpoaaWInvWords
import Derived.Test.YtknphhcppllpoaaWGuard
import Derived.Test.YtknphhcppllpoaaWNEv
import Derived.Test.YtknphhcppllpoaaWMore
namespace Go.Proofs.Ytknphhcppllpoaa.A
open Go.RowKit Go.Proofs.YtknphhcppllpoaaW.PrintWords Go.Proofs.YtknphhcppllpoaaW.PrintLast Go.Proofs.YtknphhcppllpoaaW.PrintMore
attribute [local go_sem] max2_int min2_int max_two min_two max_three min_three max_four min_four   -- for this text's walks alone
set_option linter.unusedVariables false
set_option linter.unusedSimpArgs false



def errW : Option Int → Value
  | none => .nilIface
  | some c => .iface 0 (.int .i64 c)
theorem errW_none : errW none = .nilIface := rfl
theorem errW_some (c : Int) : errW (some c) = .iface 0 (.int .i64 c) := rfl

theorem info5 : (Try.prog.info? 5).map (fun i => (i.zero, i.size, i.bytes)) = some (some (.int .u8 0), 1, 1) := by kernel_rfl
-- the values' own types

end Go.Proofs.Ytknphhcppllpoaa.A
