-- WRITTEN BY ownprint2.py, a program of this session, over functions that were proved by hand (Lean checks it)
import Derived.Test.YtmbigclkmclbdaaAx0
import Derived.Test.YtmbigclkmclbdaaProg
import Derived.Below
import Derived.Deep.Draws
import Derived.Deep.AppendLies
import Derived.Maps.AppendAt
import Derived.OwnWalk
import Derived.Laws.BytesArg
import Derived.Laws.MakeOwn
import Derived.Laws.OwnMore
import Derived.Deep.OwnRows
import Derived.Tactics
import Derived.Lib.ConvBytes
import Derived.Laws.Slices
import Derived.WalkKit
import Derived.KernelRfl
import Derived.RowKit3
import Derived.Deep.LoopGhost
import Derived.Deep.QuietTactic
import Derived.BigQuiet
import Derived.WideLaws
import Derived.Deep.DeepCutAuto
import Derived.Deep.CutBlock
import Derived.Deep.RegionHeld3
import Derived.Laws.Rows
import Derived.Lib.AppendStr
import Derived.ArgAppend
import Derived.Laws.IdiomCopy
import Derived.OrdersHeld
import Derived.Laws.BitsLemmas
import Derived.RowKit
import Derived.Test.YtmbigclkmclbdaaMapsAll
import Derived.Test.YtmbigclkmclbdaaWWords
import Derived.Test.YtmbigclkmclbdaaWLast
import Derived.Test.YtmbigclkmclbdaaWTab
import Derived.Test.YtmbigclkmclbdaaWFour
import Derived.Test.YtmbigclkmclbdaaWQPut
import Derived.Test.YtmbigclkmclbdaaWApart
import Derived.Test.YtmbigclkmclbdaaWArr
import Derived.Test.YtmbigclkmclbdaaWZeros
import Derived.Test.YtmbigclkmclbdaaWFoot
import Derived.Test.YtmbigclkmclbdaaWKept
import Derived.Test.YtmbigclkmclbdaaWShare
import Derived.Test.YtmbigclkmclbdaaWN
import Derived.Test.YtmbigclkmclbdaaWFootNe
import Derived.Test.YtmbigclkmclbdaaWAt
import Derived.Test.YtmbigclkmclbdaaWEqStruct
import Derived.Test.YtmbigclkmclbdaaWRepsOne
import Derived.Test.YtmbigclkmclbdaaWInv
import Derived.Test.YtmbigclkmclbdaaWInvWords
import Derived.Test.YtmbigclkmclbdaaWGuard
import Derived.Test.YtmbigclkmclbdaaWNEv
import Derived.Test.YtmbigclkmclbdaaWMore
namespace Go.Proofs.Ytmbigclkmclbdaa.B
open Go.RowKit Go.Proofs.YtmbigclkmclbdaaW.PrintWords Go.Proofs.YtmbigclkmclbdaaW.PrintLast Go.Proofs.YtmbigclkmclbdaaW.PrintMore Go.Proofs.Ytmbigclkmclbdaa.A
attribute [local go_sem] max2_int min2_int max_two min_two max_three min_three max_four min_four   -- for this text's walks alone
set_option linter.unusedVariables false
set_option linter.unusedSimpArgs false



-- the values' own types
/-! #### struct type 29 -/
/-! #### struct type 34 -/
end Go.Proofs.Ytmbigclkmclbdaa.B
