-- WRITTEN BY ownprint2.py, a program of this session, over functions that were proved by hand (Lean checks it)
import Derived.Test.YtacmfpkmcefcfaaAx0
import Derived.Test.YtacmfpkmcefcfaaProg
import Derived.Below
import Derived.Deep.Draws
import Derived.Deep.AppendLies
import Derived.Maps.AppendAt
import Derived.OwnWalk
import Derived.Laws.BytesArg
import Derived.Laws.MakeOwn
import Derived.Laws.OwnMore
import Derived.Deep.OwnRows
import Derived.Tactics
import Derived.Lib.ConvBytes
import Derived.Laws.Slices
import Derived.WalkKit
import Derived.KernelRfl
import Derived.RowKit3
import Derived.Deep.LoopGhost
import Derived.Deep.QuietTactic
import Derived.BigQuiet
import Derived.WideLaws
import Derived.Deep.DeepCutAuto
import Derived.Deep.CutBlock
import Derived.Deep.RegionHeld3
import Derived.Laws.Rows
import Derived.Lib.AppendStr
import Derived.ArgAppend
import Derived.Laws.IdiomCopy
import Derived.OrdersHeld
import Derived.Laws.BitsLemmas
import Derived.RowKit
import Derived.Test.YtacmfpkmcefcfaaRep
import Derived.Test.YtacmfpkmcefcfaaSlot
import Derived.Test.YtacmfpkmcefcfaaTb
import Derived.Test.YtacmfpkmcefcfaaWWords
import Derived.Test.YtacmfpkmcefcfaaWLast
import Derived.Test.YtacmfpkmcefcfaaWTab
import Derived.Test.YtacmfpkmcefcfaaWFour
import Derived.Test.YtacmfpkmcefcfaaWQPut
import Derived.Test.YtacmfpkmcefcfaaWApart
import Derived.Test.YtacmfpkmcefcfaaWArr
import Derived.Test.YtacmfpkmcefcfaaWZeros
import Derived.Test.YtacmfpkmcefcfaaWFoot
import Derived.Test.YtacmfpkmcefcfaaWKept
import Derived.Test.YtacmfpkmcefcfaaWShare
import Derived.Test.YtacmfpkmcefcfaaWN
import Derived.Test.YtacmfpkmcefcfaaWFootNe
import Derived.Test.YtacmfpkmcefcfaaWAt
import Derived.Test.YtacmfpkmcefcfaaWEqStruct
import Derived.Test.YtacmfpkmcefcfaaWRepsOne
import Derived.Test.YtacmfpkmcefcfaaWInv
import Derived.Test.YtacmfpkmcefcfaaWInvWords
import Derived.Test.YtacmfpkmcefcfaaWGuard
import Derived.Test.YtacmfpkmcefcfaaWNEv
import Derived.Test.YtacmfpkmcefcfaaWMore
namespace Go.Proofs.Ytacmfpkmcefcfaa.B
open Go.RowKit Go.Proofs.YtacmfpkmcefcfaaW.PrintWords Go.Proofs.YtacmfpkmcefcfaaW.PrintLast Go.Proofs.YtacmfpkmcefcfaaW.PrintMore Go.Proofs.Ytacmfpkmcefcfaa.A
attribute [local go_sem] max2_int min2_int max_two min_two max_three min_three max_four min_four   -- for this text's walks alone
set_option linter.unusedVariables false
set_option linter.unusedSimpArgs false



-- the values' own types

end Go.Proofs.Ytacmfpkmcefcfaa.B
