-- WRITTEN BY ownprint2.py, a program of this session, over functions that were proved by hand (Lean checks it)
import Derived.Test.YtjbimnicnehnaaaAx0
import Derived.Test.YtjbimnicnehnaaaProg
import Derived.Below
import Derived.Deep.Draws
import Derived.Deep.AppendLies
import Derived.Maps.AppendAt
import Derived.OwnWalk
import Derived.Laws.BytesArg
import Derived.Laws.MakeOwn
import Derived.Laws.OwnMore
import Derived.Deep.OwnRows
import Derived.Tactics
import Derived.Lib.ConvBytes
import Derived.Laws.Slices
import Derived.WalkKit
import Derived.KernelRfl
import Derived.RowKit3
import Derived.Deep.LoopGhost
import Derived.Deep.QuietTactic
import Derived.BigQuiet
import Derived.WideLaws
import Derived.Deep.DeepCutAuto
import Derived.Deep.CutBlock
import Derived.Deep.RegionHeld3
import Derived.Laws.Rows
import Derived.Lib.AppendStr
import Derived.ArgAppend
import Derived.Laws.IdiomCopy
import Derived.OrdersHeld
import Derived.Laws.BitsLemmas
import Derived.RowKit
import Derived.Test.YtjbimnicnehnaaaHand
import Derived.Test.YtjbimnicnehnaaaWWords
import Derived.Test.YtjbimnicnehnaaaWLast
import Derived.Test.YtjbimnicnehnaaaWTab
import Derived.Test.YtjbimnicnehnaaaWFour
import Derived.Test.YtjbimnicnehnaaaWQPut
import Derived.Test.YtjbimnicnehnaaaWApart
import Derived.Test.YtjbimnicnehnaaaWArr
import Derived.Test.YtjbimnicnehnaaaWZeros
import Derived.Test.YtjbimnicnehnaaaWFoot
import Derived.Test.YtjbimnicnehnaaaWKept
import Derived.Test.YtjbimnicnehnaaaWShare
import Derived.Test.YtjbimnicnehnaaaWN
import Derived.Test.YtjbimnicnehnaaaWFootNe
import Derived.Test.YtjbimnicnehnaaaWAt
import Derived.Test.YtjbimnicnehnaaaWEqStruct
import Derived.Test.YtjbimnicnehnaaaWRepsOne
import Derived.Test.YtjbimnicnehnaaaWInv
import Derived.Test.YtjbimnicnehnaaaWInvWords
import Derived.Test.YtjbimnicnehnaaaWGuard
import Derived.Test.YtjbimnicnehnaaaWNEv
import Derived.Test.YtjbimnicnehnaaaWMore
namespace Go.Proofs.Ytjbimnicnehnaaa.B
open Go.RowKit Go.Proofs.YtjbimnicnehnaaaW.PrintWords Go.Proofs.YtjbimnicnehnaaaW.PrintLast Go.Proofs.YtjbimnicnehnaaaW.PrintMore Go.Proofs.Ytjbimnicnehnaaa.A
attribute [local go_sem] max2_int min2_int max_two min_two max_three min_three max_four min_four   -- for this text's walks alone
set_option linter.unusedVariables false
set_option linter.unusedSimpArgs false



-- the values' own types
/-! #### struct type 24 -/
end Go.Proofs.Ytjbimnicnehnaaa.B
