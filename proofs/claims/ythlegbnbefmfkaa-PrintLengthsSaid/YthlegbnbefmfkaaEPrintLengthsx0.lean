-- WRITTEN BY ownprint.py, a program of this session, over functions that were proved by hand (Lean checks it)
import Derived.Test.YthlegbnbefmfkaaProg
import Derived.Below
import Derived.Deep.Draws
import Derived.Deep.AppendLies
import Derived.Maps.AppendAt
import Derived.OwnWalk
import Derived.Laws.BytesArg
import Derived.Laws.MakeOwn
import Derived.Laws.OwnMore
import Derived.Deep.OwnRows
import Derived.Tactics
import Derived.Lib.ConvBytes
import Derived.Laws.Slices
import Derived.WalkKit
import Derived.KernelRfl
import Derived.RowKit3
import Derived.Deep.LoopGhost
import Derived.Deep.QuietTactic
import Derived.BigQuiet
import Derived.WideLaws
import Derived.Deep.DeepCutAuto
import Derived.Deep.CutBlock
import Derived.Deep.RegionHeld3
import Derived.Laws.Rows
import Derived.Lib.AppendStr
import Derived.ArgAppend
import Derived.Laws.IdiomCopy
import Derived.OrdersHeld
import Derived.Laws.BitsLemmas
import Derived.RowKit
import Derived.Test.YthlegbnbefmfkaaWWords
import Derived.Test.YthlegbnbefmfkaaWLast
import Derived.Test.YthlegbnbefmfkaaWTab
import Derived.Test.YthlegbnbefmfkaaWFour
import Derived.Test.YthlegbnbefmfkaaWQPut
import Derived.Test.YthlegbnbefmfkaaWApart
import Derived.Test.YthlegbnbefmfkaaWArr
import Derived.Test.YthlegbnbefmfkaaWZeros
import Derived.Test.YthlegbnbefmfkaaWFoot
import Derived.Test.YthlegbnbefmfkaaWKept
import Derived.Test.YthlegbnbefmfkaaWShare
import Derived.Test.YthlegbnbefmfkaaWN
import Derived.Test.YthlegbnbefmfkaaWFootNe
import Derived.Test.YthlegbnbefmfkaaWAt
import Derived.Test.YthlegbnbefmfkaaWEqStruct
import Derived.Test.YthlegbnbefmfkaaWRepsOne
import Derived.Test.YthlegbnbefmfkaaWInv
import Derived.Test.YthlegbnbefmfkaaWInvWords
import Derived.Test.YthlegbnbefmfkaaWGuard
import Derived.Test.YthlegbnbefmfkaaWNEv
import Derived.Test.YthlegbnbefmfkaaWMore
namespace Go.Proofs.Ythlegbnbefmfkaa.EPrintLengths
open Go.RowKit Go.Proofs.YthlegbnbefmfkaaW.PrintWords Go.Proofs.YthlegbnbefmfkaaW.PrintLast Go.Proofs.YthlegbnbefmfkaaW.PrintMore
attribute [local go_sem] max2_int min2_int max_two min_two max_three min_three max_four min_four   -- for this text's walks alone
set_option linter.unusedVariables false
set_option linter.unusedSimpArgs false



def errW : Option Int → Value
  | none => .nilIface
  | some c => .iface 0 (.int .i64 c)
theorem errW_none : errW none = .nilIface := rfl
theorem errW_some (c : Int) : errW (some c) = .iface 0 (.int .i64 c) := rfl

-- the values' own types

end Go.Proofs.Ythlegbnbefmfkaa.EPrintLengths
