-- WRITTEN BY ownprint.py, a program of this session, over functions that were proved by hand (Lean checks it)
import Derived.Test.YtacmfpkmcefcfaaProg
import Derived.Below
import Derived.Deep.Draws
import Derived.Deep.AppendLies
import Derived.Maps.AppendAt
import Derived.OwnWalk
import Derived.Laws.BytesArg
import Derived.Laws.MakeOwn
import Derived.Laws.OwnMore
import Derived.Deep.OwnRows
import Derived.Tactics
import Derived.Lib.ConvBytes
import Derived.Laws.Slices
import Derived.WalkKit
import Derived.KernelRfl
import Derived.RowKit3
import Derived.Deep.LoopGhost
import Derived.Deep.QuietTactic
import Derived.BigQuiet
import Derived.WideLaws
import Derived.Deep.DeepCutAuto
import Derived.Deep.CutBlock
import Derived.Deep.RegionHeld3
import Derived.Laws.Rows
import Derived.Lib.AppendStr
import Derived.ArgAppend
import Derived.Laws.IdiomCopy
import Derived.OrdersHeld
import Derived.Laws.BitsLemmas
import Derived.RowKit
import Derived.Test.YtacmfpkmcefcfaaRep
import Derived.Test.YtacmfpkmcefcfaaTb
import Derived.Test.YtacmfpkmcefcfaaWWords
import Derived.Test.YtacmfpkmcefcfaaWLast
import Derived.Test.YtacmfpkmcefcfaaWTab
import Derived.Test.YtacmfpkmcefcfaaWFour
import Derived.Test.YtacmfpkmcefcfaaWQPut
import Derived.Test.YtacmfpkmcefcfaaWApart
import Derived.Test.YtacmfpkmcefcfaaWArr
import Derived.Test.YtacmfpkmcefcfaaWZeros
import Derived.Test.YtacmfpkmcefcfaaWFoot
import Derived.Test.YtacmfpkmcefcfaaWKept
import Derived.Test.YtacmfpkmcefcfaaWShare
import Derived.Test.YtacmfpkmcefcfaaWN
import Derived.Test.YtacmfpkmcefcfaaWFootNe
import Derived.Test.YtacmfpkmcefcfaaWAt
import Derived.Test.YtacmfpkmcefcfaaWEqStruct
import Derived.Test.YtacmfpkmcefcfaaWRepsOne
import Derived.Test.YtacmfpkmcefcfaaWInv
import Derived.Test.YtacmfpkmcefcfaaWInvWords
import Derived.Test.YtacmfpkmcefcfaaWGuard
import Derived.Test.YtacmfpkmcefcfaaWNEv
import Derived.Test.YtacmfpkmcefcfaaWMore
namespace Go.Proofs.Ytacmfpkmcefcfaa.OLeafTells
open Go.RowKit Go.Proofs.YtacmfpkmcefcfaaW.PrintWords Go.Proofs.YtacmfpkmcefcfaaW.PrintLast Go.Proofs.YtacmfpkmcefcfaaW.PrintMore
attribute [local go_sem] max2_int min2_int max_two min_two max_three min_three max_four min_four   -- for this text's walks alone
set_option linter.unusedVariables false
set_option linter.unusedSimpArgs false



def errW : Option Int → Value
  | none => .nilIface
  | some c => .iface 0 (.int .i64 c)
theorem errW_none : errW none = .nilIface := rfl
theorem errW_some (c : Int) : errW (some c) = .iface 0 (.int .i64 c) := rfl

theorem info5 : (Try.prog.info? 5).map (fun i => (i.zero, i.size, i.bytes)) = some (some (.int .u8 0), 1, 1) := by kernel_rfl
theorem info9 : (Try.prog.info? 9).map (fun i => (i.zero, i.size, i.bytes)) = some (some (.string ⟨#[]⟩), 1, 16) := by kernel_rfl
-- the values' own types

end Go.Proofs.Ytacmfpkmcefcfaa.OLeafTells
