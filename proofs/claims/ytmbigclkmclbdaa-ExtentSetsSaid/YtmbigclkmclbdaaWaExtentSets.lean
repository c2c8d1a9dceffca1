/- ExtentSets, walked: a block that is set is as it was set, all others are as they were; what is cut out says nothing. -/
import Derived.Test.YtmbigclkmclbdaaLaw10
import Derived.Test.YtmbigclkmclbdaaAx0
import Derived.Test.YtmbigclkmclbdaaBx3
namespace Go.Proofs.Ytmbigclkmclbdaa.WExtentSets
open Go.RowKit Go.Proofs.YtmbigclkmclbdaaW.PrintWords Go.Proofs.Ytmbigclkmclbdaa.A Go.Proofs.Ytmbigclkmclbdaa.B Go.Proofs.Ytmbigclkmclbdaa.ExtP
set_option linter.unusedVariables false
theorem walk (A : Option Addr) (c : Nat) (l : List S29) (x0 x1 x2 : Int) (w : World) (hc : l.length ≤ c) (hC : Kd.C k29 w A l.length l) (_ : (Lit.int .i64 x0).wf = true) (_ : (Lit.int .i64 x1).wf = true) (_ : (Lit.int .i64 x2).wf = true) :
    Calls Try.prog 4 #[.slice A l.length c, .agg #[.int .i64 x0, .int .i64 x1, .int .i64 x2]] w fun e w' => e = .returned (.bool true) ∧ Below w.heap.size w w' := by
  obtain ⟨k, hk⟩ := sets_eq l ⟨x0, x1, x2⟩
  exact emulsionlaw10_ExtentSets.calls k A c l x0 x1 x2 true w hC hc hk
end Go.Proofs.Ytmbigclkmclbdaa.WExtentSets
