/- What the span functions answer, in numbers: what two have in common, what one has alone, blocks of bytes. -/
import Derived.Test.YtknphhcppllpoaaDoorSpan
import Derived.Test.YtknphhcppllpoaaDoorAx0
namespace Go.Proofs.YtknphhcppllpoaaDoor.Hand
open Go.RowKit Go.Proofs.YtknphhcppllpoaaDoorW.PrintWords Go.Proofs.YtknphhcppllpoaaDoorW.PrintLast Go.Proofs.YtknphhcppllpoaaDoorW.PrintMore Go.Proofs.YtknphhcppllpoaaDoor.A
set_option linter.unusedVariables false
set_option linter.unusedSimpArgs false
attribute [local go_sem] max2_int min2_int max_two min_two max_three min_three max_four min_four
def meetV (a m b n : Int) : Int × Int × Bool := if laps a m b n then (max a b, min (a + m) (b + n) - max a b, true) else (0, 0, false)
/-- What a span has without another one. -/
def lessV (a m b n : Int) : List S55 :=
  if wh a m then (if laps a m b n then (if a < b then [⟨a, b - a⟩] else []) ++ (if b + n < a + m then [⟨b + n, a + m - (b + n)⟩] else []) else [⟨a, m⟩]) else []
end Go.Proofs.YtknphhcppllpoaaDoor.Hand
