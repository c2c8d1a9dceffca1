/- What the span functions answer, in numbers: what two have in common, what one has alone, blocks of bytes. -/
import Derived.Test.YtknphhcppllpoaaSpan
import Derived.Test.YtknphhcppllpoaaAx2
import Derived.Test.YtknphhcppllpoaaSt5
namespace Go.Proofs.Ytknphhcppllpoaa.Hand
open Go.RowKit Go.Proofs.YtknphhcppllpoaaW.PrintWords Go.Proofs.YtknphhcppllpoaaW.PrintLast Go.Proofs.YtknphhcppllpoaaW.PrintMore Go.Proofs.Ytknphhcppllpoaa.A
set_option linter.unusedVariables false
set_option linter.unusedSimpArgs false
attribute [local go_sem] max2_int min2_int max_two min_two max_three min_three max_four min_four
theorem blocks_no {a n : Int} (n1 : n ≤ 9223372036854775807) (h : a < 0 ∨ a > 512 ∨ n < 1 ∨ n > 512 - a) : span_Blocks.f a n = some (0, 0, false) := by
  unfold span_Blocks.f
  by_cases h1 : a < 0
  · rw [if_pos h1]
  rw [if_neg h1]
  by_cases h2 : a > 512
  · rw [if_pos h2]
  rw [if_neg h2]
  by_cases h3 : n < 1
  · rw [if_pos h3]
  rw [if_neg h3, w_id (by omega) (by omega), if_pos (by omega)]
theorem blocks_yes {a n : Int} (h0 : 0 ≤ a) (h1 : a ≤ 512) (h2 : 1 ≤ n) (h3 : n ≤ 512 - a) : span_Blocks.f a n = some (a / 8, (a + n - 1) / 8 + 1 - a / 8, true) := by
  unfold span_Blocks.f
  rw [if_neg (by omega), if_neg (by omega), if_neg (by omega), w_id (by omega) (by omega), if_neg (by omega), w_id (x := a + n) (by omega) (by omega), w_id (x := a + n - 1) (by omega) (by omega), w_id (by omega) (by omega), of_yes (by omega) (by omega) (by omega)]
  rfl
def meetV (a m b n : Int) : Int × Int × Bool := if laps a m b n then (max a b, min (a + m) (b + n) - max a b, true) else (0, 0, false)
/-- What a span has without another one. -/
def lessV (a m b n : Int) : List S45 :=
  if wh a m then (if laps a m b n then (if a < b then [⟨a, b - a⟩] else []) ++ (if b + n < a + m then [⟨b + n, a + m - (b + n)⟩] else []) else [⟨a, m⟩]) else []
end Go.Proofs.Ytknphhcppllpoaa.Hand
