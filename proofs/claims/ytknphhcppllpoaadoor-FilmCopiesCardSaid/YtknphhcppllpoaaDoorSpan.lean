/- What the span functions answer, in numbers. -/
import Derived.Test.YtknphhcppllpoaaDoorBase
import Derived.Test.YtknphhcppllpoaaDoorAx10
import Derived.Test.YtknphhcppllpoaaDoorAx7
import Derived.Test.YtknphhcppllpoaaDoorAx8
namespace Go.Proofs.YtknphhcppllpoaaDoor.Hand
open Go.RowKit Go.Proofs.YtknphhcppllpoaaDoorW.PrintWords Go.Proofs.YtknphhcppllpoaaDoorW.PrintLast Go.Proofs.YtknphhcppllpoaaDoorW.PrintMore Go.Proofs.YtknphhcppllpoaaDoor.A
set_option linter.unusedVariables false
set_option linter.unusedSimpArgs false
attribute [local go_sem] max2_int min2_int max_two min_two max_three min_three max_four min_four
theorem of_yes {a b : Int} (h : a < b) (h0 : -4611686018427387904 ≤ a) (h1 : b ≤ 4611686018427387903) : span_of.f a b = some (a, b - a, true) := by
  unfold span_of.f; rw [if_neg (by omega), w_id (by omega) (by omega)]
theorem of_no {a b : Int} (h : b ≤ a) : span_of.f a b = some (0, 0, false) := by
  unfold span_of.f; rw [if_pos (by omega)]
theorem whole_yes {a n : Int} (h0 : 0 ≤ a) (h1 : 1 ≤ n) (h2 : a + n ≤ 64) : span_whole.f a n = some true := by
  unfold span_whole.f
  rw [if_pos (by omega), if_pos (by omega), if_pos (by omega), w_id (by omega) (by omega), decide_eq_true (by omega)]
theorem end_yes {a n : Int} (h0 : 0 ≤ a) (h1 : 1 ≤ n) (h2 : a + n ≤ 64) : span_End.f a n = some (a + n) := by
  unfold span_End.f
  rw [whole_yes h0 h1 h2, Option.bind_some, if_pos rfl, w_id (by omega) (by omega)]
/-! ### what the span functions answer, in numbers -/
abbrev wh (a n : Int) : Prop := 0 ≤ a ∧ 1 ≤ n ∧ a + n ≤ 64
theorem whole_eq (a n : Int) : span_whole.f a n = some (decide (wh a n)) := by
  unfold span_whole.f wh
  by_cases h1 : a ≥ 0
  · rw [if_pos h1]
    by_cases h2 : a ≤ 64
    · rw [if_pos h2]
      by_cases h3 : n ≥ 1
      · rw [if_pos h3, w_id (by omega) (by omega)]
        congr 1
        rw [decide_eq_decide]; omega
      · rw [if_neg h3, decide_eq_false (by omega)]
    · rw [if_neg h2, decide_eq_false (by omega)]
  · rw [if_neg h1, decide_eq_false (by omega)]
def endV (a n : Int) : Int := if wh a n then a + n else 0
theorem end_eq (a n : Int) : span_End.f a n = some (endV a n) := by
  unfold span_End.f endV
  rw [whole_eq, Option.bind_some]
  by_cases h : wh a n
  · rw [if_pos h, if_pos (decide_eq_true h), w_id (by unfold wh at h; omega) (by unfold wh at h; omega)]
  · rw [if_neg h, if_neg (by rw [decide_eq_true_eq]; exact h)]
abbrev laps (a m b n : Int) : Prop := wh a m ∧ wh b n ∧ max a b < min (a + m) (b + n)
abbrev touches (a m b n : Int) : Prop := wh a m ∧ wh b n ∧ max a b ≤ min (a + m) (b + n)
def joinV (a m b n : Int) : Int × Int × Bool := if touches a m b n then (min a b, max (a + m) (b + n) - min a b, true) else (0, 0, false)
theorem valid_eq (a n b : Int) (hb : -4611686018427387904 ≤ b) : span_Valid.f a n b = some (decide (wh a n ∧ a + n ≤ b)) := by
  unfold span_Valid.f
  rw [whole_eq, Option.bind_some]
  by_cases h : wh a n
  · rw [if_pos (decide_eq_true h), w_id (by unfold wh at h; omega) (by unfold wh at h; omega)]
    congr 1
    rw [decide_eq_decide]
    exact ⟨fun x => ⟨h, x⟩, fun x => x.2⟩
  · rw [if_neg (by rw [decide_eq_true_eq]; exact h), decide_eq_false (fun x => h x.1)]
end Go.Proofs.YtknphhcppllpoaaDoor.Hand
