/- What the span functions answer, in numbers: what two have in common, what one has alone, blocks of bytes. -/
import Derived.Test.YtmbigclkmclbdaaSpan
import Derived.Test.YtmbigclkmclbdaaAx0
import Derived.Test.YtmbigclkmclbdaaAx8
import Derived.Test.YtmbigclkmclbdaaAx9
namespace Go.Proofs.Ytmbigclkmclbdaa.Hand
open Go.RowKit Go.Proofs.YtmbigclkmclbdaaW.PrintWords Go.Proofs.YtmbigclkmclbdaaW.PrintLast Go.Proofs.YtmbigclkmclbdaaW.PrintMore Go.Proofs.Ytmbigclkmclbdaa.A
set_option linter.unusedVariables false
set_option linter.unusedSimpArgs false
attribute [local go_sem] max2_int min2_int max_two min_two max_three min_three max_four min_four
def meetV (a m b n : Int) : Int × Int × Bool := if laps a m b n then (max a b, min (a + m) (b + n) - max a b, true) else (0, 0, false)
theorem meet_eq (a m b n : Int) (k : Nat) : span_Meet.f (k + 1) a m b n = some (meetV a m b n) := by
  unfold span_Meet.f meetV
  rw [whole_eq, Option.bind_some]
  by_cases h : wh a m
  · rw [if_pos (decide_eq_true h), whole_eq, Option.bind_some]
    by_cases h2 : wh b n
    · simp only [span_Meet.j0]
      rw [decide_eq_true h2, if_neg (by decide), end_eq, end_eq, Option.bind_some, Option.bind_some, mx_eq, mn_eq]
      unfold endV
      rw [if_pos h, if_pos h2]
      by_cases h3 : max a b < min (a + m) (b + n)
      · rw [of_yes h3 (by unfold wh at h; omega) (by unfold wh at h; omega), if_pos ⟨h, h2, h3⟩]; rfl
      · rw [of_no (by omega), if_neg (fun x => h3 x.2.2)]; rfl
    · simp only [span_Meet.j0]
      rw [decide_eq_false h2, if_pos (by decide), if_neg (fun x => h2 x.2.1)]
  · rw [if_neg (by rw [decide_eq_true_eq]; exact h)]
    simp only [span_Meet.j0]
    rw [if_pos trivial, if_neg (fun x => h x.1)]
/-- What a span has without another one. -/
def lessV (a m b n : Int) : List S34 :=
  if wh a m then (if laps a m b n then (if a < b then [⟨a, b - a⟩] else []) ++ (if b + n < a + m then [⟨b + n, a + m - (b + n)⟩] else []) else [⟨a, m⟩]) else []
theorem less_eq (a m b n : Int) (k : Nat) : span_Less.f (k + 1) a m b n = some (lessV a m b n) := by
  unfold span_Less.f lessV
  rw [whole_eq, Option.bind_some]
  by_cases h : wh a m
  · rw [if_pos (decide_eq_true h), meet_eq, Option.bind_some, if_pos h]
    unfold meetV
    by_cases h2 : laps a m b n
    · have h' := h2
      unfold laps wh at h'
      rw [if_pos h2, if_pos h2]
      simp only
      rw [if_pos trivial]
      have hw : wh (max a b) (min (a + m) (b + n) - max a b) := by unfold wh; omega
      have he : endV (max a b) (min (a + m) (b + n) - max a b) = min (a + m) (b + n) := by unfold endV; rw [if_pos hw]; omega
      have he2 : endV a m = a + m := by unfold endV; rw [if_pos h]
      by_cases h3 : a < b
      · rw [of_yes (by omega) (by omega) (by omega), Option.bind_some]
        simp only
        rw [if_pos trivial, if_pos (by simp)]
        simp only [span_Less.j0]
        rw [end_eq, Option.bind_some, end_eq, Option.bind_some, he, he2, if_pos h3]
        by_cases h4 : b + n < a + m
        · rw [of_yes (by omega) (by omega) (by omega), Option.bind_some]
          simp only
          rw [if_pos trivial, if_pos (by simp), if_pos h4, show max a b = b by omega, show min (a + m) (b + n) = b + n by omega]; rfl
        · rw [of_no (by omega), Option.bind_some]
          simp only
          rw [if_neg (by decide), if_neg h4, show max a b = b by omega]; rfl
      · rw [of_no (by omega), Option.bind_some]
        simp only
        rw [if_neg (by decide)]
        simp only [span_Less.j0]
        rw [end_eq, Option.bind_some, end_eq, Option.bind_some, he, he2, if_neg h3]
        by_cases h4 : b + n < a + m
        · rw [of_yes (by omega) (by omega) (by omega), Option.bind_some]
          simp only
          rw [if_pos trivial, if_pos (by simp), if_pos h4, show min (a + m) (b + n) = b + n by omega]
        · rw [of_no (by omega), Option.bind_some]
          simp only
          rw [if_neg (by decide), if_neg h4]; rfl
    · rw [if_neg h2, if_neg h2]; rfl
  · rw [if_neg (by rw [decide_eq_true_eq]; exact h), if_neg h]
end Go.Proofs.Ytmbigclkmclbdaa.Hand
