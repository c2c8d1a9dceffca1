/- SpanOrder, walked: at every two spans. -/
import Derived.Test.YtjbimnicnehnaaaWaSpanOrderF
import Derived.Test.YtjbimnicnehnaaaWaSpanOrderT
import Derived.Test.YtjbimnicnehnaaaHand
import Derived.Test.YtjbimnicnehnaaaAx6
namespace Go.Proofs.Ytjbimnicnehnaaa.WSpanOrder
open Go.RowKit Go.Proofs.YtjbimnicnehnaaaW.PrintWords Go.Proofs.YtjbimnicnehnaaaW.PrintLast Go.Proofs.YtjbimnicnehnaaaW.PrintMore Go.Proofs.Ytjbimnicnehnaaa.A Go.Proofs.Ytjbimnicnehnaaa.Hand
set_option linter.unusedVariables false
set_option linter.unusedSimpArgs false
attribute [local go_sem] max2_int min2_int max_two min_two max_three min_three max_four min_four
theorem meet_comm (a m b n : Int) : meetV a m b n = meetV b n a m := by
  unfold meetV
  by_cases h : laps a m b n
  · have h2 : laps b n a m := ⟨h.2.1, h.1, by have := h.2.2; omega⟩
    rw [if_pos h, if_pos h2, show max a b = max b a by omega, show min (a + m) (b + n) = min (b + n) (a + m) by omega]
  · have h2 : ¬ laps b n a m := fun x => h ⟨x.2.1, x.1, by have := x.2.2; omega⟩
    rw [if_neg h, if_neg h2]
theorem touch_comm (a m b n : Int) : touches a m b n ↔ touches b n a m :=
  ⟨fun h => ⟨h.2.1, h.1, by have := h.2.2; omega⟩, fun h => ⟨h.2.1, h.1, by have := h.2.2; omega⟩⟩
theorem join_comm (a m b n : Int) : joinV a m b n = joinV b n a m := by
  unfold joinV
  by_cases h : touches a m b n
  · rw [if_pos h, if_pos ((touch_comm a m b n).1 h), show min a b = min b a by omega, show max (a + m) (b + n) = max (b + n) (a + m) by omega]
  · rw [if_neg h, if_neg (fun x => h ((touch_comm a m b n).2 x))]
theorem walk (a m b n : Int) (w : World) (_ : (Lit.int .i64 a).wf = true) (_ : (Lit.int .i64 m).wf = true) (_ : (Lit.int .i64 b).wf = true) (_ : (Lit.int .i64 n).wf = true) :
    Calls Try.prog 5 #[.agg #[.int .i64 a, .int .i64 m], .agg #[.int .i64 b, .int .i64 n]] w fun e w' => e = .returned (.bool true) ∧ Below w.heap.size w w' := by
  have h1 : Aside0 (span_Meet.f 1 a m b n = some ((meetV a m b n).1, (meetV a m b n).2.1, (meetV a m b n).2.2)) := ⟨meet_eq a m b n 0⟩
  have h2 : Aside0 (span_Meet.f 1 b n a m = some ((meetV a m b n).1, (meetV a m b n).2.1, (meetV a m b n).2.2)) := ⟨by rw [meet_eq b n a m 0, meet_comm]⟩
  have h3 : Aside0 (span_Join.f a m b n = some ((joinV a m b n).1, (joinV a m b n).2.1, (joinV a m b n).2.2)) := ⟨join_eq a m b n⟩
  have h4 : Aside0 (span_Join.f b n a m = some ((joinV a m b n).1, (joinV a m b n).2.1, (joinV a m b n).2.2)) := ⟨by rw [join_eq b n a m, join_comm]⟩
  have h6 : Aside0 (span_Touch.f a m b n = some (decide (touches a m b n))) := ⟨touch_eq a m b n⟩
  have h7 : Aside0 (span_Touch.f b n a m = some (decide (touches a m b n))) := ⟨by rw [touch_eq b n a m, decide_eq_decide.2 (touch_comm a m b n)]⟩
  by_cases h : wh a m
  · have hl : laps a m a m := ⟨h, h, by unfold wh at h; omega⟩
    have h5 : Aside0 (span_Meet.f 1 a m a m = some (a, m, true)) := ⟨by
      rw [meet_eq a m a m 0]; unfold meetV; rw [if_pos hl, show max a a = a by omega, show min (a + m) (a + m) - a = m by omega]⟩
    have h9 : Aside0 (span_Less.f 1 a m a m = some []) := ⟨by
      rw [less_eq a m a m 0]; unfold lessV; rw [if_pos h, if_pos hl, if_neg (by omega), if_neg (by omega)]; rfl⟩
    exact walk_true a m b n _ _ _ _ _ _ _ w h1 h2 h3 h4 h5 h6 h7 ⟨by rw [rwhole_eq, decide_eq_true h]⟩ h9
  · have h5 : Aside0 (span_Meet.f 1 a m a m = some (0, 0, false)) := ⟨by
      rw [meet_eq a m a m 0]; unfold meetV; rw [if_neg (fun x => h x.1)]⟩
    exact walk_false a m b n _ _ _ _ _ _ _ w h1 h2 h3 h4 h5 h6 h7 ⟨by rw [rwhole_eq, decide_eq_false h]⟩
end Go.Proofs.Ytjbimnicnehnaaa.WSpanOrder
