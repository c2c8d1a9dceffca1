/- Proved here: the blocks of some bytes and of some more behind them together are the blocks of all of them; no condition. -/
import Derived.Test.YtjbimnicnehnaaaBx2
import Derived.Test.YtjbimnicnehnaaaHand
namespace Go.Proofs.Ytjbimnicnehnaaa.Pure
open Go.RowKit Go.Proofs.Ytjbimnicnehnaaa.A Go.Proofs.Ytjbimnicnehnaaa.B Go.Proofs.Ytjbimnicnehnaaa.Hand Go.Proofs.YtjbimnicnehnaaaW.PrintWords Go.Proofs.YtjbimnicnehnaaaW.PrintLast
set_option linter.unusedVariables false
set_option linter.unusedSimpArgs false

theorem alive_eq : Hand.alive1.f = some true := rfl

theorem join_yes {a m b n : Int} (a0 : 0 ≤ a) (m1 : 1 ≤ m) (am : a + m ≤ 64) (b0 : 0 ≤ b) (n1 : 1 ≤ n) (bn : b + n ≤ 64) (h : max a b ≤ min (a + m) (b + n)) :
    span_Join.f a m b n = some (min a b, max (a + m) (b + n) - min a b, true) := by
  unfold span_Join.f span_Touch.f
  rw [whole_yes a0 m1 am, Option.bind_some, if_pos rfl, whole_yes b0 n1 bn, Option.bind_some, if_pos rfl, end_yes a0 m1 am, Option.bind_some, end_yes b0 n1 bn, Option.bind_some, mx_eq, mn_eq, decide_eq_true h, Option.bind_some, if_pos rfl, Option.bind_some, Option.bind_some, mx_eq, mn_eq, of_yes (by omega) (by omega) (by omega)]
  rfl
theorem has_yes {a n k : Int} (a0 : 0 ≤ a) (n1 : 1 ≤ n) (an : a + n ≤ 64) (h : a ≤ k) (h2 : k < a + n) : span_Has.f a n k = some true := by
  unfold span_Has.f
  rw [whole_yes a0 n1 an, Option.bind_some, if_pos rfl, if_pos (by omega), end_yes a0 n1 an, Option.bind_some, decide_eq_true h2]
theorem valid_yes {a n : Int} (a0 : 0 ≤ a) (n1 : 1 ≤ n) (an : a + n ≤ 64) : span_Valid.f a n 64 = some true := by
  unfold span_Valid.f
  rw [whole_yes a0 n1 an, Option.bind_some, if_pos rfl, w_id (by omega) (by omega), decide_eq_true an]
theorem SpanBytes : emulsionlaw1_SpanBytes.Pure := by
  intro a m n wa wm wn
  refine ⟨5, ?_⟩
  unfold emulsionlaw1_SpanBytes.f
  have hal : emulsionlaw1_SpanBytes.j0 5 a m n true = some true := by
    simp only [emulsionlaw1_SpanBytes.j0]
    rw [if_pos trivial, alive_eq]; rfl
  by_cases h1 : a < 0
  · rw [if_pos h1]; exact hal
  rw [if_neg h1]
  by_cases h2 : m < 1
  · rw [if_pos h2]; exact hal
  rw [if_neg h2]
  by_cases h3 : n < 1
  · rw [if_pos h3]; exact hal
  rw [if_neg h3]
  by_cases h4 : a > 300
  · rw [if_pos h4]; exact hal
  rw [if_neg h4]
  by_cases h5 : m > 100
  · rw [if_pos h5]; exact hal
  rw [if_neg h5]
  by_cases h6 : n > 100
  · rw [if_pos h6]; exact hal
  rw [if_neg h6, alive_eq, Option.bind_some]
  simp only [emulsionlaw1_SpanBytes.j0, Bool.not_true]
  have e1 : Int.tdiv a 8 = a / 8 := Int.tdiv_eq_ediv_of_nonneg (by omega)
  have e2 : Int.tdiv (a + m + n - 1) 8 = (a + m + n - 1) / 8 := Int.tdiv_eq_ediv_of_nonneg (by omega)
  rw [if_neg (by decide), blocks_yes (by omega) (by omega) (by omega) (by omega), Option.bind_some, w_id (x := a + m) (by omega) (by omega), w_id (x := m + n) (by omega) (by omega), blocks_yes (by omega) (by omega) (by omega) (by omega), Option.bind_some, blocks_yes (by omega) (by omega) (by omega) (by omega), Option.bind_some]
  simp only
  rw [if_pos trivial, if_pos trivial]
  simp only [emulsionlaw1_SpanBytes.j1, Bool.not_true]
  rw [if_neg (by decide), join_yes (by omega) (by omega) (by omega) (by omega) (by omega) (by omega) (by omega), Option.bind_some]
  simp only
  rw [if_pos trivial, if_pos (by rw [Bool.and_eq_true, beq_iff_eq, beq_iff_eq]; omega), w_id (x := a + m) (by omega) (by omega), w_id (x := a + m + n) (by omega) (by omega), w_id (x := a + m + n - 1) (by omega) (by omega), e1, e2, w_id (x := a / 8) (by omega) (by omega), w_id (x := (a + m + n - 1) / 8) (by omega) (by omega), has_yes (by omega) (by omega) (by omega) (by omega) (by omega), Option.bind_some, if_pos rfl, has_yes (by omega) (by omega) (by omega) (by omega) (by omega), Option.bind_some, if_pos rfl, valid_yes (by omega) (by omega) (by omega), Option.bind_some]

end Go.Proofs.Ytjbimnicnehnaaa.Pure
