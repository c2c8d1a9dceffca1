/- Proved here: of every bytes the blocks of which they have one, or none; no condition. -/
import Derived.Test.YtjbimnicnehnaaaBx2
import Derived.Test.YtjbimnicnehnaaaHand
namespace Go.Proofs.Ytjbimnicnehnaaa.Pure
open Go.RowKit Go.Proofs.Ytjbimnicnehnaaa.A Go.Proofs.Ytjbimnicnehnaaa.B Go.Proofs.Ytjbimnicnehnaaa.Hand Go.Proofs.YtjbimnicnehnaaaW.PrintWords Go.Proofs.YtjbimnicnehnaaaW.PrintLast
set_option linter.unusedVariables false
set_option linter.unusedSimpArgs false

theorem alive_eq : Hand.alive1.f = some true := rfl

theorem SpanBlocks : emulsionlaw1_SpanBlocks.Pure := by
  intro a n wa wn
  obtain ⟨a0, a1⟩ := wf64 wa
  obtain ⟨n0, n1⟩ := wf64 wn
  unfold emulsionlaw1_SpanBlocks.f
  rw [alive_eq, Option.bind_some, if_pos rfl]
  by_cases h : a < 0 ∨ a > 512 ∨ n < 1 ∨ n > 512 - a
  · rw [blocks_no n1 h, Option.bind_some]
    simp only
    have hw (h3 : 1 ≤ n) (h4 : n ≤ 512) : wrap64 (512 - n) = 512 - n := w_id (by omega) (by omega)
    by_cases h1 : a < 0
    · rw [if_pos h1]; rfl
    rw [if_neg h1]
    by_cases h2 : n < 1
    · rw [if_pos h2]; rfl
    rw [if_neg h2]
    by_cases h3 : n > 512
    · rw [if_pos h3]; rfl
    rw [if_neg h3, hw (by omega) (by omega), if_pos (by omega)]; rfl
  · rw [blocks_yes (by omega) (by omega) (by omega) (by omega), Option.bind_some]
    simp only
    have e1 : Int.tdiv a 8 = a / 8 := Int.tdiv_eq_ediv_of_nonneg (by omega)
    have e2 : Int.tdiv (a + n - 1) 8 = (a + n - 1) / 8 := Int.tdiv_eq_ediv_of_nonneg (by omega)
    rw [if_neg (by omega), if_neg (by omega), if_neg (by omega), w_id (x := 512 - n) (by omega) (by omega), if_neg (by omega), if_pos trivial]
    rw [w_id (x := a + n) (by omega) (by omega), w_id (x := a + n - 1) (by omega) (by omega), e1, e2, w_id (x := a / 8) (by omega) (by omega), w_id (x := (a + n - 1) / 8) (by omega) (by omega), w_id (x := (a + n - 1) / 8 - a / 8) (by omega) (by omega), w_id (by omega) (by omega)]
    rw [beq_self_eq_true, Bool.true_and, beq_iff_eq.2 (by omega)]

end Go.Proofs.Ytjbimnicnehnaaa.Pure
