/- Sets of blocks: what is where. No program. -/
import Derived.Test.YtffemlfdhkndiaaSets
import Derived.Test.YtffemlfdhkndiaaTidy
namespace Go.Proofs.Ytffemlfdhkndiaa.Hand
open Go.RowKit Go.Proofs.YtffemlfdhkndiaaW.PrintWords Go.Proofs.Ytffemlfdhkndiaa.A
set_option linter.unusedVariables false
theorem setN_get (s : List Bool) (f : Nat) (on : Bool) (k : Nat) : ∀ m, f + m ≤ s.length → (setN s f on m).getD k false = if f ≤ k ∧ k < f + m then on else s.getD k false
  | 0, _ => by rw [if_neg (by omega)]; rfl
  | m + 1, h => by
    have ih := setN_get s f on k m (by omega)
    have hl := setN_length s f on m
    show ((setN s f on m).set (f + m) on).getD k false = _
    rw [List.getD_eq_getElem?_getD, List.getElem?_set]
    by_cases hk : f + m = k
    · rw [if_pos hk, if_pos (by omega), if_pos (by omega)]; rfl
    · rw [if_neg hk, ← List.getD_eq_getElem?_getD, ih]
      by_cases h2 : f ≤ k ∧ k < f + m
      · rw [if_pos h2, if_pos (by omega)]
      · rw [if_neg h2, if_neg (by omega)]
theorem putOne_get (s : List Bool) (x : S31) (on : Bool) (k : Nat) (hs : s.length = 64) : (putOne s x on).getD k false = if wh x.f0 x.f1 ∧ x.f0 ≤ k ∧ (k : Int) < x.f0 + x.f1 then on else s.getD k false := by
  unfold putOne
  by_cases h : wh x.f0 x.f1
  · have h' := h
    unfold wh at h'
    rw [if_pos h, setN_get _ _ _ _ _ (by omega)]
    by_cases h2 : x.f0 ≤ k ∧ (k : Int) < x.f0 + x.f1
    · rw [if_pos (by omega), if_pos ⟨h, h2⟩]
    · rw [if_neg (by omega), if_neg (fun z => h2 z.2)]
  · rw [if_neg h, if_neg (fun z => h z.1)]
abbrev none64 : List Bool := List.replicate 64 false
theorem none64_get (k : Nat) : none64.getD k false = false := by
  rw [List.getD_eq_getElem?_getD, List.getElem?_replicate]; split <;> rfl
end Go.Proofs.Ytffemlfdhkndiaa.Hand
