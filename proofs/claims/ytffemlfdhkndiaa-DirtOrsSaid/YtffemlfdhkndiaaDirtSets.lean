/- Marks as bits and as a set: alike, span by span. No program. -/
import Derived.Test.YtffemlfdhkndiaaDirtLaws
import Derived.Test.YtffemlfdhkndiaaSets
namespace Go.Proofs.Ytffemlfdhkndiaa.Hand
open Go.RowKit Go.Proofs.YtffemlfdhkndiaaW.PrintWords Go.Proofs.Ytffemlfdhkndiaa.A Go.Proofs.Ytffemlfdhkndiaa.Bits
set_option linter.unusedVariables false

def orAll (n : Nat) (l : List S31) (x : Nat) : Nat := l.foldl (fun x s => x ||| markV n s.f0 s.f1) x
theorem orAll_lt (n : Nat) : ∀ (l : List S31) (x : Nat), x < 18446744073709551616 → orAll n l x < 18446744073709551616
  | [], _, h => h
  | s :: l, x, h => orAll_lt n l _ (or_lt h (markV_lt n s.f0 s.f1))
theorem orAll_snoc (n : Nat) (l : List S31) (x i : Nat) (h : i < l.length) : orAll n (l.take (i + 1)) x = orAll n (l.take i) x ||| markV n (rd_T31 l i).f0 (rd_T31 l i).f1 := by
  unfold orAll
  rw [List.take_succ_eq_append_getElem h, List.foldl_append]
  have e : rd_T31 l (i : Int) = l[i] := by
    show l.getD (i : Int).toNat z31 = l[i]
    rw [Int.toNat_natCast, List.getD_eq_getElem?_getD, List.getElem?_eq_getElem h]; rfl
  rw [e]; rfl
theorem orAll_high (n : Nat) : ∀ (l : List S31) (x i : Nat), x.testBit i = false → n ≤ i → (orAll n l x).testBit i = false
  | [], _, _, h, _ => h
  | s :: l, x, i, h, hi => orAll_high n l _ i (by rw [Nat.testBit_or, h, markV_test]; simp; omega) hi
theorem mask_all (n x : Nat) (h : ∀ i, n ≤ i → x.testBit i = false) : x &&& ones 0 n = x := by
  apply Nat.eq_of_testBit_eq
  intro i
  rw [Nat.testBit_and, ones_test]
  by_cases hi : i < n
  · simp [hi]
  · rw [h i (by omega)]; rfl
theorem setN_get (s : List Bool) (f : Nat) (on : Bool) (k : Nat) : ∀ m, f + m ≤ s.length → (setN s f on m).getD k false = if f ≤ k ∧ k < f + m then on else s.getD k false
  | 0, _ => by rw [if_neg (by omega)]; rfl
  | m + 1, h => by
    have ih := setN_get s f on k m (by omega)
    have hl := setN_length s f on m
    show ((setN s f on m).set (f + m) on).getD k false = _
    rw [List.getD_eq_getElem?_getD, List.getElem?_set]
    by_cases hk : f + m = k
    · rw [if_pos hk, if_pos (by omega), if_pos (by omega)]; rfl
    · rw [if_neg hk, ← List.getD_eq_getElem?_getD, ih]
      by_cases h2 : f ≤ k ∧ k < f + m
      · rw [if_pos h2, if_pos (by omega)]
      · rw [if_neg h2, if_neg (by omega)]
theorem putOne_get (s : List Bool) (x : S31) (on : Bool) (k : Nat) (hs : s.length = 64) : (putOne s x on).getD k false = if wh x.f0 x.f1 ∧ x.f0 ≤ k ∧ (k : Int) < x.f0 + x.f1 then on else s.getD k false := by
  unfold putOne
  by_cases h : wh x.f0 x.f1
  · have h' := h
    unfold wh at h'
    rw [if_pos h, setN_get _ _ _ _ _ (by omega)]
    by_cases h2 : x.f0 ≤ k ∧ (k : Int) < x.f0 + x.f1
    · rw [if_pos (by omega), if_pos ⟨h, h2⟩]
    · rw [if_neg (by omega), if_neg (fun z => h2 z.2)]
  · rw [if_neg h, if_neg (fun z => h z.1)]
/-- Bit by bit, below n, the marks are the set. -/
theorem orAll_put (n : Nat) (k : Nat) (hk : k < n) : ∀ (l : List S31) (x : Nat) (s : List Bool), s.length = 64 → x.testBit k = s.getD k false → (orAll n l x).testBit k = (putS s l true).getD k false
  | [], _, _, _, h => h
  | y :: l, x, s, hs, h => orAll_put n k hk l _ (putOne s y true) ((putOne_length s y true).trans hs) (by
      rw [Nat.testBit_or, markV_test, h, putOne_get _ _ _ _ hs, decide_eq_true hk, Bool.and_true]
      by_cases h2 : wh y.f0 y.f1 ∧ y.f0 ≤ (k : Int) ∧ (k : Int) < y.f0 + y.f1
      · rw [if_pos h2, decide_eq_true h2, Bool.or_true]
      · rw [if_neg h2, decide_eq_false h2, Bool.or_false])
abbrev none64 : List Bool := List.replicate 64 false
theorem none64_get (k : Nat) : none64.getD k false = false := by
  rw [List.getD_eq_getElem?_getD, List.getElem?_replicate]; split <;> rfl
end Go.Proofs.Ytffemlfdhkndiaa.Hand
