/- Marks as bits and as a set: alike, span by span. No program. -/
import Derived.Test.YtffemlfdhkndiaaDirtLaws
import Derived.Test.YtffemlfdhkndiaaSetsB
namespace Go.Proofs.Ytffemlfdhkndiaa.Hand
open Go.RowKit Go.Proofs.YtffemlfdhkndiaaW.PrintWords Go.Proofs.Ytffemlfdhkndiaa.A Go.Proofs.Ytffemlfdhkndiaa.Bits
set_option linter.unusedVariables false

def orAll (n : Nat) (l : List S31) (x : Nat) : Nat := l.foldl (fun x s => x ||| markV n s.f0 s.f1) x
theorem orAll_lt (n : Nat) : ∀ (l : List S31) (x : Nat), x < 18446744073709551616 → orAll n l x < 18446744073709551616
  | [], _, h => h
  | s :: l, x, h => orAll_lt n l _ (or_lt h (markV_lt n s.f0 s.f1))
theorem orAll_snoc (n : Nat) (l : List S31) (x i : Nat) (h : i < l.length) : orAll n (l.take (i + 1)) x = orAll n (l.take i) x ||| markV n (rd_T31 l i).f0 (rd_T31 l i).f1 := by
  unfold orAll
  rw [List.take_succ_eq_append_getElem h, List.foldl_append]
  have e : rd_T31 l (i : Int) = l[i] := by
    show l.getD (i : Int).toNat z31 = l[i]
    rw [Int.toNat_natCast, List.getD_eq_getElem?_getD, List.getElem?_eq_getElem h]; rfl
  rw [e]; rfl
theorem orAll_high (n : Nat) : ∀ (l : List S31) (x i : Nat), x.testBit i = false → n ≤ i → (orAll n l x).testBit i = false
  | [], _, _, h, _ => h
  | s :: l, x, i, h, hi => orAll_high n l _ i (by rw [Nat.testBit_or, h, markV_test]; simp; omega) hi
theorem mask_all (n x : Nat) (h : ∀ i, n ≤ i → x.testBit i = false) : x &&& ones 0 n = x := by
  apply Nat.eq_of_testBit_eq
  intro i
  rw [Nat.testBit_and, ones_test]
  by_cases hi : i < n
  · simp [hi]
  · rw [h i (by omega)]; rfl
/-- Bit by bit, below n, the marks are the set. -/
theorem orAll_put (n : Nat) (k : Nat) (hk : k < n) : ∀ (l : List S31) (x : Nat) (s : List Bool), s.length = 64 → x.testBit k = s.getD k false → (orAll n l x).testBit k = (putS s l true).getD k false
  | [], _, _, _, h => h
  | y :: l, x, s, hs, h => orAll_put n k hk l _ (putOne s y true) ((putOne_length s y true).trans hs) (by
      rw [Nat.testBit_or, markV_test, h, putOne_get _ _ _ _ hs, decide_eq_true hk, Bool.and_true]
      by_cases h2 : wh y.f0 y.f1 ∧ y.f0 ≤ (k : Int) ∧ (k : Int) < y.f0 + y.f1
      · rw [if_pos h2, decide_eq_true h2, Bool.or_true]
      · rw [if_neg h2, decide_eq_false h2, Bool.or_false])
end Go.Proofs.Ytffemlfdhkndiaa.Hand
