/- Parts of the proof for LeafSlots: MapsAll, ExtAll, Val, OutE. -/
import Derived.Deep.WholeRow
import Derived.BigQuiet
import Derived.Test.YtacmfpkmcefcfaaJLeafSlots4
section
namespace Go.Proofs.Ytacmfpkmcefcfaa.Maps
open Go.RowKit Go.Proofs.YtacmfpkmcefcfaaW.PrintWords Go.Proofs.YtacmfpkmcefcfaaW.PrintLast Go.Proofs.YtacmfpkmcefcfaaW.PrintMore Go.Proofs.Ytacmfpkmcefcfaa.A Go.Proofs.Ytacmfpkmcefcfaa.Hand
set_option linter.unusedVariables false
set_option linter.unusedSimpArgs false
attribute [local go_sem] max2_int min2_int max_two min_two max_three min_three max_four min_four
def noneM : List Int := List.replicate 64 (-1)
theorem noneM_length : noneM.length = 64 := List.length_replicate
/-- May an extent be by itself? -/
def alone (x : S96) : Prop := 0 ≤ x.f0 ∧ 1 ≤ x.f1 ∧ x.f0 + x.f1 ≤ 64 ∧ 0 ≤ x.f2 ∧ (x.f2 = 0 ∨ x.f2 + x.f1 ≤ 61)
instance (x : S96) : Decidable (alone x) := by unfold alone; infer_instance
/-- The first so many blocks of an extent are as it says. -/
def stM (m : List Int) (f : Nat) (id : Int) : Nat → List Int
  | 0 => m
  | n + 1 => (stM m f id n).set (f + n) (if id > 0 then id + n else 0)
def setM (m : List Int) (x : S96) : List Int := if alone x then stM m x.f0.toNat x.f2 x.f1.toNat else m
def ofM (l : List S96) : List Int := l.foldl setM noneM
end Go.Proofs.Ytacmfpkmcefcfaa.Maps
namespace Go.Proofs.Ytacmfpkmcefcfaa.Maps
open Go.RowKit Go.Proofs.YtacmfpkmcefcfaaW.PrintWords Go.Proofs.YtacmfpkmcefcfaaW.PrintLast Go.Proofs.YtacmfpkmcefcfaaW.PrintMore Go.Proofs.Ytacmfpkmcefcfaa.A Go.Proofs.Ytacmfpkmcefcfaa.Hand
set_option linter.unusedVariables false
set_option linter.unusedSimpArgs false
attribute [local go_sem] max2_int min2_int max_two min_two max_three min_three max_four min_four
/-- Is a block one with the block ahead of it? -/
def goesOn (p v : Int) : Prop := v = 0 ∧ p = 0 ∨ 0 < v ∧ 0 < p ∧ v = p + 1
instance (p v : Int) : Decidable (goesOn p v) := by unfold goesOn; infer_instance
/-- Entries as they are in a map. -/
def okM (m : List Int) : Prop := m.length = 64 ∧ ∀ j, -1 ≤ m.getD j 0 ∧ m.getD j 0 ≤ 60
theorem okM.step {m : List Int} (h : okM m) (k : Nat) (v : Int) (h0 : -1 ≤ v) (h1 : v ≤ 60) : okM (m.set k v) := by
  refine ⟨by rw [List.length_set]; exact h.1, fun j => ?_⟩
  rw [List.getD_eq_getElem?_getD, List.getElem?_set]
  split
  · split
    · exact ⟨h0, h1⟩
    · simp
  · have := h.2 j
    rw [List.getD_eq_getElem?_getD] at this
    exact this
theorem okM.none : okM noneM := ⟨noneM_length, fun j => by
  unfold noneM
  rw [List.getD_eq_getElem?_getD, List.getElem?_replicate]
  split <;> simp⟩
theorem okM.st {m : List Int} (h : okM m) (f : Nat) (id : Int) (n : Nat) (hid : id = 0 ∨ id + n ≤ 61) (h0 : 0 ≤ id) : ∀ k, k ≤ n → okM (stM m f id k)
  | 0, _ => h
  | k + 1, hk => by
    rw [stM]
    refine (okM.st h f id n hid h0 k (by omega)).step _ _ ?_ ?_
    · split <;> omega
    · split <;> omega
theorem okM.setM {m : List Int} (h : okM m) (x : S96) : okM (setM m x) := by
  unfold Maps.setM
  split
  · rename_i ha
    obtain ⟨a, b, c, d, e⟩ := ha
    exact h.st _ _ x.f1.toNat (by omega) d _ (Nat.le_refl _)
  · exact h
theorem okM.of (l : List S96) : okM (ofM l) := by
  unfold ofM
  have : ∀ (l : List S96) (m : List Int), okM m → okM (l.foldl Maps.setM m) := by
    intro l
    induction l with
    | nil => intro m h; exact h
    | cons x l ih => intro m h; exact ih _ (h.setM x)
  exact this l _ okM.none
end Go.Proofs.Ytacmfpkmcefcfaa.Maps
namespace Go.Proofs.Ytacmfpkmcefcfaa.Maps
open Go.RowKit Go.Proofs.YtacmfpkmcefcfaaW.PrintWords Go.Proofs.YtacmfpkmcefcfaaW.PrintLast Go.Proofs.YtacmfpkmcefcfaaW.PrintMore Go.Proofs.Ytacmfpkmcefcfaa.A Go.Proofs.Ytacmfpkmcefcfaa.Hand
set_option linter.unusedVariables false
set_option linter.unusedSimpArgs false
attribute [local go_sem] max2_int min2_int max_two min_two max_three min_three max_four min_four
end Go.Proofs.Ytacmfpkmcefcfaa.Maps
end
section
namespace Go.Proofs.Ytacmfpkmcefcfaa.ExtP
open Go.RowKit Go.Proofs.YtacmfpkmcefcfaaW.PrintWords Go.Proofs.YtacmfpkmcefcfaaW.PrintLast Go.Proofs.YtacmfpkmcefcfaaW.PrintMore Go.Proofs.Ytacmfpkmcefcfaa.A Go.Proofs.Ytacmfpkmcefcfaa.Hand Go.Proofs.Ytacmfpkmcefcfaa.Maps
set_option linter.unusedVariables false
set_option linter.unusedSimpArgs false
abbrev EX := S96
/-- Is an extent one with the next one? -/
def oneP (a b : EX) : Prop := a.f0 + a.f1 = b.f0 ∧ (a.f2 = 0 ∧ b.f2 = 0 ∨ 0 < a.f2 ∧ 0 < b.f2 ∧ b.f2 = a.f2 + a.f1)
instance (a b : EX) : Decidable (oneP a b) := by unfold oneP; infer_instance
/-- One more, on a list that lies turned round. -/
def addR : List EX → EX → List EX
  | [], x => [x]
  | a :: r, x => if oneP a x then ⟨a.f0, a.f1 + x.f1, a.f2⟩ :: r else x :: a :: r
/-- The blocks of an extent, one by one. -/
def unA (f id : Int) (n : Nat) : List EX := (List.range n).map fun (i : Nat) => ⟨f + i, 1, if id = 0 then 0 else id + i⟩
def un (x : EX) : List EX := unA x.f0 x.f2 x.f1.toNat
theorem unA_succ (f id : Int) (n : Nat) : unA f id (n + 1) = unA f id n ++ [⟨f + n, 1, if id = 0 then 0 else id + n⟩] := by
  unfold unA; rw [List.range_succ, List.map_append]; rfl
theorem split_n (r : List EX) (f id : Int) (hid : 0 ≤ id) : ∀ n : Nat, (unA f id (n + 1)).foldl addR r = addR r ⟨f, (n : Int) + 1, id⟩
  | 0 => by
    unfold unA
    simp
    by_cases h : id = 0
    · rw [if_pos h, h]
    · rw [if_neg h]
  | n + 1 => by
    rw [unA_succ, List.foldl_append, split_n r f id hid n]
    show addR (addR r _) _ = _
    have hc : (((n + 1 : Nat) : Int) + 1) = (n : Int) + 1 + 1 := by omega
    rw [hc]
    cases r with
    | nil =>
      show (if oneP _ _ then _ else _) = _
      rw [if_pos ⟨by simp, by
        simp only
        by_cases h : id = 0
        · left; exact ⟨h, by rw [if_pos h]⟩
        · right; exact ⟨by omega, by rw [if_neg h]; omega, by rw [if_neg h]; simp⟩⟩]
      rfl
    | cons a r =>
      show addR (if oneP a _ then _ else _) _ = (if oneP a _ then _ else _)
      have hiff : oneP a ⟨f, (n : Int) + 1, id⟩ ↔ oneP a ⟨f, (n : Int) + 1 + 1, id⟩ := Iff.rfl
      by_cases h1 : oneP a ⟨f, (n : Int) + 1, id⟩
      · rw [if_pos h1, if_pos (hiff.1 h1)]
        obtain ⟨h2, h3⟩ := h1
        simp only at h2 h3
        show (if oneP _ _ then _ else _) = _
        rw [if_pos ⟨by simp only; push_cast; omega, by
          simp only
          by_cases h : id = 0
          · left; rw [if_pos h]; exact ⟨by omega, rfl⟩
          · right; rw [if_neg h]; rcases h3 with h3 | h3 <;> exact ⟨by omega, by omega, by omega⟩⟩]
        simp only
        rw [Int.add_assoc a.f1]
      · rw [if_neg h1, if_neg (fun h => h1 (hiff.2 h))]
        show (if oneP _ _ then _ else _) = _
        rw [if_pos ⟨by simp, by
          simp only
          by_cases h : id = 0
          · left; exact ⟨h, by rw [if_pos h]⟩
          · right; exact ⟨by omega, by rw [if_neg h]; omega, by rw [if_neg h]; simp⟩⟩]
theorem split (r : List EX) (x : EX) (h1 : 1 ≤ x.f1) (h2 : 0 ≤ x.f2) : (un x).foldl addR r = addR r x := by
  obtain ⟨f, n, id⟩ := x
  obtain ⟨m, rfl⟩ : ∃ m : Nat, n = (m : Int) + 1 := ⟨(n - 1).toNat, by simp only at h1; omega⟩
  unfold un
  simp only
  rw [show ((m : Int) + 1).toNat = m + 1 by omega]
  exact split_n r f id h2 m
/-- What a list of units comes to. -/
def build (us : List EX) : List EX := (us.foldl addR []).reverse
/-- The units of a map, from its beginning. -/
def units (m : List Int) (k : Nat) : List EX := (List.range k).flatMap fun (j : Nat) => if m.getD j 0 < 0 then [] else [⟨(j : Int), 1, m.getD j 0⟩]
end Go.Proofs.Ytacmfpkmcefcfaa.ExtP
namespace Go.Proofs.Ytacmfpkmcefcfaa.ExtP
open Go.RowKit Go.Proofs.YtacmfpkmcefcfaaW.PrintWords Go.Proofs.YtacmfpkmcefcfaaW.PrintLast Go.Proofs.YtacmfpkmcefcfaaW.PrintMore Go.Proofs.Ytacmfpkmcefcfaa.A Go.Proofs.Ytacmfpkmcefcfaa.Hand Go.Proofs.Ytacmfpkmcefcfaa.Maps
set_option linter.unusedVariables false
set_option linter.unusedSimpArgs false
end Go.Proofs.Ytacmfpkmcefcfaa.ExtP
namespace Go.Proofs.Ytacmfpkmcefcfaa.ExtP
open Go.RowKit Go.Proofs.YtacmfpkmcefcfaaW.PrintWords Go.Proofs.YtacmfpkmcefcfaaW.PrintLast Go.Proofs.YtacmfpkmcefcfaaW.PrintMore Go.Proofs.Ytacmfpkmcefcfaa.A Go.Proofs.Ytacmfpkmcefcfaa.Hand Go.Proofs.Ytacmfpkmcefcfaa.Maps
set_option linter.unusedVariables false
set_option linter.unusedSimpArgs false
end Go.Proofs.Ytacmfpkmcefcfaa.ExtP
namespace Go.Proofs.Ytacmfpkmcefcfaa.ExtP
open Go.RowKit Go.Proofs.YtacmfpkmcefcfaaW.PrintWords Go.Proofs.YtacmfpkmcefcfaaW.PrintLast Go.Proofs.YtacmfpkmcefcfaaW.PrintMore Go.Proofs.Ytacmfpkmcefcfaa.A Go.Proofs.Ytacmfpkmcefcfaa.Hand Go.Proofs.Ytacmfpkmcefcfaa.Maps
set_option linter.unusedVariables false
set_option linter.unusedSimpArgs false
/-- A map, told block by block. -/
def mk (f : Nat → Int) : List Int := (List.range 64).map f
end Go.Proofs.Ytacmfpkmcefcfaa.ExtP
namespace Go.Proofs.Ytacmfpkmcefcfaa.ExtP
open Go.RowKit Go.Proofs.YtacmfpkmcefcfaaW.PrintWords Go.Proofs.YtacmfpkmcefcfaaW.PrintLast Go.Proofs.YtacmfpkmcefcfaaW.PrintMore Go.Proofs.Ytacmfpkmcefcfaa.A Go.Proofs.Ytacmfpkmcefcfaa.Hand Go.Proofs.Ytacmfpkmcefcfaa.Maps
set_option linter.unusedVariables false
set_option linter.unusedSimpArgs false
def startB (m : List Int) (k : Nat) : Bool := decide (0 ≤ m.getD k 0) && ! decide (0 < k ∧ goesOn (m.getD (k - 1) 0) (m.getD k 0))
def cs (m : List Int) : Nat → Nat
  | 0 => 0
  | k + 1 => cs m k + (if startB m k = true then 1 else 0)
end Go.Proofs.Ytacmfpkmcefcfaa.ExtP
end
section
namespace Go.Proofs.Ytacmfpkmcefcfaa.ExtP
open Go.RowKit Go.Proofs.YtacmfpkmcefcfaaW.PrintWords Go.Proofs.YtacmfpkmcefcfaaW.PrintLast Go.Proofs.YtacmfpkmcefcfaaW.PrintMore Go.Proofs.Ytacmfpkmcefcfaa.A Go.Proofs.Ytacmfpkmcefcfaa.Hand Go.Proofs.Ytacmfpkmcefcfaa.Maps
set_option linter.unusedVariables false
set_option linter.unusedSimpArgs false
/-- One extent may stand behind another one. -/
def nextP (a b : EX) : Prop := a.f0 + a.f1 ≤ b.f0 ∧ ¬ oneP a b
instance (a b : EX) : Decidable (nextP a b) := by unfold nextP; infer_instance
/-- The i-th extent is as it should be (B: so many blocks). -/
def goodAt (B : Int) (l : List EX) (i : Nat) : Prop := alone (l.getD i z96) ∧ (l.getD i z96).f0 + (l.getD i z96).f1 ≤ B ∧ (0 < i → nextP (l.getD (i - 1) z96) (l.getD i z96))
instance (B : Int) (l : List EX) (i : Nat) : Decidable (goodAt B l i) := by unfold goodAt; infer_instance
/-- Each stands behind the one ahead of it, not one with it. -/
def chain : List EX → Prop
  | [] => True
  | a :: l => (∀ b, l.head? = some b → nextP a b) ∧ chain l
end Go.Proofs.Ytacmfpkmcefcfaa.ExtP
end
