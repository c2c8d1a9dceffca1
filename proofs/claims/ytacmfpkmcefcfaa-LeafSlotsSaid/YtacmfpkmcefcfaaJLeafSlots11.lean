/- Parts of the proof for LeafSlots: Open, OpenI. -/
import Derived.Deep.Slices
import Derived.Deep.Fields
import Derived.ChangeSame
import Derived.ChangeSlices
import Derived.Test.YtacmfpkmcefcfaaJLeafSlots4
section
namespace Go.Proofs.Ytacmfpkmcefcfaa.Open
open Go.RowKit Go.ChangeShapes Go.WideShapes Go.Deep Go.Proofs.YtacmfpkmcefcfaaW.PrintWords Go.Proofs.Ytacmfpkmcefcfaa.A
set_option linter.unusedVariables false
theorem open_ints {H : Type} {enc : TypeId × Value → H} {w : World} {held : Bool} {spare : Nat → Bool} {A : Option Addr} {len cap : Nat} {d : DataW H} {p : List MemPlace}
    (h : DataW.Trod enc Try.prog w 0 spare held 75 (.slice A len cap) d p) :
    ∃ l : List Int, len = l.length ∧ l.length ≤ cap ∧ Kd.C (Kd.int .i64) w A l.length l := by
  obtain ⟨fuel, hf⟩ := h
  rcases Go.ChangeShapes.open_ints Try.underlying75 Try.underlying3 (by kernel_rfl) hf with ⟨hcs, _⟩ | ⟨a, len', cap', zs, hcs, _, hl, hm, hmm, _, hi, _⟩
  · simp [Value.cells] at hcs
    obtain ⟨rfl, rfl, rfl⟩ := hcs
    exact ⟨[], rfl, Nat.le_refl _, rfl, by decide, fun h => by simp at h⟩
  · simp [Value.cells] at hcs
    obtain ⟨rfl, rfl, rfl⟩ := hcs
    have hml : len ≤ zs.length := by rw [hmm]; split <;> omega
    have hlt : (zs.take len).length = len := by rw [List.length_take]; omega
    refine ⟨zs.take len, hlt.symm, by omega, rfl, by unfold maxLen at hm; omega, fun _ => ⟨a, rfl, fun j x hj => ⟨[.int .i64 x], rfl, rfl, fun q u hq => ?_⟩⟩⟩
    have hjl : j < len := by have := (List.getElem?_eq_some_iff.1 hj).1; omega
    have hz : zs.getD j 0 = x := by
      rw [List.getElem?_take, if_pos hjl] at hj
      simp [List.getD, hj]
    match q, hq with
    | 0, hq => injection hq with hq; subst hq; have := hi j (by omega); rw [hz] at this; show w.cell? (a.add (j * 1 + 0)) = _; rw [Nat.mul_one]; exact this
    | q + 1, hq => simp at hq
end Go.Proofs.Ytacmfpkmcefcfaa.Open
end
