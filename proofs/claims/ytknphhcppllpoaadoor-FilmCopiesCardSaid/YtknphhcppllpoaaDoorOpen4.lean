/- Slices of structs that came in, read as lists. -/
import Derived.Test.YtknphhcppllpoaaDoorOpen
import Derived.Test.YtknphhcppllpoaaDoorAx0
namespace Go.Proofs.YtknphhcppllpoaaDoor.Open
open Go.RowKit Go.ChangeShapes Go.WideShapes Go.Deep Go.Proofs.YtknphhcppllpoaaDoorW.PrintWords Go.Proofs.YtknphhcppllpoaaDoor.A
set_option linter.unusedVariables false
set_option linter.unusedSimpArgs false
theorem open_put {H : Type} {enc : TypeId × Value → H} {w : World} {held : Bool} {spare : Nat → Bool} {A : Option Addr} {len cap : Nat} {d : DataW H} {p : List MemPlace}
    (h : DataW.Trod enc Tryd.prog w 0 spare held 22 (.slice A len cap) d p) :
    ∃ l : List S31, len = l.length ∧ l.length ≤ cap ∧ Kd.C k31 w A l.length l ∧ ∀ x ∈ l, (Lit.int .i64 x.f0).wf = true ∧ x.f1.size ≤ maxLen := by
  obtain ⟨fuel, hf⟩ := h
  rcases open_slice_fields Tryd.underlying22 Tryd.underlying31 (by kernel_rfl) (by kernel_rfl) hf with ⟨hcs, _⟩ | ⟨a, len', cap', m, D, Pl, hcs, _, hl, hm, hmm, _, hi⟩
  · simp [Value.cells] at hcs
    obtain ⟨rfl, rfl, rfl⟩ := hcs
    exact ⟨[], rfl, Nat.le_refl _, ⟨rfl, by decide, fun h => by simp at h⟩, fun x hx => by cases hx⟩
  · simp [Value.cells] at hcs
    obtain ⟨rfl, rfl, rfl⟩ := hcs
    have hml : len ≤ m := by rw [hmm]; split <;> omega
    obtain ⟨l, h1, h2⟩ := list_of (Q := fun i (x : S31) => (w.cell? (a.add (i * 2 + 0)) = some (.int .i64 x.f0) ∧ w.cell? (a.add (i * 2 + 1)) = some (.string x.f1)) ∧ (Lit.int .i64 x.f0).wf = true ∧ x.f1.size ≤ maxLen) len (fun i hi' => by
      obtain ⟨ys, n, _, _, _, hfl⟩ := hi i (by omega)
      obtain ⟨v0, y0, c0, _, t0⟩ := hfl 0 _ rfl
      obtain ⟨v1, y1, c1, _, t1⟩ := hfl 1 _ rfl
      obtain ⟨x0, e0, _, w0⟩ := DataW.trod_int Tryd.underlying3 t0
      obtain ⟨x1, e1, _, w1⟩ := DataW.trod_string Tryd.underlying9 t1
      simp at e0 e1
      subst e0 e1
      exact ⟨⟨x0, x1⟩, ⟨c0, c1⟩, w0, w1⟩)
    refine ⟨l, h1.symm, by omega, ⟨rfl, by unfold maxLen at hm; omega, fun _ => ⟨a, rfl, fun j x hj => ⟨[.int .i64 x.f0, .string x.f1], rfl, k31_mk w x, fun q u hq => ?_⟩⟩⟩, fun x hx => ?_⟩
    · obtain ⟨⟨g0, g1⟩, _⟩ := h2 j x hj
      match q, hq with
      | 0, hq => injection hq with hq; subst hq; exact g0
      | 1, hq => injection hq with hq; subst hq; exact g1
      | q + 2, hq => simp at hq
    · obtain ⟨j, hj, rfl⟩ := List.mem_iff_getElem.1 hx
      exact (h2 j _ (List.getElem?_eq_getElem hj)).2
end Go.Proofs.YtknphhcppllpoaaDoor.Open
