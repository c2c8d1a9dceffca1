/- Slices of structs that came in, read as lists. -/
import Derived.Test.YtknphhcppllpoaaOpen
import Derived.Test.YtknphhcppllpoaaSt5
namespace Go.Proofs.Ytknphhcppllpoaa.Open
open Go.RowKit Go.ChangeShapes Go.WideShapes Go.Deep Go.Proofs.YtknphhcppllpoaaW.PrintWords Go.Proofs.Ytknphhcppllpoaa.A
set_option linter.unusedVariables false
set_option linter.unusedSimpArgs false
theorem open_still {H : Type} {enc : TypeId × Value → H} {w : World} {held : Bool} {spare : Nat → Bool} {A : Option Addr} {len cap : Nat} {d : DataW H} {p : List MemPlace}
    (h : DataW.Trod enc Try.prog w 0 spare held 36 (.slice A len cap) d p) :
    ∃ l : List S38, len = l.length ∧ l.length ≤ cap ∧ Kd.C k38 w A l.length l ∧ ∀ x ∈ l, (Lit.int .i64 x.f0).wf = true ∧ (Lit.int .i64 x.f1).wf = true ∧ x.f2.size ≤ maxLen := by
  obtain ⟨fuel, hf⟩ := h
  rcases open_slice_fields Try.underlying36 Try.underlying38 (by kernel_rfl) (by kernel_rfl) hf with ⟨hcs, _⟩ | ⟨a, len', cap', m, D, Pl, hcs, _, hl, hm, hmm, _, hi⟩
  · simp [Value.cells] at hcs
    obtain ⟨rfl, rfl, rfl⟩ := hcs
    exact ⟨[], rfl, Nat.le_refl _, ⟨rfl, by decide, fun h => by simp at h⟩, fun x hx => by cases hx⟩
  · simp [Value.cells] at hcs
    obtain ⟨rfl, rfl, rfl⟩ := hcs
    have hml : len ≤ m := by rw [hmm]; split <;> omega
    obtain ⟨l, h1, h2⟩ := list_of (Q := fun i (x : S38) => (w.cell? (a.add (i * 3 + 0)) = some (.int .i64 x.f0) ∧ w.cell? (a.add (i * 3 + 1)) = some (.int .i64 x.f1) ∧ w.cell? (a.add (i * 3 + 2)) = some (.string x.f2)) ∧ (Lit.int .i64 x.f0).wf = true ∧ (Lit.int .i64 x.f1).wf = true ∧ x.f2.size ≤ maxLen) len (fun i hi' => by
      obtain ⟨ys, n, _, _, _, hfl⟩ := hi i (by omega)
      obtain ⟨v0, y0, c0, _, t0⟩ := hfl 0 _ rfl
      obtain ⟨v1, y1, c1, _, t1⟩ := hfl 1 _ rfl
      obtain ⟨v2, y2, c2, _, t2⟩ := hfl 2 _ rfl
      obtain ⟨x0, e0, _, w0⟩ := DataW.trod_int Try.underlying3 t0
      obtain ⟨x1, e1, _, w1⟩ := DataW.trod_int Try.underlying3 t1
      obtain ⟨x2, e2, _, w2⟩ := DataW.trod_string Try.underlying9 t2
      simp at e0 e1 e2
      subst e0 e1 e2
      exact ⟨⟨x0, x1, x2⟩, ⟨c0, c1, c2⟩, w0, w1, w2⟩)
    refine ⟨l, h1.symm, by omega, ⟨rfl, by unfold maxLen at hm; omega, fun _ => ⟨a, rfl, fun j x hj => ⟨[.int .i64 x.f0, .int .i64 x.f1, .string x.f2], rfl, k38_mk w x, fun q u hq => ?_⟩⟩⟩, fun x hx => ?_⟩
    · obtain ⟨⟨g0, g1, g2⟩, _⟩ := h2 j x hj
      match q, hq with
      | 0, hq => injection hq with hq; subst hq; exact g0
      | 1, hq => injection hq with hq; subst hq; exact g1
      | 2, hq => injection hq with hq; subst hq; exact g2
      | q + 3, hq => simp at hq
    · obtain ⟨j, hj, rfl⟩ := List.mem_iff_getElem.1 hx
      exact (h2 j _ (List.getElem?_eq_getElem hj)).2
end Go.Proofs.Ytknphhcppllpoaa.Open
