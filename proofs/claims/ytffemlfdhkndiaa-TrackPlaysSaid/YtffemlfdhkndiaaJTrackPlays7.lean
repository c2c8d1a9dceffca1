/- Parts of the proof for TrackPlays: Open, Ops. -/
import Derived.Deep.Slices
import Derived.Deep.Fields
import Derived.ChangeSame
import Derived.Test.YtffemlfdhkndiaaJTrackPlays2
section
namespace Go.Proofs.Ytffemlfdhkndiaa.Open
open Go.RowKit Go.ChangeShapes Go.WideShapes Go.Deep Go.Proofs.YtffemlfdhkndiaaW.PrintWords Go.Proofs.Ytffemlfdhkndiaa.A
set_option linter.unusedVariables false
section
variable {H : Type} {enc : TypeId × Value → H} {P : Program} {w : World} {base : Nat} {spare : Nat → Bool} {held : Bool}
end
theorem list_of {α : Type} {Q : Nat → α → Prop} : ∀ n : Nat, (∀ i, i < n → ∃ x, Q i x) → ∃ l : List α, l.length = n ∧ ∀ i x, l[i]? = some x → Q i x
  | 0, _ => ⟨[], rfl, fun i x h => by simp at h⟩
  | n + 1, H => by
    obtain ⟨l, hl, hq⟩ := list_of n (fun i hi => H i (by omega))
    obtain ⟨x, hx⟩ := H n (by omega)
    refine ⟨l ++ [x], by simp [hl], fun i y h => ?_⟩
    rw [List.getElem?_append] at h
    by_cases hi : i < l.length
    · rw [if_pos hi] at h; exact hq i y h
    · rw [if_neg hi] at h
      have : i - l.length = 0 := by
        rcases Nat.eq_zero_or_pos (i - l.length) with h0 | h0
        · exact h0
        · rw [List.getElem?_eq_none (by simp; omega)] at h; cases h
      rw [this] at h
      injection h with h
      subst h
      rw [show i = n by omega]; exact hx
end Go.Proofs.Ytffemlfdhkndiaa.Open
end
section
namespace Go.Proofs.Ytffemlfdhkndiaa.Open
open Go.RowKit Go.ChangeShapes Go.WideShapes Go.Deep Go.Proofs.YtffemlfdhkndiaaW.PrintWords Go.Proofs.Ytffemlfdhkndiaa.A
set_option linter.unusedVariables false
set_option linter.unusedSimpArgs false
section
variable {H : Type} {enc : TypeId × Value → H} {P : Program} {w : World} {base : Nat} {spare : Nat → Bool} {held : Bool}
theorem open_slice_elems {t e : TypeId} {fuel : Nat} {cs : List Value} {x : DataW H × List MemPlace} (ht : P.underlying t = some (.slice e)) (h : DataW.trod enc P w base spare held fuel t cs = some x) :
    cs = [.slice none 0 0] ∨ ∃ (a : Addr) (len cap : Nat), cs = [.slice (some a) len cap] ∧ len ≤ cap ∧ cap ≤ maxLen ∧
      ∀ i, i < len → ∃ (cs' : List Value) (n : Nat) (y : DataW H × List MemPlace), cs'.length = P.cellsOf e ∧ (∀ j, j < P.cellsOf e → w.cell? (a.add (i * P.cellsOf e + j)) = cs'[j]?) ∧ DataW.trod enc P w base spare held n e cs' = some y := by
  rcases open_slice ht h with ⟨h0, _⟩ | ⟨a, len, cap, m, n, D, Pl, hcs, hb, hl, hm, hmm, hx, hi⟩
  · exact .inl h0
  · refine .inr ⟨a, len, cap, hcs, hl, hm, fun i hil => ?_⟩
    have him : i < m := by rw [hmm]; split <;> omega
    obtain ⟨cs', hc, ht'⟩ := hi i him
    obtain ⟨_, hcl, hat⟩ := World.cells?_some hc
    exact ⟨cs', n, _, hcl, fun j hj => by rw [← Go.Deep.add_add]; exact hat j hj, ht'⟩
theorem list_two {α : Type} {l : List α} (h : l.length = 2) : ∃ a b, l = [a, b] := by
  match l, h with
  | [a, b], _ => exact ⟨a, b, rfl⟩
theorem list_three {α : Type} {l : List α} (h : l.length = 3) : ∃ a b c, l = [a, b, c] := by
  match l, h with
  | [a, b, c], _ => exact ⟨a, b, c, rfl⟩
theorem ci : Try.prog.cellsOf 3 = 1 := by kernel_rfl
theorem cs' : Try.prog.cellsOf 31 = 2 := by kernel_rfl
theorem open_span_cells {n : Nat} {cs : List Value} {y : DataW H × List MemPlace} (h : DataW.trod enc Try.prog w base spare held n 31 cs = some y) : ∃ a m : Int, cs = [.int .i64 a, .int .i64 m] := by
  obtain ⟨xs, q, rfl, _, hcl, hxl, hf⟩ := DataW.trod_struct Try.underlying31 h
  obtain ⟨c0, c1, rfl⟩ := list_two (hcl.trans cs')
  obtain ⟨y0, y1, rfl⟩ := list_two (show xs.length = 2 from hxl)
  have h0 := hf 0 _ rfl
  have h1 := hf 1 _ rfl
  clear hf hcl hxl h
  simp only [List.getElem_toArray, List.getElem_cons_zero, List.getElem_cons_succ, ci, cs', List.drop_zero, List.drop_succ_cons, List.take_succ_cons, List.take_zero, List.getElem?_cons_zero, List.getElem?_cons_succ] at h0 h1
  obtain ⟨x0, e0, _, _⟩ := DataW.trod_int (x := y0) Try.underlying3 h0
  obtain ⟨x1, e1, _, _⟩ := DataW.trod_int (x := y1) Try.underlying3 h1
  injection e0 with e0
  injection e1 with e1
  subst e0 e1
  exact ⟨x0, x1, rfl⟩
theorem co : Try.prog.cellsOf 70 = 3 := by kernel_rfl
theorem open_op6_cells {n : Nat} {cs : List Value} {y : DataW H × List MemPlace} (h : DataW.trod enc Try.prog w base spare held n 70 cs = some y) : ∃ k a m : Int, cs = [.int .i64 k, .int .i64 a, .int .i64 m] := by
  obtain ⟨xs, q, rfl, _, hcl, hxl, hf⟩ := DataW.trod_struct Try.underlying70 h
  obtain ⟨c0, c1, c2, rfl⟩ := list_three (hcl.trans co)
  obtain ⟨y0, y1, rfl⟩ := list_two (show xs.length = 2 from hxl)
  have h0 := hf 0 _ rfl
  have h1 := hf 1 _ rfl
  clear hf hcl hxl h
  simp only [List.getElem_toArray, List.getElem_cons_zero, List.getElem_cons_succ, ci, cs', List.drop_zero, List.drop_succ_cons, List.take_succ_cons, List.take_zero, List.getElem?_cons_zero, List.getElem?_cons_succ] at h0 h1
  obtain ⟨x0, e0, _, _⟩ := DataW.trod_int (x := y0) Try.underlying3 h0
  obtain ⟨a, m, e1⟩ := open_span_cells (y := y1) h1
  injection e0 with e0
  injection e1 with e1 e2
  injection e2 with e2
  subst e0 e1 e2
  exact ⟨x0, a, m, rfl⟩
end
/-- What is done: a number and a span. -/
structure Op6 where
  kind : Int
  f0 : Int
  f1 : Int
def OpsC (w : World) (A : Option Addr) (l : List Op6) : Prop := l.length ≤ 9223372036854775807 ∧ (0 < l.length → ∃ ad, A = some ad ∧ ∀ (i : Nat) (x : Op6), l[i]? = some x → w.cell? (ad.add (i * 3)) = some (.int .i64 x.kind) ∧ w.cell? ⟨(ad.add (i * 3)).block, (ad.add (i * 3)).off + 1, none⟩ = some (.int .i64 x.f0) ∧ w.cell? ⟨(ad.add (i * 3)).block, (ad.add (i * 3)).off + 2, none⟩ = some (.int .i64 x.f1))
theorem OpsC.keep {w w1 : World} {A : Option Addr} {l : List Op6} (h : OpsC w A l) (hB : Below w.heap.size w w1) : OpsC w1 A l := by
  refine ⟨h.1, fun hn => ?_⟩
  obtain ⟨ad, e, hc⟩ := h.2 hn
  refine ⟨ad, e, fun i x hx => ?_⟩
  obtain ⟨a, b, c⟩ := hc i x hx
  exact ⟨(hB.cell (World.block_lt_of_cell? w _ a)).trans a, (hB.cell (World.block_lt_of_cell? w _ b)).trans b, (hB.cell (World.block_lt_of_cell? w _ c)).trans c⟩
theorem OpsC.at {w : World} {A : Option Addr} {l : List Op6} (h : OpsC w A l) (i : Nat) (hi : i < l.length) : ∃ ad, A = some ad ∧ w.cell? (ad.add (i * 3)) = some (.int .i64 l[i].kind) ∧ w.cell? ⟨(ad.add (i * 3)).block, (ad.add (i * 3)).off + 1, none⟩ = some (.int .i64 l[i].f0) ∧ w.cell? ⟨(ad.add (i * 3)).block, (ad.add (i * 3)).off + 2, none⟩ = some (.int .i64 l[i].f1) := by
  obtain ⟨ad, e, hc⟩ := h.2 (by omega)
  exact ⟨ad, e, hc i _ (List.getElem?_eq_getElem hi)⟩
theorem add_off (a : Addr) (i j : Nat) (h : 0 < j) : a.add (i + j) = ⟨(a.add i).block, (a.add i).off + j, none⟩ := by
  unfold Addr.add
  rw [if_neg (by omega)]
  by_cases hi : i = 0
  · subst hi; rw [if_pos rfl, Nat.zero_add]
  · rw [if_neg hi, Nat.add_assoc]
theorem open_op6 {H : Type} {enc : TypeId × Value → H} {w : World} {held : Bool} {spare : Nat → Bool} {A : Option Addr} {len cap : Nat} {d : DataW H} {p : List MemPlace}
    (h : DataW.Trod enc Try.prog w 0 spare held 68 (.slice A len cap) d p) :
    ∃ l : List Op6, len = l.length ∧ l.length ≤ cap ∧ OpsC w A l := by
  obtain ⟨fuel, hf⟩ := h
  rcases open_slice_elems Try.underlying68 hf with hcs | ⟨a, len', cap', hcs, hl, hm, hi⟩
  · simp [Value.cells] at hcs
    obtain ⟨rfl, rfl, rfl⟩ := hcs
    exact ⟨[], rfl, Nat.le_refl _, by decide, fun h => by simp at h⟩
  · simp [Value.cells] at hcs
    obtain ⟨rfl, rfl, rfl⟩ := hcs
    obtain ⟨l, h1, h2⟩ := list_of (Q := fun i (x : Op6) => w.cell? (a.add (i * 3)) = some (.int .i64 x.kind) ∧ w.cell? (a.add (i * 3 + 1)) = some (.int .i64 x.f0) ∧ w.cell? (a.add (i * 3 + 2)) = some (.int .i64 x.f1)) len (fun i hi' => by
      obtain ⟨cs', n, y, hcl, hat, ht⟩ := hi i hi'
      have hC : Try.prog.cellsOf 70 = 3 := by kernel_rfl
      rw [hC] at hat
      obtain ⟨k, f, m, rfl⟩ := open_op6_cells ht
      exact ⟨⟨k, f, m⟩, hat 0 (by omega), hat 1 (by omega), hat 2 (by omega)⟩)
    refine ⟨l, h1.symm, by omega, by unfold maxLen at hm; omega, fun _ => ⟨a, rfl, fun i x hx => ?_⟩⟩
    obtain ⟨c0, c1, c2⟩ := h2 i x hx
    rw [add_off a _ 1 (by decide)] at c1
    rw [add_off a _ 2 (by decide)] at c2
    exact ⟨c0, c1, c2⟩
end Go.Proofs.Ytffemlfdhkndiaa.Open
end
