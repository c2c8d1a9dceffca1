/- Parts of the proof for SpanSplits: RunsB, RunsD, RunsH, Alg. -/
import Derived.Lib.SliceRun
import Derived.Test.YtjbimnicnehnaaaJSpanSplits4
import Derived.Test.YtjbimnicnehnaaaJSpanSplits2
import Derived.Test.YtjbimnicnehnaaaJSpanSplits3
section
namespace Go.Proofs.Ytjbimnicnehnaaa.Hand
open Go.RowKit Go.Proofs.YtjbimnicnehnaaaW.PrintWords Go.Proofs.YtjbimnicnehnaaaW.PrintLast Go.Proofs.YtjbimnicnehnaaaW.PrintMore Go.Proofs.Ytjbimnicnehnaaa.A
set_option linter.unusedVariables false
set_option linter.unusedSimpArgs false
attribute [local go_sem] max2_int min2_int max_two min_two max_three min_three max_four min_four
theorem sumN_step (l : List S24) (i : Nat) (h : i < l.length) : sumN (l.take (i + 1)) = sumN (l.take i) + l[i].f1 := by
  rw [List.take_succ_eq_append_getElem h, sumN_append, sumN_cons]; simp [sumN]
instance (x : S24) (k : Int) : Decidable (inSp x k) := by unfold inSp; infer_instance
end Go.Proofs.Ytjbimnicnehnaaa.Hand
end
section
namespace Go.Proofs.Ytjbimnicnehnaaa.Hand
open Go.RowKit Go.Proofs.YtjbimnicnehnaaaW.PrintWords Go.Proofs.YtjbimnicnehnaaaW.PrintLast Go.Proofs.YtjbimnicnehnaaaW.PrintMore Go.Proofs.Ytjbimnicnehnaaa.A
set_option linter.unusedVariables false
set_option linter.unusedSimpArgs false
attribute [local go_sem] max2_int min2_int max_two min_two max_three min_three max_four min_four
theorem add_block (a : Addr) (j : Nat) : (a.add j).block = a.block := by unfold Addr.add; split <;> rfl
/-- Blocks of whole spans. -/
def wmem (ls : List S24) (k : Int) : Prop := ∃ s ∈ ls, wh s.f0 s.f1 ∧ inSp s k
theorem lessV_length (a m b n : Int) : (lessV a m b n).length ≤ 2 := by
  unfold lessV
  split
  · split
    · split <;> split <;> simp
    · simp
  · simp
end Go.Proofs.Ytjbimnicnehnaaa.Hand
end
section
namespace Go.Proofs.Ytjbimnicnehnaaa.Hand
open Go.RowKit Go.Proofs.YtjbimnicnehnaaaW.PrintWords Go.Proofs.YtjbimnicnehnaaaW.PrintLast Go.Proofs.YtjbimnicnehnaaaW.PrintMore Go.Proofs.Ytjbimnicnehnaaa.A
set_option linter.unusedVariables false
set_option linter.unusedSimpArgs false
attribute [local go_sem] max2_int min2_int max_two min_two max_three min_three max_four min_four
attribute [local go_sem high] eqA24
theorem ORow.lit (w : World) (base : Nat) (hb : base ≤ w.heap.size) (l : List S24) (hl : l.length ≤ 1000000) (cs : Array Value) (hcs : cs.toList = flat l) : ORow (w.alloc (.cells cs 24)) base (.slice (some ⟨w.heap.size, 0, none⟩) l.length l.length) l := by
  have h := World.ownsRow_lit (base := base) (e := 24) (size := 2) w cs l.length hb (by unfold maxLen; omega) (by rw [← Array.length_toList, hcs, flat_length])
  rw [hcs] at h
  exact h
theorem C_lit (w : World) (l : List S24) (hl : l.length ≤ 1000000) (cs : Array Value) (hcs : cs.toList = flat l) : Kd.C k24 (w.alloc (.cells cs 24)) (some ⟨w.heap.size, 0, none⟩) l.length l := by
  obtain ⟨A, c, he, _, hC, _⟩ := (ORow.lit w 0 (Nat.zero_le _) l hl cs hcs).reads
  injection he with he _ _
  rw [he]; exact hC
end Go.Proofs.Ytjbimnicnehnaaa.Hand
end
section
namespace Go.Proofs.Ytjbimnicnehnaaa.Hand
open Go.RowKit Go.Proofs.YtjbimnicnehnaaaW.PrintWords Go.Proofs.YtjbimnicnehnaaaW.PrintLast Go.Proofs.YtjbimnicnehnaaaW.PrintMore Go.Proofs.Ytjbimnicnehnaaa.A
set_option linter.unusedVariables false
set_option linter.unusedSimpArgs false
theorem wmem_cons (y : S24) (a : List S24) (k : Int) : wmem (y :: a) k ↔ (wh y.f0 y.f1 ∧ inSp y k) ∨ wmem a k := by
  unfold wmem
  constructor
  · rintro ⟨s, hs, h⟩
    rcases List.mem_cons.1 hs with rfl | hs
    · exact .inl h
    · exact .inr ⟨s, hs, h⟩
  · rintro (h | ⟨s, hs, h⟩)
    · exact ⟨y, List.mem_cons_self, h⟩
    · exact ⟨s, List.mem_cons_of_mem _ hs, h⟩
theorem putS_on (k : Nat) : ∀ (a : List S24) (s : List Bool), s.length = 64 → ((putS s a true).getD k false = true ↔ s.getD k false = true ∨ wmem a (k : Int))
  | [], s, _ => by
    show s.getD k false = true ↔ _
    unfold wmem; simp
  | y :: a, s, hs => by
    have ih := putS_on k a (putOne s y true) ((putOne_length s y true).trans hs)
    show (putS (putOne s y true) a true).getD k false = true ↔ _
    rw [ih, putOne_get _ _ _ _ hs, wmem_cons]
    unfold inSp
    by_cases h : wh y.f0 y.f1 ∧ y.f0 ≤ (k : Int) ∧ (k : Int) < y.f0 + y.f1
    · rw [if_pos h]; exact ⟨fun _ => .inr (.inl h), fun _ => .inl rfl⟩
    · rw [if_neg h]
      have h' : ¬ (wh y.f0 y.f1 ∧ y.f0 ≤ (k : Int) ∧ (k : Int) < y.f0 + y.f1) := h
      constructor
      · rintro (q | q)
        · exact .inl q
        · exact .inr (.inr q)
      · rintro (q | q | q)
        · exact .inl q
        · exact absurd q h'
        · exact .inr q
theorem putS_len (s : List Bool) (a : List S24) (on : Bool) (hs : s.length = 64) : (putS s a on).length = 64 := (putS_length a on s).trans hs
theorem bools_ext {s t : List Bool} (hs : s.length = 64) (ht : t.length = 64) (h : ∀ k, k < 64 → (s.getD k false = true ↔ t.getD k false = true)) : s = t := by
  apply List.ext_getElem (by omega)
  intro k h1 h2
  have a := h k (by omega)
  rw [List.getD_eq_getElem?_getD, List.getD_eq_getElem?_getD, List.getElem?_eq_getElem h1, List.getElem?_eq_getElem h2] at a
  revert a
  show (s[k] = true ↔ t[k] = true) → _
  cases s[k] <;> cases t[k] <;> simp
end Go.Proofs.Ytjbimnicnehnaaa.Hand
end
