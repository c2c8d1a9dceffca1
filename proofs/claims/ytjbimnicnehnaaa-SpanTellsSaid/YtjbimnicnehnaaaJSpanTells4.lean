/- Parts of the proof for SpanTells: Tidy, SetsB, Row, Ax9, Ax10, SpanT, Runs, Ax12, SetEq, Abs, SetSp, BookG, BookF, BookS, Ax16, Ax17. -/
import Derived.ChangeKeysEq
import Derived.Test.YtjbimnicnehnaaaJSpanTells3
import Derived.Test.YtjbimnicnehnaaaJSpanTells2
section
namespace Go.Proofs.Ytjbimnicnehnaaa.Hand
open Go.RowKit Go.Proofs.YtjbimnicnehnaaaW.PrintWords Go.Proofs.Ytjbimnicnehnaaa.A
set_option linter.unusedVariables false
set_option linter.unusedSimpArgs false
instance decS : DecidableEq S24 := fun a b => decidable_of_iff (a.f0 = b.f0 ∧ a.f1 = b.f1) ⟨fun h => by cases a; cases b; simp_all, fun h => by rw [h]; exact ⟨rfl, rfl⟩⟩
/-- Blocks that a list of spans has. -/
def inSp (x : S24) (k : Int) : Prop := x.f0 ≤ k ∧ k < x.f0 + x.f1
def mem (l : List S24) (k : Int) : Prop := ∃ x ∈ l, inSp x k
/-- As few spans as may be, rising, from a place on. -/
def Tidy : Int → List S24 → Prop
  | _, [] => True
  | lo, x :: l => lo ≤ x.f0 ∧ 1 ≤ x.f1 ∧ x.f0 + x.f1 ≤ 64 ∧ Tidy (x.f0 + x.f1 + 1) l
theorem mem_nil (k : Int) : ¬ mem [] k := fun ⟨_, h, _⟩ => by simp at h
theorem mem_cons (x : S24) (l : List S24) (k : Int) : mem (x :: l) k ↔ inSp x k ∨ mem l k := by
  unfold mem; simp
theorem mem_append (a b : List S24) (k : Int) : mem (a ++ b) k ↔ mem a k ∨ mem b k := by
  unfold mem
  constructor
  · rintro ⟨x, h, hk⟩
    rcases List.mem_append.1 h with h | h
    · exact .inl ⟨x, h, hk⟩
    · exact .inr ⟨x, h, hk⟩
  · rintro (⟨x, h, hk⟩ | ⟨x, h, hk⟩)
    · exact ⟨x, List.mem_append.2 (.inl h), hk⟩
    · exact ⟨x, List.mem_append.2 (.inr h), hk⟩
theorem Tidy.lo : ∀ {l : List S24} {lo lo' : Int}, Tidy lo l → lo' ≤ lo → Tidy lo' l
  | [], _, _, _, _ => trivial
  | _ :: _, _, _, ⟨h1, h2, h3, h4⟩, h => ⟨by omega, h2, h3, h4⟩
theorem Tidy.ge : ∀ {l : List S24} {lo k : Int}, Tidy lo l → mem l k → lo ≤ k ∧ k < 64
  | [], _, k, _, h => absurd h (mem_nil k)
  | x :: l, lo, k, ⟨h1, h2, h3, h4⟩, h => by
    rcases (mem_cons x l k).1 h with h | h
    · unfold inSp at h; omega
    · have := h4.ge h; omega
theorem Tidy.ext : ∀ {l l' : List S24} {lo lo' : Int}, Tidy lo l → Tidy lo' l' → (∀ k, mem l k ↔ mem l' k) → l = l'
  | [], [], _, _, _, _, _ => rfl
  | [], y :: l', _, _, _, ⟨_, h2, _, _⟩, h => absurd ((h y.f0).2 ((mem_cons y l' _).2 (.inl ⟨by omega, by omega⟩))) (mem_nil _)
  | x :: l, [], _, _, ⟨_, h2, _, _⟩, _, h => absurd ((h x.f0).1 ((mem_cons x l _).2 (.inl ⟨by omega, by omega⟩))) (mem_nil _)
  | x :: l, y :: l', lo, lo', ⟨_, h2, h3, h4⟩, ⟨_, g2, g3, g4⟩, h => by
    have lox : ∀ k, mem (x :: l) k → x.f0 ≤ k := fun k hk => by
      rcases (mem_cons x l k).1 hk with hk | hk
      · exact hk.1
      · have := h4.ge hk; omega
    have loy : ∀ k, mem (y :: l') k → y.f0 ≤ k := fun k hk => by
      rcases (mem_cons y l' k).1 hk with hk | hk
      · exact hk.1
      · have := g4.ge hk; omega
    have e0 : x.f0 = y.f0 := by
      have a := loy _ ((h x.f0).1 ((mem_cons x l _).2 (.inl ⟨by omega, by omega⟩)))
      have b := lox _ ((h y.f0).2 ((mem_cons y l' _).2 (.inl ⟨by omega, by omega⟩)))
      omega
    have nx : ¬ mem (x :: l) (x.f0 + x.f1) := fun hk => by
      rcases (mem_cons x l _).1 hk with hk | hk
      · unfold inSp at hk; omega
      · have := h4.ge hk; omega
    have ny : ¬ mem (y :: l') (y.f0 + y.f1) := fun hk => by
      rcases (mem_cons y l' _).1 hk with hk | hk
      · unfold inSp at hk; omega
      · have := g4.ge hk; omega
    have e1 : x.f1 = y.f1 := by
      rcases Int.lt_trichotomy x.f1 y.f1 with hlt | he | hgt
      · exact absurd ((h (x.f0 + x.f1)).2 ((mem_cons y l' _).2 (.inl ⟨by omega, by omega⟩))) nx
      · exact he
      · exact absurd ((h (y.f0 + y.f1)).1 ((mem_cons x l _).2 (.inl ⟨by omega, by omega⟩))) ny
    have e : x = y := by cases x; cases y; simp_all
    subst e
    have hl : l = l' := Tidy.ext h4 g4 (fun k => by
      constructor
      · intro hk
        have hge := h4.ge hk
        rcases (mem_cons x l' k).1 ((h k).1 ((mem_cons x l k).2 (.inr hk))) with hh | hh
        · unfold inSp at hh; omega
        · exact hh
      · intro hk
        have hge := g4.ge hk
        rcases (mem_cons x l k).1 ((h k).2 ((mem_cons x l' k).2 (.inr hk))) with hh | hh
        · unfold inSp at hh; omega
        · exact hh)
    rw [hl]
/-- A tidy list whose blocks all end ahead of a place, and more behind it. -/
def Ends (l : List S24) (p : Int) : Prop := ∀ x ∈ l, x.f0 + x.f1 ≤ p
theorem Tidy.snoc : ∀ {l : List S24} {lo : Int} {s : S24}, Tidy lo l → lo ≤ s.f0 → 1 ≤ s.f1 → s.f0 + s.f1 ≤ 64 → Ends l (s.f0 - 1) → Tidy lo (l ++ [s])
  | [], _, _, _, h0, h1, h2, _ => ⟨h0, h1, h2, trivial⟩
  | x :: l, lo, s, ⟨g1, g2, g3, g4⟩, h0, h1, h2, he => ⟨g1, g2, g3, g4.snoc (by have := he x (by simp); omega) h1 h2 (fun y hy => he y (by simp [hy]))⟩
theorem Ends.snoc {l : List S24} {p q : Int} {s : S24} (h : Ends l p) (hq : p ≤ q) (hs : s.f0 + s.f1 ≤ q) : Ends (l ++ [s]) q := by
  intro x hx
  rcases List.mem_append.1 hx with hx | hx
  · have := h x hx; omega
  · have : x = s := by simpa using hx
    subst this; exact hs
theorem Ends.mono {l : List S24} {p q : Int} (h : Ends l p) (hq : p ≤ q) : Ends l q := fun x hx => by have := h x hx; omega
/-- The state of add's loop: the span, whether it has been put, what has been put. -/
def joined (x s : S24) : S24 := ⟨min x.f0 s.f0, max (x.f0 + x.f1) (s.f0 + s.f1) - min x.f0 s.f0⟩
def addStep (t : S24 × Bool × List S24) (x : S24) : S24 × Bool × List S24 :=
  if touches x.f0 x.f1 t.1.f0 t.1.f1 then (joined x t.1, t.2.1, t.2.2)
  else if t.2.1 = false ∧ t.1.f0 < x.f0 then (t.1, true, t.2.2 ++ [t.1] ++ [x])
  else (t.1, t.2.1, t.2.2 ++ [x])
/-- What holds behind some of the list: p is where it ended. -/
def AddInv (M : Int → Prop) (p : Int) (t : S24 × Bool × List S24) : Prop :=
  Tidy 0 t.2.2 ∧ Ends t.2.2 p ∧ wh t.1.f0 t.1.f1 ∧
  ((t.2.1 = false ∧ Ends t.2.2 (t.1.f0 - 1) ∧ ∀ k, (mem t.2.2 k ∨ inSp t.1 k) ↔ M k) ∨
   (t.2.1 = true ∧ t.1.f0 + t.1.f1 ≤ p ∧ ∀ k, mem t.2.2 k ↔ M k))
theorem AddInv.step {M : Int → Prop} {p : Int} {t : S24 × Bool × List S24} {x : S24} (h : AddInv M p t) (hx0 : p + 1 ≤ x.f0 ∨ (p = -1 ∧ 0 ≤ x.f0)) (hx1 : 1 ≤ x.f1) (hx2 : x.f0 + x.f1 ≤ 64) (hp : -1 ≤ p) :
    AddInv (fun k => M k ∨ inSp x k) (x.f0 + x.f1) (addStep t x) := by
  obtain ⟨s, d, o⟩ := t
  obtain ⟨h1, h2, h3, h4⟩ := h
  simp only at h1 h2 h3 h4
  have hx0' : 0 ≤ x.f0 := by omega
  have hpx : p + 1 ≤ x.f0 := by omega
  unfold addStep
  simp only
  by_cases ht : touches x.f0 x.f1 s.f0 s.f1
  · rw [if_pos ht]
    have ht' := ht
    unfold touches wh at ht'
    refine ⟨h1, h2.mono (by omega), by unfold wh joined; simp only; omega, ?_⟩
    rcases h4 with ⟨hd, he, hm⟩ | ⟨hd, he, hm⟩
    · refine .inl ⟨hd, fun y hy => ?_, fun k => ?_⟩
      · have a := he y hy
        have b := h2 y hy
        unfold joined; simp only; omega
      · have hmk := hm k
        simp only at hmk ⊢
        rw [← hmk]
        unfold joined inSp
        simp only
        constructor
        · rintro (h | h)
          · exact .inl (.inl h)
          · by_cases hk : s.f0 ≤ k ∧ k < s.f0 + s.f1
            · exact .inl (.inr hk)
            · exact .inr (by omega)
        · rintro ((h | h) | h)
          · exact .inl h
          · exact .inr (by omega)
          · exact .inr (by omega)
    · omega
  · rw [if_neg ht]
    unfold touches wh at ht
    unfold wh at h3
    by_cases hb : d = false ∧ s.f0 < x.f0
    · rw [if_pos hb]
      rcases h4 with ⟨hd, he, hm⟩ | ⟨hd, he, hm⟩
      · have hsx : s.f0 + s.f1 < x.f0 := by omega
        refine ⟨(h1.snoc h3.1 h3.2.1 h3.2.2 he).snoc hx0' hx1 hx2 (he.snoc (by omega) (by omega)), (he.snoc (q := x.f0 + x.f1) (by omega) (by omega)).snoc (Int.le_refl _) (Int.le_refl _), h3, .inr ⟨rfl, by simp only; omega, fun k => ?_⟩⟩
        have hmk := hm k
        simp only at hmk ⊢
        rw [mem_append, mem_append, mem_cons, mem_cons, ← hmk]
        have := mem_nil k
        simp only [this, or_false]
      · rw [hb.1] at hd; cases hd
    · rw [if_neg hb]
      rcases h4 with ⟨hd, he, hm⟩ | ⟨hd, he, hm⟩
      · have hsx : x.f0 + x.f1 < s.f0 := by
          have : ¬ s.f0 < x.f0 := fun z => hb ⟨hd, z⟩
          omega
        refine ⟨h1.snoc hx0' hx1 hx2 (h2.mono (by omega)), h2.snoc (by omega) (Int.le_refl _), h3, .inl ⟨hd, ?_, fun k => ?_⟩⟩
        · show Ends (o ++ [x]) (s.f0 - 1)
          exact (h2.mono (q := s.f0 - 1) (by omega)).snoc (Int.le_refl _) (by omega)
        · have hmk := hm k
          simp only at hmk ⊢
          rw [mem_append, mem_cons, ← hmk]
          have := mem_nil k
          simp only [this, or_false]
          constructor
          · rintro ((h | h) | h)
            · exact .inl (.inl h)
            · exact .inr h
            · exact .inl (.inr h)
          · rintro ((h | h) | h)
            · exact .inl (.inl h)
            · exact .inr h
            · exact .inl (.inr h)
      · refine ⟨h1.snoc hx0' hx1 hx2 (h2.mono (by omega)), h2.snoc (by omega) (Int.le_refl _), h3, .inr ⟨hd, by simp only; omega, fun k => ?_⟩⟩
        have hmk := hm k
        show mem (o ++ [x]) k ↔ M k ∨ inSp x k
        rw [← hmk, mem_append, mem_cons]
        have := mem_nil k
        simp only [this, or_false]
def cutV (l : List S24) (s : S24) : List S24 := l.flatMap (fun x => lessV x.f0 x.f1 s.f0 s.f1)
theorem cutV_spec {s : S24} (hs : wh s.f0 s.f1) : ∀ {l : List S24} {lo : Int}, 0 ≤ lo → Tidy lo l → Tidy lo (cutV l s) ∧ ∀ k, mem (cutV l s) k ↔ mem l k ∧ ¬ inSp s k
  | [], lo, _, _ => ⟨trivial, fun k => by simp [cutV, mem_nil]⟩
  | x :: l, lo, h0, ⟨h1, h2, h3, h4⟩ => by
    obtain ⟨g1, g2⟩ := cutV_spec hs (lo := x.f0 + x.f1 + 1) (by omega) h4
    have e : cutV (x :: l) s = lessV x.f0 x.f1 s.f0 s.f1 ++ cutV l s := rfl
    rw [e]
    have hw : wh x.f0 x.f1 := by unfold wh; omega
    unfold wh at hs
    have hn := fun k => mem_nil k
    unfold lessV
    rw [if_pos hw]
    by_cases c : laps x.f0 x.f1 s.f0 s.f1
    · rw [if_pos c]
      unfold laps wh at c
      by_cases c1 : x.f0 < s.f0
      · rw [if_pos c1]
        by_cases c2 : s.f0 + s.f1 < x.f0 + x.f1
        · rw [if_pos c2]
          refine ⟨⟨h1, by simp only; omega, by simp only; omega, by simp only; omega, by simp only; omega, by simp only; omega, g1.lo (by simp only; omega)⟩, fun k => ?_⟩
          simp only [List.cons_append, List.nil_append]
          rw [mem_cons, mem_cons, g2 k, mem_cons]
          unfold inSp; simp only
          constructor
          · rintro (h | h | h)
            · exact ⟨.inl (by omega), by omega⟩
            · exact ⟨.inl (by omega), by omega⟩
            · exact ⟨.inr h.1, h.2⟩
          · rintro ⟨h | h, h'⟩
            · by_cases hk : k < s.f0
              · exact .inl (by omega)
              · exact .inr (.inl (by omega))
            · exact .inr (.inr ⟨h, h'⟩)
        · rw [if_neg c2]
          refine ⟨⟨h1, by simp only; omega, by simp only; omega, g1.lo (by simp only; omega)⟩, fun k => ?_⟩
          simp only [List.cons_append, List.nil_append]
          rw [mem_cons, g2 k, mem_cons]
          unfold inSp; simp only
          constructor
          · rintro (h | h)
            · exact ⟨.inl (by omega), by omega⟩
            · exact ⟨.inr h.1, h.2⟩
          · rintro ⟨h | h, h'⟩
            · exact .inl (by omega)
            · exact .inr ⟨h, h'⟩
      · rw [if_neg c1]
        by_cases c2 : s.f0 + s.f1 < x.f0 + x.f1
        · rw [if_pos c2]
          refine ⟨⟨by simp only; omega, by simp only; omega, by simp only; omega, g1.lo (by simp only; omega)⟩, fun k => ?_⟩
          simp only [List.cons_append, List.nil_append]
          rw [mem_cons, g2 k, mem_cons]
          unfold inSp; simp only
          constructor
          · rintro (h | h)
            · exact ⟨.inl (by omega), by omega⟩
            · exact ⟨.inr h.1, h.2⟩
          · rintro ⟨h | h, h'⟩
            · exact .inl (by omega)
            · exact .inr ⟨h, h'⟩
        · rw [if_neg c2]
          refine ⟨g1.lo (by omega), fun k => ?_⟩
          simp only [List.nil_append]
          rw [g2 k, mem_cons]
          unfold inSp
          constructor
          · rintro ⟨h, h'⟩
            exact ⟨.inr h, h'⟩
          · rintro ⟨h | h, h'⟩
            · omega
            · exact ⟨h, h'⟩
    · rw [if_neg c]
      unfold laps wh at c
      refine ⟨⟨h1, h2, h3, g1⟩, fun k => ?_⟩
      simp only [List.cons_append, List.nil_append]
      rw [mem_cons, g2 k, mem_cons]
      unfold inSp; simp only
      constructor
      · rintro (h | h)
        · exact ⟨.inl h, by omega⟩
        · exact ⟨.inr h.1, h.2⟩
      · rintro ⟨h | h, h'⟩
        · exact .inl h
        · exact .inr ⟨h, h'⟩
/-- How many blocks. -/
def sumN (l : List S24) : Int := (l.map (·.f1)).sum
theorem sumN_cons (x : S24) (l : List S24) : sumN (x :: l) = x.f1 + sumN l := by unfold sumN; simp
theorem Tidy.sum : ∀ {l : List S24} {lo : Int}, lo ≤ 65 → Tidy lo l → 0 ≤ sumN l ∧ sumN l ≤ 65 - lo
  | [], lo, h, _ => by simp [sumN]; omega
  | x :: l, lo, h, ⟨h1, h2, h3, h4⟩ => by have := h4.sum (by omega); rw [sumN_cons]; omega
theorem Tidy.length : ∀ {l : List S24} {lo : Int}, lo ≤ 65 → Tidy lo l → (l.length : Int) ≤ 65 - lo
  | [], lo, h, _ => by simp; omega
  | x :: l, lo, h, ⟨h1, h2, h3, h4⟩ => by have := h4.length (by omega); rw [List.length_cons]; omega
theorem Tidy.whole : ∀ {l : List S24} {lo : Int}, 0 ≤ lo → Tidy lo l → ∀ x ∈ l, wh x.f0 x.f1
  | [], _, _, _, x, hx => by simp at hx
  | y :: l, lo, h, ⟨h1, h2, h3, h4⟩, x, hx => by
    rcases List.mem_cons.1 hx with rfl | hx
    · unfold wh; omega
    · exact h4.whole (by omega) x hx
theorem Tidy.take : ∀ {l : List S24} {lo : Int} (n : Nat), Tidy lo l → Tidy lo (l.take n)
  | [], _, _, _ => by simp [Tidy]
  | x :: l, _, 0, _ => trivial
  | x :: l, _, n + 1, ⟨h1, h2, h3, h4⟩ => ⟨h1, h2, h3, h4.take n⟩
/-- A set of blocks, as a list of bools, as spans. -/
def spansFrom (s : List Bool) : Nat → Nat → List S24
  | _, 0 => []
  | k, n + 1 => if s.getD k false then
      match spansFrom s (k + 1) n with
      | y :: r => if y.f0 = ((k + 1 : Nat) : Int) then ⟨(k : Int), y.f1 + 1⟩ :: r else ⟨(k : Int), 1⟩ :: y :: r
      | [] => [⟨(k : Int), 1⟩]
    else spansFrom s (k + 1) n
theorem spansFrom_spec (s : List Bool) : ∀ (n k : Nat), k + n ≤ 64 → Tidy (k : Int) (spansFrom s k n) ∧ ∀ j : Int, mem (spansFrom s k n) j ↔ (k : Int) ≤ j ∧ j < k + n ∧ s.getD j.toNat false = true
  | 0, k, _ => ⟨trivial, fun j => by simp only [spansFrom, mem_nil, false_iff]; omega⟩
  | n + 1, k, h => by
    obtain ⟨g1, g2⟩ := spansFrom_spec s n (k + 1) (by omega)
    unfold spansFrom
    by_cases c : s.getD k false = true
    · rw [if_pos c]
      cases hl : spansFrom s (k + 1) n with
      | nil =>
        rw [hl] at g2
        refine ⟨⟨Int.le_refl _, by simp only; omega, by simp only; omega, trivial⟩, fun j => ?_⟩
        have := g2 j
        rw [mem_cons]
        have hn := mem_nil j
        simp only [hn, or_false, false_iff] at this ⊢
        unfold inSp
        simp only
        constructor
        · intro hj
          obtain rfl : j = k := by omega
          exact ⟨by omega, by omega, by simpa using c⟩
        · rintro ⟨a, b, d⟩
          by_cases hj : j = k
          · omega
          · exact absurd ⟨by omega, by omega, d⟩ this
      | cons y r =>
        rw [hl] at g1 g2
        obtain ⟨t1, t2, t3, t4⟩ := g1
        have key : ∀ j : Int, (mem (y :: r) j ∨ j = k) ↔ (k : Int) ≤ j ∧ j < k + (n + 1 : Nat) ∧ s.getD j.toNat false = true := by
          intro j
          rw [g2 j]
          constructor
          · rintro (⟨a, b, d⟩ | rfl)
            · exact ⟨by omega, by omega, d⟩
            · exact ⟨by omega, by omega, by simpa using c⟩
          · rintro ⟨a, b, d⟩
            by_cases hj : j = k
            · exact .inr hj
            · exact .inl ⟨by omega, by omega, d⟩
        simp only
        by_cases e : y.f0 = ((k + 1 : Nat) : Int)
        · rw [if_pos e]
          refine ⟨⟨Int.le_refl _, by simp only; omega, by simp only; omega, t4.lo (by simp only; omega)⟩, fun j => ?_⟩
          rw [← key j, mem_cons, mem_cons]
          unfold inSp
          simp only
          constructor
          · rintro (a | a)
            · by_cases hj : j = k
              · exact .inr hj
              · exact .inl (.inl (by omega))
            · exact .inl (.inr a)
          · rintro ((a | a) | a)
            · exact .inl (by omega)
            · exact .inr a
            · exact .inl (by omega)
        · rw [if_neg e]
          refine ⟨⟨Int.le_refl _, by simp only; omega, by simp only; omega, ?_, t2, t3, t4⟩, fun j => ?_⟩
          · simp only; omega
          · rw [← key j, mem_cons]
            unfold inSp
            simp only
            constructor
            · rintro (a | a)
              · exact .inr (by omega)
              · exact .inl a
            · rintro (a | a)
              · exact .inr a
              · exact .inl (by omega)
    · rw [if_neg c]
      refine ⟨g1.lo (by omega), fun j => ?_⟩
      rw [g2 j]
      constructor
      · rintro ⟨a, b, d⟩
        exact ⟨by omega, by omega, d⟩
      · rintro ⟨a, b, d⟩
        by_cases hj : j = k
        · subst hj; simp at d; simp [d] at c
        · exact ⟨by omega, by omega, d⟩
def spansOf (s : List Bool) : List S24 := spansFrom s 0 64
theorem spansOf_tidy (s : List Bool) : Tidy 0 (spansOf s) := (spansFrom_spec s 64 0 (by decide)).1
theorem spansOf_mem (s : List Bool) (j : Int) : mem (spansOf s) j ↔ 0 ≤ j ∧ j < 64 ∧ s.getD j.toNat false = true := by
  have := (spansFrom_spec s 64 0 (by decide)).2 j
  rw [spansOf, this]; simp
/-- A tidy list is the set that has its blocks. -/
theorem tidy_eq {l : List S24} {s : List Bool} (h : Tidy 0 l) (hm : ∀ k : Nat, k < 64 → (mem l k ↔ s.getD k false = true)) : l = spansOf s :=
  h.ext (spansOf_tidy s) (fun j => by
    rw [spansOf_mem]
    constructor
    · intro hj
      have := h.ge hj
      obtain ⟨q, rfl⟩ := Int.eq_ofNat_of_zero_le this.1
      exact ⟨by omega, by omega, by rw [Int.toNat_natCast]; exact (hm q (by omega)).1 hj⟩
    · rintro ⟨a, b, c⟩
      obtain ⟨q, rfl⟩ := Int.eq_ofNat_of_zero_le a
      exact (hm q (by omega)).2 (by rwa [Int.toNat_natCast] at c))
end Go.Proofs.Ytjbimnicnehnaaa.Hand
end
section
namespace Go.Proofs.Ytjbimnicnehnaaa.Hand
open Go.RowKit Go.Proofs.YtjbimnicnehnaaaW.PrintWords Go.Proofs.Ytjbimnicnehnaaa.A
set_option linter.unusedVariables false
theorem setN_get (s : List Bool) (f : Nat) (on : Bool) (k : Nat) : ∀ m, f + m ≤ s.length → (setN s f on m).getD k false = if f ≤ k ∧ k < f + m then on else s.getD k false
  | 0, _ => by rw [if_neg (by omega)]; rfl
  | m + 1, h => by
    have ih := setN_get s f on k m (by omega)
    have hl := setN_length s f on m
    show ((setN s f on m).set (f + m) on).getD k false = _
    rw [List.getD_eq_getElem?_getD, List.getElem?_set]
    by_cases hk : f + m = k
    · rw [if_pos hk, if_pos (by omega), if_pos (by omega)]; rfl
    · rw [if_neg hk, ← List.getD_eq_getElem?_getD, ih]
      by_cases h2 : f ≤ k ∧ k < f + m
      · rw [if_pos h2, if_pos (by omega)]
      · rw [if_neg h2, if_neg (by omega)]
theorem putOne_get (s : List Bool) (x : S24) (on : Bool) (k : Nat) (hs : s.length = 64) : (putOne s x on).getD k false = if wh x.f0 x.f1 ∧ x.f0 ≤ k ∧ (k : Int) < x.f0 + x.f1 then on else s.getD k false := by
  unfold putOne
  by_cases h : wh x.f0 x.f1
  · have h' := h
    unfold wh at h'
    rw [if_pos h, setN_get _ _ _ _ _ (by omega)]
    by_cases h2 : x.f0 ≤ k ∧ (k : Int) < x.f0 + x.f1
    · rw [if_pos (by omega), if_pos ⟨h, h2⟩]
    · rw [if_neg (by omega), if_neg (fun z => h2 z.2)]
  · rw [if_neg h, if_neg (fun z => h z.1)]
abbrev none64 : List Bool := List.replicate 64 false
theorem none64_get (k : Nat) : none64.getD k false = false := by
  rw [List.getD_eq_getElem?_getD, List.getElem?_replicate]; split <;> rfl
end Go.Proofs.Ytjbimnicnehnaaa.Hand
end
section
namespace Go.Proofs.Ytjbimnicnehnaaa.Hand
open Go.RowKit Go.Proofs.YtjbimnicnehnaaaW.PrintWords Go.Proofs.YtjbimnicnehnaaaW.PrintLast Go.Proofs.YtjbimnicnehnaaaW.PrintMore Go.Proofs.Ytjbimnicnehnaaa.A
set_option linter.unusedVariables false
set_option linter.unusedSimpArgs false
/-- The cells of spans. -/
def flat (l : List S24) : List Value := l.flatMap fun x => [.int .i64 x.f0, .int .i64 x.f1]
theorem flat_cons (x : S24) (l : List S24) : flat (x :: l) = .int .i64 x.f0 :: .int .i64 x.f1 :: flat l := rfl
theorem flat_append (a b : List S24) : flat (a ++ b) = flat a ++ flat b := by unfold flat; rw [List.flatMap_append]
theorem flat_length : ∀ l : List S24, (flat l).length = l.length * 2
  | [] => rfl
  | x :: l => by rw [flat_cons, List.length_cons, List.length_cons, flat_length l, List.length_cons]; omega
theorem flat_get : ∀ (l : List S24) (i : Nat) (x : S24), l[i]? = some x → (flat l)[i * 2]? = some (.int .i64 x.f0) ∧ (flat l)[i * 2 + 1]? = some (.int .i64 x.f1)
  | [], i, x, h => by simp at h
  | y :: l, 0, x, h => by
    injection h with h; subst h
    exact ⟨rfl, rfl⟩
  | y :: l, i + 1, x, h => by
    have := flat_get l i x (by simpa using h)
    rw [flat_cons, show (i + 1) * 2 = i * 2 + 1 + 1 by omega]
    exact this
/-- A row of spans of one's own, from a block on. -/
abbrev ORow (w : World) (base : Nat) (v : Value) (l : List S24) : Prop := w.ownsRow base 24 2 v l.length (flat l)
theorem ORow.nil (w : World) (base : Nat) : ORow w base (.slice none 0 0) [] := World.ownsRow_nil w base _ 2
theorem ORow.reads {w : World} {base : Nat} {v : Value} {l : List S24} (h : ORow w base v l) : ∃ A c, v = .slice A l.length c ∧ l.length ≤ c ∧ Kd.C k24 w A l.length l ∧ v.ownBlock = A.map (·.block) := by
  rcases h.2 with ⟨rfl, h0⟩ | ⟨g, cap, cur, rfl, hb, hh, hn, hm, hs, ht⟩
  · obtain rfl : l = [] := List.eq_nil_of_length_eq_zero h0
    exact ⟨none, 0, rfl, Nat.le_refl _, ⟨rfl, by decide, fun h => by simp at h⟩, rfl⟩
  · refine ⟨some ⟨g, 0, none⟩, cap, rfl, hn, ⟨rfl, Nat.le_trans hn hm, fun _ => ⟨_, rfl, fun j x hj => ⟨[.int .i64 x.f0, .int .i64 x.f1], rfl, k24_mk w x, fun q u hq => ?_⟩⟩⟩, rfl⟩
    have hc := h.cells (g := g) rfl
    obtain ⟨g0, g1⟩ := flat_get l j x hj
    match q, hq with
    | 0, hq => injection hq with hq; subst hq; exact hc _ _ g0
    | 1, hq => injection hq with hq; subst hq; exact hc _ _ g1
    | q + 2, hq => simp at hq
theorem ORow.opened {w : World} {base : Nat} {v : Value} {l : List S24} (h : ORow w base v l) (h0 : 0 < l.length) : ∃ g c, v = .slice (some ⟨g, 0, none⟩) l.length c ∧ l.length ≤ c ∧ base ≤ g ∧ g < w.heap.size ∧ (∀ i x, l[i]? = some x → w.cell? ⟨g, i * 2, none⟩ = some (.int .i64 x.f0) ∧ w.cell? ⟨g, i * 2 + 1, none⟩ = some (.int .i64 x.f1)) ∧ ∀ i, w.frozen? ⟨g, i, none⟩ = false := by
  rcases h.2 with ⟨_, h1⟩ | ⟨g, cap, cur, rfl, hb, hh, hn, hm, hs, ht⟩
  · omega
  · refine ⟨g, cap, rfl, hn, hb, (Array.getElem?_eq_some_iff.1 hh).1, fun i x hx => ?_, fun i => frozen_of_row w g i cur _ hh⟩
    have hil : i < l.length := by
      rcases Nat.lt_or_ge i l.length with h | h
      · exact h
      · rw [List.getElem?_eq_none h] at hx; cases hx
    obtain ⟨g0, g1⟩ := flat_get l i x hx
    exact ⟨(World.ownsRow.cellAt h (i * 2) (by omega)).trans g0, (World.ownsRow.cellAt h (i * 2 + 1) (by omega)).trans g1⟩
theorem ORow.below {w w1 : World} {base : Nat} {v : Value} {l : List S24} (h : ORow w base v l) (hb : Below w.heap.size w w1) : ORow w1 base v l := own_move h (fun k hk => hb.block k (own_lt h k hk))
theorem ORow.only {w w1 : World} {base g : Nat} {v : Value} {l : List S24} (h : ORow w base v l) (ho : Only w w1 g) (hne : v.ownBlock ≠ some g) : ORow w1 base v l :=
  own_move h (fun k hk => ho.block k (own_lt h k hk) (fun e => hne (by rw [hk]; exact e)))
theorem ORow.far {w : World} {base : Nat} {v : Value} {l : List S24} (h : ORow w base v l) {p : Addr} (hne : v.ownBlock ≠ some p.block) (u : Value) : ORow (w.setCell p u) base v l :=
  own_move h (fun k hk => Below.heap_setCell w p u k (fun e => hne (by rw [hk, e])))
/-- By types: a block of another type is not the row's. -/
theorem ORow.ne {w : World} {base g t : Nat} {v : Value} {l : List S24} {cs : Array Value} (h : ORow w base v l) (hb : Blk w g t cs) (ht : 24 ≠ t) : v.ownBlock ≠ some g := fun e => own_ne h hb.hd ht e.symm
theorem reps_flat : ∀ (l : List S24) (inner : List Value) (w : World) (base : Nat) (ok : Nat → Prop), Reps (k24.M w base ok) 2 l inner → inner = flat l := by
  intro l inner w base ok h
  apply List.ext_getElem?
  intro j
  have hl : inner.length = l.length * 2 := h.1
  by_cases hj : j < l.length * 2
  · obtain ⟨i, hi⟩ : ∃ i, j = i * 2 ∨ j = i * 2 + 1 := ⟨j / 2, by omega⟩
    have hil : i < l.length := by omega
    have hx : l[i]? = some l[i] := List.getElem?_eq_getElem hil
    have hm := k24_openM (h.2 i l[i] hx)
    obtain ⟨g0, g1⟩ := flat_get l i l[i] hx
    have e : ∀ q, q < 2 → inner[i * 2 + q]? = (((inner.drop (i * 2)).take 2))[q]? := by
      intro q hq
      rw [List.getElem?_take, if_pos hq, List.getElem?_drop]
    rcases hi with rfl | rfl
    · rw [g0, show i * 2 = i * 2 + 0 by omega, e 0 (by omega), hm]; rfl
    · rw [g1, e 1 (by omega), hm]; rfl
  · rw [List.getElem?_eq_none (by omega), List.getElem?_eq_none (by rw [flat_length]; omega)]
theorem flat_reps (w : World) (base : Nat) (ok : Nat → Prop) : ∀ l : List S24, Reps (k24.M w base ok) 2 l (flat l)
  | [] => Reps.none _ _
  | x :: l => by
    have ih := flat_reps w base ok l
    refine ⟨flat_length _, fun j p hj => ?_⟩
    cases j with
    | zero => injection hj with hj; subst hj; exact k24_mkM _ _ _ _
    | succ j =>
      have := ih.2 j p (by simpa using hj)
      rw [flat_cons, show (j + 1) * 2 = j * 2 + 1 + 1 by omega]
      exact this
theorem ORow.to_R {w : World} {base : Nat} {v : Value} {l : List S24} (h : ORow w base v l) : Kd.R k24 24 w base (fun _ => True) v l :=
  ⟨fun _ _ => trivial, flat l, h, flat_reps _ _ _ l⟩
theorem ORow.of_R {w : World} {base : Nat} {ok : Nat → Prop} {v : Value} {l : List S24} (h : Kd.R k24 24 w base ok v l) : ORow w base v l := by
  obtain ⟨_, inner, ho, hr⟩ := h
  have := reps_flat l inner _ _ _ hr
  subst this
  exact ho
theorem Blk.grown {w w1 : World} {g t : Nat} {cs : Array Value} {row : Option Nat} (h : Blk w g t cs) (hg : w.grownBy w1 row) (hne : row ≠ some g) : Blk w1 g t cs := (hg.block g h.lt (fun e => hne e.symm)).trans h
theorem ORow.snoc {w : World} {base : Nat} {v : Value} {l : List S24} {p q : Int} (h : w.ownsRow base 24 2 v (l.length + 1) (flat l ++ [.int .i64 p, .int .i64 q])) : ORow w base v (l ++ [⟨p, q⟩]) := by
  unfold ORow; rw [flat_append, List.length_append]; exact h
theorem one_two (p q : Int) : ∀ u ∈ [Value.int .i64 p, Value.int .i64 q], u.oneCell' = true := by
  intro u h
  rcases List.mem_cons.1 h with rfl | h
  · rfl
  · rcases List.mem_cons.1 h with rfl | h
    · rfl
    · cases h
theorem info24' : (Try.prog.info? 24).map (fun i => (i.zero, i.size, i.bytes)) = some (some (.agg #[.int .i64 0, .int .i64 0]), 2, 16) := by kernel_rfl
end Go.Proofs.Ytjbimnicnehnaaa.Hand
end
section
namespace Go.Proofs.Ytjbimnicnehnaaa.A
open Go.RowKit Go.Proofs.YtjbimnicnehnaaaW.PrintWords Go.Proofs.YtjbimnicnehnaaaW.PrintLast Go.Proofs.YtjbimnicnehnaaaW.PrintMore
attribute [local go_sem] max2_int min2_int max_two min_two max_three min_three max_four min_four   -- for this text's walks alone
set_option linter.unusedVariables false
set_option linter.unusedSimpArgs false
def span_Touch.f (a0_0 : Int) (a0_1 : Int) (a1_0 : Int) (a1_1 : Int) : Option (Bool) := (span_whole.f a0_0 a0_1).bind fun t150 => (if t150 = true then ((span_whole.f a1_0 a1_1).bind fun t151 => (if t151 = true then ((span_End.f a0_0 a0_1).bind fun t152 => ((span_End.f a1_0 a1_1).bind fun t153 => (some (decide ((mx a0_0 a1_0) ≤ (mn t152 t153)))))) else (some false))) else (some false))
def span_Touch.T1 : Bool × List (List Nat × List Nat) := (true, [([], []), ([0], [0]), ([1, 1], [1]), ([2], [2]), ([3, 2, 2], [2, 3]), ([2, 4], [2, 4]), ([5, 4], [5]), ([6], [6]), ([7, 6], [6, 7]), ([6], [6]), ([9, 6], [6, 9]), ([8, 10, 6], [6, 8, 10]), ([6], [6]), ([12, 6, 6], [6, 12]), ([6], [6]), ([14, 13, 6], [6, 14]), ([13, 15, 6], [6, 13, 15]), ([11, 16, 6], [6, 11, 16]), ([6, 17], [6, 17]), ([18, 15, 0, 1, 2, 3, 4, 5, 6, 7, 8, 9, 10, 11, 12, 13, 14, 15, 16, 17, 18], [18])])
def span_Touch.B1 : List Nat := [0, 1, 3, 7, 15, 31, 63, 127, 255, 127, 639, 2047, 127, 4223, 127, 28799, 61567, 131071, 262143, 524287]
theorem span_Touch.tab1 : rtab .any (opsOf Try.f22 1) = span_Touch.T1 := by kernel_rfl
theorem span_Touch.bits1 : waitsOk span_Touch.T1.2 span_Touch.B1 = true := by kernel_rfl
set_option maxHeartbeats 8000000 in
set_option maxRecDepth 100000 in
theorem span_Touch.calls (a0_0 : Int) (a0_1 : Int) (a1_0 : Int) (a1_1 : Int) (r : Bool) (w : World) (h : span_Touch.f a0_0 a0_1 a1_0 a1_1 = some r) :
    Calls Try.prog 22 #[.agg #[.int .i64 a0_0, .int .i64 a0_1], .agg #[.int .i64 a1_0, .int .i64 a1_1]] w fun e w' => e = .returned (.bool r) ∧ Below w.heap.size w w' := by
  have hu24 := Try.underlying24
  have HB := Aside0.mk (Below.refl w.heap.size w)
  have H : ((span_whole.f a0_0 a0_1).bind fun t150 => (if t150 = true then ((span_whole.f a1_0 a1_1).bind fun t151 => (if t151 = true then ((span_End.f a0_0 a0_1).bind fun t152 => ((span_End.f a1_0 a1_1).bind fun t153 => (some (decide ((mx a0_0 a1_0) ≤ (mn t152 t153)))))) else (some false))) else (some false))) = some r := h
  clear h
  replace H := Option.bind_eq_some_iff.mp H
  obtain ⟨t150, A30, H⟩ := H
  replace H : (if t150 = true then ((span_whole.f a1_0 a1_1).bind fun t151 => (if t151 = true then ((span_End.f a0_0 a0_1).bind fun t152 => ((span_End.f a1_0 a1_1).bind fun t153 => (some (decide ((mx a0_0 a1_0) ≤ (mn t152 t153)))))) else (some false))) else (some false)) = some r := H
  have A3 := Aside0.mk A30
  clear A30
  by_cases c4 : t150 = true
  · subst c4
    have H1 : ((span_whole.f a1_0 a1_1).bind fun t151 => (if t151 = true then ((span_End.f a0_0 a0_1).bind fun t152 => ((span_End.f a1_0 a1_1).bind fun t153 => (some (decide ((mx a0_0 a1_0) ≤ (mn t152 t153)))))) else (some false))) = some r := by rw [if_pos rfl] at H; exact H
    clear H
    have H := H1
    clear H1
    replace H := Option.bind_eq_some_iff.mp H
    obtain ⟨t151, A50, H⟩ := H
    replace H : (if t151 = true then ((span_End.f a0_0 a0_1).bind fun t152 => ((span_End.f a1_0 a1_1).bind fun t153 => (some (decide ((mx a0_0 a1_0) ≤ (mn t152 t153)))))) else (some false)) = some r := H
    have A5 := Aside0.mk A50
    clear A50
    by_cases c6 : t151 = true
    · subst c6
      have H1 : ((span_End.f a0_0 a0_1).bind fun t152 => ((span_End.f a1_0 a1_1).bind fun t153 => (some (decide ((mx a0_0 a1_0) ≤ (mn t152 t153)))))) = some r := by rw [if_pos rfl] at H; exact H
      clear H
      have H := H1
      clear H1
      obtain ⟨ji7, hji7⟩ : ∃ j_ : Int, (mx a0_0 a1_0) = j_ := ⟨_, rfl⟩
      replace H : ((span_End.f a0_0 a0_1).bind fun t152 => ((span_End.f a1_0 a1_1).bind fun t153 => (some (decide ((ji7) ≤ (mn t152 t153)))))) = some r := by first | (rw [hji7] at H; exact H) | (simp only [hji7] at H ⊢; exact H)
      (try rw [hji7] at A3)
      (try rw [hji7] at A5)
      have hji7_ : (if a0_0 < a1_0 then a1_0 else a0_0) = ji7 := hji7
      replace H := Option.bind_eq_some_iff.mp H
      obtain ⟨t152, A80, H⟩ := H
      replace H : ((span_End.f a1_0 a1_1).bind fun t153 => (some (decide ((ji7) ≤ (mn t152 t153))))) = some r := H
      have A8 := Aside0.mk A80
      clear A80
      replace H := Option.bind_eq_some_iff.mp H
      obtain ⟨t153, A90, H⟩ := H
      replace H : (some (decide ((ji7) ≤ (mn t152 t153)))) = some r := H
      have A9 := Aside0.mk A90
      clear A90
      obtain ⟨ji10, hji10⟩ : ∃ j_ : Int, (mn t152 t153) = j_ := ⟨_, rfl⟩
      replace H : (some (decide ((ji7) ≤ (ji10)))) = some r := by first | (rw [hji10] at H; exact H) | (simp only [hji10] at H ⊢; exact H)
      (try rw [hji10] at A3)
      (try rw [hji10] at A5)
      (try rw [hji10] at A8)
      (try rw [hji10] at A9)
      have hji10_ : (if t153 < t152 then t153 else t152) = ji10 := hji10
      obtain rfl := Option.some.inj H
      go_enter Try.func22, Try.ntmps22
      try go_wp2_with (first | ((with_reducible refine gate_dst (N := 2) rfl ?_); (try (refine gate_guard (by rfl) ?_; dsimp only)); refine box_event ?hg (N := 2) ?hd (cs := #[.int .i64 a0_0, .int .i64 a0_1]) (t := 24) ?hr ?_; (case hd => rfl); (case hg => rfl); (case hr => first | (go_simp; done) | (go_simp; rfl)); intro gb148 hg w11 hbox hb; have n0_ := Aside0.mk (below_step (by repeat (first | (with_reducible first | exact HB.out | apply below_alloc | apply pw_below_drewN | apply below_drew1) | exact HB.out)) hb); have n1_ := Aside0.mk (hbox); have n2_ := Aside0.mk ((by rw [hg]; exact (below_size (by repeat (first | (with_reducible first | exact HB.out | apply below_alloc | apply pw_below_drewN | apply below_drew1) | exact HB.out))) : w.heap.size ≤ gb148)); have n3_ := Aside0.mk ((by rw [hg]; exact (below_size (by repeat (first | (with_reducible first | exact HB.out | apply below_alloc | apply pw_below_drewN | apply below_drew1) | exact HB.out))) : w.heap.size ≤ gb148)); clear HB; have HB := n0_; have BK148 := n1_; have GW148 := n2_; have GE148 := n3_; clear n0_ n1_ n2_ n3_; clear hb hbox hg) | ((with_reducible refine gate_dst (N := 3) rfl ?_); (try (refine gate_guard (by rfl) ?_; dsimp only)); refine box_event ?hg (N := 3) ?hd (cs := #[.int .i64 a1_0, .int .i64 a1_1]) (t := 24) ?hr ?_; (case hd => rfl); (case hg => rfl); (case hr => first | (go_simp; done) | (go_simp; rfl)); intro gb149 hg w12 hbox hb; have n0_ := Aside0.mk (blk_below (g := gb148) (o := .cells #[.int .i64 a0_0, .int .i64 a0_1] 24 (0, 0)) (by (with_reducible repeat (first | refine blk_drewN ?_ _ | refine blk_drew ?_ | refine blk_alloc ?_ _)); exact BK148.out) hb); have n1_ := Aside0.mk (below_step (by repeat (first | (with_reducible first | exact HB.out | apply below_alloc | apply pw_below_drewN | apply below_drew1 | refine below_set ?_ GE148.out) | exact HB.out)) hb); have n2_ := Aside0.mk (hbox); have n3_ := Aside0.mk ((by rw [hg]; exact (below_size (by repeat (first | (with_reducible first | exact HB.out | apply below_alloc | apply pw_below_drewN | apply below_drew1 | refine below_set ?_ GE148.out) | exact HB.out))) : w.heap.size ≤ gb149)); have n4_ := Aside0.mk ((by rw [hg]; exact (below_size (by repeat (first | (with_reducible first | exact HB.out | apply below_alloc | apply pw_below_drewN | apply below_drew1 | refine below_set ?_ GE148.out) | exact HB.out))) : w.heap.size ≤ gb149)); have n5_ := Aside0.mk ((by rw [hg]; exact Nat.ne_of_lt (blk_lt (g := gb148) (o := .cells #[.int .i64 a0_0, .int .i64 a0_1] 24 (0, 0)) (by (with_reducible repeat (first | refine blk_drewN ?_ _ | refine blk_drew ?_ | refine blk_alloc ?_ _)); exact BK148.out)) : gb148 ≠ gb149)); have n6_ := Aside0.mk ((by rw [hg]; exact Nat.ne_of_gt (blk_lt (g := gb148) (o := .cells #[.int .i64 a0_0, .int .i64 a0_1] 24 (0, 0)) (by (with_reducible repeat (first | refine blk_drewN ?_ _ | refine blk_drew ?_ | refine blk_alloc ?_ _)); exact BK148.out)) : gb149 ≠ gb148)); clear BK148; clear HB; have BK148 := n0_; have HB := n1_; have BK149 := n2_; have GW149 := n3_; have GE149 := n4_; have NB148_149 := n5_; have NB149_148 := n6_; clear n0_ n1_ n2_ n3_ n4_ n5_ n6_; clear hb hbox hg))
      have n0_ := Aside0.mk (blk_drew BK148.out)
      have n1_ := Aside0.mk (blk_drew BK149.out)
      have n2_ := Aside0.mk (below_drew1 HB.out)
      clear BK148
      clear BK149
      clear HB
      have BK148 := n0_
      have BK149 := n1_
      have HB := n2_
      clear n0_ n1_ n2_
      refine start_ (n := 20) (S := fun w' => w'.cell? ⟨gb148, 0, none⟩ = some (.int .i64 a0_0) ∧ w'.cell? ⟨gb148, 1, none⟩ = some (.int .i64 a0_1) ∧ w'.cell? ⟨gb149, 0, none⟩ = some (.int .i64 a1_0) ∧ w'.cell? ⟨gb149, 1, none⟩ = some (.int .i64 a1_1)) (ds := []) #[false, false, false, false, false, false, false, false, false, false, false, false, false, false, false, false, false, false, false, false] (by kernel_rfl) rfl rfl ⟨(blk_cell BK148.out 0).trans rfl, (blk_cell BK148.out 1).trans rfl, (blk_cell BK149.out 0).trans rfl, (blk_cell BK149.out 1).trans rfl⟩ (fun hHeld => ?_); refine with_tabW span_Touch.tab1 span_Touch.bits1 (fun HT_ HW_ => ?_)
      generalize w12.drew = w13 at BK148 BK149 HB hHeld ⊢
      refine take_ (i := 0) (N := some 5) (v := ?_) (a' := ?_) #[true, false, false, false, false, false, false, false, false, false, false, false, false, false, false, false, false, false, false, false] rfl rfl (take_ofW HT_.out HW_.out (by kernel_rfl)) (fun _ _ _ h => h) (Or.inl ⟨by rfl, ?_⟩) hHeld ?_ ?_
      rotate_left
      · rintro w' ⟨s0, s1, s2, s3⟩
        go_simp
        with_reducible rfl
      rotate_left
      · simp only [Act.put, List.setIfInBounds_toArray, List.set_cons_zero, List.set_cons_succ, i64_w, i32_w]
        rfl
      refine one_ (i := 1) (N := some 6) #[true, true, false, false, false, false, false, false, false, false, false, false, false, false, false, false, false, false, false, false] rfl rfl (one_of HT_.out (by kernel_rfl)) (by decide) (fun K hK => ?_)
      refine goes_ Try.func44 (by kernel_rfl) rfl #[.agg #[.int .i64 a0_0, .int .i64 a0_1]] (by rfl) rfl rfl (by (try simp only [List.map_toArray, List.map_cons, List.map_nil]); first | done | rfl | (simp only [List.length_drop, List.length_take]; rfl)) ?_
      with_reducible refine (span_whole.calls a0_0 a0_1 true _ A3.out).mono ?_
      rintro e w14 ⟨rfl, hb⟩
      refine ⟨_, rfl, ?_⟩
      have n0_ := Aside0.mk (blk_below (g := gb148) (o := .cells #[.int .i64 a0_0, .int .i64 a0_1] 24 (0, 0)) (by (with_reducible repeat (first | refine blk_drewN ?_ _ | refine blk_drew ?_ | refine blk_alloc ?_ _)); exact BK148.out) hb)
      have n1_ := Aside0.mk (blk_below (g := gb149) (o := .cells #[.int .i64 a1_0, .int .i64 a1_1] 24 (0, 0)) (by (with_reducible repeat (first | refine blk_drewN ?_ _ | refine blk_drew ?_ | refine blk_alloc ?_ _)); exact BK149.out) hb)
      have n2_ := Aside0.mk (below_step (by repeat (first | (with_reducible first | exact HB.out | apply below_alloc | apply pw_below_drewN | apply below_drew1 | refine below_set ?_ GE148.out | refine below_set ?_ GE149.out) | exact HB.out)) hb)
      clear BK148
      clear BK149
      clear HB
      have BK148 := n0_
      have BK149 := n1_
      have HB := n2_
      clear n0_ n1_ n2_
      (try clear hb)
      (try clear hb2)
      (try clear hk)
      (try clear hi)
      refine hK.out _ _ ⟨(blk_cell BK148.out 0).trans rfl, (blk_cell BK148.out 1).trans rfl, (blk_cell BK149.out 0).trans rfl, (blk_cell BK149.out 1).trans rfl⟩ (fun hHeld => ?_)
      clear hK K
      refine norm_ (a' := ?_) ?_ ?_
      rotate_left
      · show Act.put _ (some 6) _ = _
        simp only [Act.put, List.setIfInBounds_toArray, List.set_cons_zero, List.set_cons_succ, i64_w, i32_w]
        rfl
      refine pure_ (i := 2) (N := some 7) (v := ?_) (a' := ?_) #[true, true, true, false, false, false, false, false, false, false, false, false, false, false, false, false, false, false, false, false] rfl rfl (any_of HT_.out (by kernel_rfl)) (fun _ _ _ h => h) (Or.inl ⟨by rfl, ?_⟩) ?_ ?_
      rotate_left
      · intro w'
        go_simp
        with_reducible rfl
      rotate_left
      · simp only [Act.put, List.setIfInBounds_toArray, List.set_cons_zero, List.set_cons_succ, i64_w, i32_w]
        rfl
      refine take_ (i := 3) (N := some 8) (v := ?_) (a' := ?_) #[true, true, true, true, false, false, false, false, false, false, false, false, false, false, false, false, false, false, false, false] rfl rfl (take_ofW HT_.out HW_.out (by kernel_rfl)) (fun _ _ _ h => h) (Or.inl ⟨by rfl, ?_⟩) hHeld ?_ ?_
      rotate_left
      · rintro w' ⟨s0, s1, s2, s3⟩
        go_simp
        with_reducible rfl
      rotate_left
      · simp only [Act.put, List.setIfInBounds_toArray, List.set_cons_zero, List.set_cons_succ, i64_w, i32_w]
        rfl
      refine one_ (i := 4) (N := some 9) #[true, true, true, true, true, false, false, false, false, false, false, false, false, false, false, false, false, false, false, false] rfl rfl (one_of HT_.out (by kernel_rfl)) (by decide) (fun K hK => ?_)
      refine goes_ Try.func44 (by kernel_rfl) rfl #[.agg #[.int .i64 a1_0, .int .i64 a1_1]] (by rfl) rfl rfl (by (try simp only [List.map_toArray, List.map_cons, List.map_nil]); first | done | rfl | (simp only [List.length_drop, List.length_take]; rfl)) ?_
      with_reducible refine (span_whole.calls a1_0 a1_1 true _ A5.out).mono ?_
      rintro e w15 ⟨rfl, hb⟩
      refine ⟨_, rfl, ?_⟩
      have n0_ := Aside0.mk (blk_below (g := gb148) (o := .cells #[.int .i64 a0_0, .int .i64 a0_1] 24 (0, 0)) (by (with_reducible repeat (first | refine blk_drewN ?_ _ | refine blk_drew ?_ | refine blk_alloc ?_ _)); exact BK148.out) hb)
      have n1_ := Aside0.mk (blk_below (g := gb149) (o := .cells #[.int .i64 a1_0, .int .i64 a1_1] 24 (0, 0)) (by (with_reducible repeat (first | refine blk_drewN ?_ _ | refine blk_drew ?_ | refine blk_alloc ?_ _)); exact BK149.out) hb)
      have n2_ := Aside0.mk (below_step (by repeat (first | (with_reducible first | exact HB.out | apply below_alloc | apply pw_below_drewN | apply below_drew1 | refine below_set ?_ GE148.out | refine below_set ?_ GE149.out) | exact HB.out)) hb)
      clear BK148
      clear BK149
      clear HB
      have BK148 := n0_
      have BK149 := n1_
      have HB := n2_
      clear n0_ n1_ n2_
      (try clear hb)
      (try clear hb2)
      (try clear hk)
      (try clear hi)
      refine hK.out _ _ ⟨(blk_cell BK148.out 0).trans rfl, (blk_cell BK148.out 1).trans rfl, (blk_cell BK149.out 0).trans rfl, (blk_cell BK149.out 1).trans rfl⟩ (fun hHeld => ?_)
      clear hK K
      refine norm_ (a' := ?_) ?_ ?_
      rotate_left
      · show Act.put _ (some 9) _ = _
        simp only [Act.put, List.setIfInBounds_toArray, List.set_cons_zero, List.set_cons_succ, i64_w, i32_w]
        rfl
      refine pure_ (i := 5) (N := some 10) (v := ?_) (a' := ?_) #[true, true, true, true, true, true, false, false, false, false, false, false, false, false, false, false, false, false, false, false] rfl rfl (any_of HT_.out (by kernel_rfl)) (fun _ _ _ h => h) (Or.inl ⟨by rfl, ?_⟩) ?_ ?_
      rotate_left
      · intro w'
        go_simp
        with_reducible rfl
      rotate_left
      · simp only [Act.put, List.setIfInBounds_toArray, List.set_cons_zero, List.set_cons_succ, i64_w, i32_w]
        rfl
      refine pure_ (i := 6) (N := some 11) (v := ?_) (a' := ?_) #[true, true, true, true, true, true, true, false, false, false, false, false, false, false, false, false, false, false, false, false] rfl rfl (any_of HT_.out (by kernel_rfl)) (fun _ _ _ h => h) (Or.inl ⟨by rfl, ?_⟩) ?_ ?_
      rotate_left
      · intro w'
        go_simp
        with_reducible rfl
      rotate_left
      · simp only [Act.put, List.setIfInBounds_toArray, List.set_cons_zero, List.set_cons_succ, i64_w, i32_w]
        rfl
      refine pure_ (i := 7) (N := some 12) (v := ?_) (a' := ?_) #[true, true, true, true, true, true, true, true, false, false, false, false, false, false, false, false, false, false, false, false] rfl rfl (any_of HT_.out (by kernel_rfl)) (fun _ _ _ h => h) (Or.inl ⟨by rfl, ?_⟩) ?_ ?_
      rotate_left
      · intro w'
        go_simp
        with_reducible rfl
      rotate_left
      · simp only [Act.put, List.setIfInBounds_toArray, List.set_cons_zero, List.set_cons_succ, i64_w, i32_w]
        rfl
      refine pure_ (i := 9) (N := some 14) (v := ?_) (a' := ?_) #[true, true, true, true, true, true, true, true, false, true, false, false, false, false, false, false, false, false, false, false] rfl rfl (any_of HT_.out (by kernel_rfl)) (fun _ _ _ h => h) (Or.inl ⟨by rfl, ?_⟩) ?_ ?_
      rotate_left
      · intro w'
        go_simp
        with_reducible rfl
      rotate_left
      · simp only [Act.put, List.setIfInBounds_toArray, List.set_cons_zero, List.set_cons_succ, i64_w, i32_w]
        rfl
      refine take_ (i := 8) (N := some 13) (v := ?_) (a' := ?_) #[true, true, true, true, true, true, true, true, true, true, false, false, false, false, false, false, false, false, false, false] rfl rfl (take_ofW HT_.out HW_.out (by kernel_rfl)) (fun _ _ _ h => h) (Or.inl ⟨by rfl, ?_⟩) hHeld ?_ ?_
      rotate_left
      · rintro w' ⟨s0, s1, s2, s3⟩
        go_simp
        with_reducible rfl
      rotate_left
      · simp only [Act.put, List.setIfInBounds_toArray, List.set_cons_zero, List.set_cons_succ, i64_w, i32_w]
        rfl
      refine take_ (i := 10) (N := some 15) (v := ?_) (a' := ?_) #[true, true, true, true, true, true, true, true, true, true, true, false, false, false, false, false, false, false, false, false] rfl rfl (take_ofW HT_.out HW_.out (by kernel_rfl)) (fun _ _ _ h => h) (Or.inl ⟨by rfl, ?_⟩) hHeld ?_ ?_
      rotate_left
      · rintro w' ⟨s0, s1, s2, s3⟩
        go_simp
        with_reducible rfl
      rotate_left
      · simp only [Act.put, List.setIfInBounds_toArray, List.set_cons_zero, List.set_cons_succ, i64_w, i32_w]
        rfl
      refine pure_ (i := 11) (N := some 16) (v := ?_) (a' := ?_) #[true, true, true, true, true, true, true, true, true, true, true, true, false, false, false, false, false, false, false, false] rfl rfl (any_of HT_.out (by kernel_rfl)) (fun _ _ _ h => h) (Or.inl ⟨by rfl, ?_⟩) ?_ ?_
      rotate_left
      · intro w'
        go_simp
        with_reducible rfl
      rotate_left
      · simp only [Act.put, List.setIfInBounds_toArray, List.set_cons_zero, List.set_cons_succ, i64_w, i32_w]
        rfl
      refine take_ (i := 12) (N := some 17) (v := ?_) (a' := ?_) #[true, true, true, true, true, true, true, true, true, true, true, true, true, false, false, false, false, false, false, false] rfl rfl (take_ofW HT_.out HW_.out (by kernel_rfl)) (fun _ _ _ h => h) (Or.inl ⟨by rfl, ?_⟩) hHeld ?_ ?_
      rotate_left
      · rintro w' ⟨s0, s1, s2, s3⟩
        go_simp
        with_reducible rfl
      rotate_left
      · simp only [Act.put, List.setIfInBounds_toArray, List.set_cons_zero, List.set_cons_succ, i64_w, i32_w]
        rfl
      refine take_ (i := 14) (N := some 19) (v := ?_) (a' := ?_) #[true, true, true, true, true, true, true, true, true, true, true, true, true, false, true, false, false, false, false, false] rfl rfl (take_ofW HT_.out HW_.out (by kernel_rfl)) (fun _ _ _ h => h) (Or.inl ⟨by rfl, ?_⟩) hHeld ?_ ?_
      rotate_left
      · rintro w' ⟨s0, s1, s2, s3⟩
        go_simp
        with_reducible rfl
      rotate_left
      · simp only [Act.put, List.setIfInBounds_toArray, List.set_cons_zero, List.set_cons_succ, i64_w, i32_w]
        rfl
      refine one_ (i := 13) (N := some 18) #[true, true, true, true, true, true, true, true, true, true, true, true, true, true, true, false, false, false, false, false] rfl rfl (one_of HT_.out (by kernel_rfl)) (by decide) (fun K hK => ?_)
      refine goes_ Try.func24 (by kernel_rfl) rfl #[.agg #[.int .i64 a0_0, .int .i64 a0_1]] (by rfl) rfl rfl (by (try simp only [List.map_toArray, List.map_cons, List.map_nil]); first | done | rfl | (simp only [List.length_drop, List.length_take]; rfl)) ?_
      with_reducible refine (span_End.calls a0_0 a0_1 t152 _ A8.out).mono ?_
      rintro e w16 ⟨rfl, hb⟩
      refine ⟨_, rfl, ?_⟩
      have n0_ := Aside0.mk (blk_below (g := gb148) (o := .cells #[.int .i64 a0_0, .int .i64 a0_1] 24 (0, 0)) (by (with_reducible repeat (first | refine blk_drewN ?_ _ | refine blk_drew ?_ | refine blk_alloc ?_ _)); exact BK148.out) hb)
      have n1_ := Aside0.mk (blk_below (g := gb149) (o := .cells #[.int .i64 a1_0, .int .i64 a1_1] 24 (0, 0)) (by (with_reducible repeat (first | refine blk_drewN ?_ _ | refine blk_drew ?_ | refine blk_alloc ?_ _)); exact BK149.out) hb)
      have n2_ := Aside0.mk (below_step (by repeat (first | (with_reducible first | exact HB.out | apply below_alloc | apply pw_below_drewN | apply below_drew1 | refine below_set ?_ GE148.out | refine below_set ?_ GE149.out) | exact HB.out)) hb)
      clear BK148
      clear BK149
      clear HB
      have BK148 := n0_
      have BK149 := n1_
      have HB := n2_
      clear n0_ n1_ n2_
      (try clear hb)
      (try clear hb2)
      (try clear hk)
      (try clear hi)
      refine hK.out _ _ ⟨(blk_cell BK148.out 0).trans rfl, (blk_cell BK148.out 1).trans rfl, (blk_cell BK149.out 0).trans rfl, (blk_cell BK149.out 1).trans rfl⟩ (fun hHeld => ?_)
      clear hK K
      refine norm_ (a' := ?_) ?_ ?_
      rotate_left
      · show Act.put _ (some 18) _ = _
        simp only [Act.put, List.setIfInBounds_toArray, List.set_cons_zero, List.set_cons_succ, i64_w, i32_w]
        rfl
      refine one_ (i := 15) (N := some 20) #[true, true, true, true, true, true, true, true, true, true, true, true, true, true, true, true, false, false, false, false] rfl rfl (one_of HT_.out (by kernel_rfl)) (by decide) (fun K hK => ?_)
      refine goes_ Try.func24 (by kernel_rfl) rfl #[.agg #[.int .i64 a1_0, .int .i64 a1_1]] (by rfl) rfl rfl (by (try simp only [List.map_toArray, List.map_cons, List.map_nil]); first | done | rfl | (simp only [List.length_drop, List.length_take]; rfl)) ?_
      with_reducible refine (span_End.calls a1_0 a1_1 t153 _ A9.out).mono ?_
      rintro e w17 ⟨rfl, hb⟩
      refine ⟨_, rfl, ?_⟩
      have n0_ := Aside0.mk (blk_below (g := gb148) (o := .cells #[.int .i64 a0_0, .int .i64 a0_1] 24 (0, 0)) (by (with_reducible repeat (first | refine blk_drewN ?_ _ | refine blk_drew ?_ | refine blk_alloc ?_ _)); exact BK148.out) hb)
      have n1_ := Aside0.mk (blk_below (g := gb149) (o := .cells #[.int .i64 a1_0, .int .i64 a1_1] 24 (0, 0)) (by (with_reducible repeat (first | refine blk_drewN ?_ _ | refine blk_drew ?_ | refine blk_alloc ?_ _)); exact BK149.out) hb)
      have n2_ := Aside0.mk (below_step (by repeat (first | (with_reducible first | exact HB.out | apply below_alloc | apply pw_below_drewN | apply below_drew1 | refine below_set ?_ GE148.out | refine below_set ?_ GE149.out) | exact HB.out)) hb)
      clear BK148
      clear BK149
      clear HB
      have BK148 := n0_
      have BK149 := n1_
      have HB := n2_
      clear n0_ n1_ n2_
      (try clear hb)
      (try clear hb2)
      (try clear hk)
      (try clear hi)
      refine hK.out _ _ ⟨(blk_cell BK148.out 0).trans rfl, (blk_cell BK148.out 1).trans rfl, (blk_cell BK149.out 0).trans rfl, (blk_cell BK149.out 1).trans rfl⟩ (fun hHeld => ?_)
      clear hK K
      refine norm_ (a' := ?_) ?_ ?_
      rotate_left
      · show Act.put _ (some 20) _ = _
        simp only [Act.put, List.setIfInBounds_toArray, List.set_cons_zero, List.set_cons_succ, i64_w, i32_w]
        rfl
      refine pure_ (i := 16) (N := some 21) (v := ?_) (a' := ?_) #[true, true, true, true, true, true, true, true, true, true, true, true, true, true, true, true, true, false, false, false] rfl rfl (any_of HT_.out (by kernel_rfl)) (fun _ _ _ h => h) (Or.inl ⟨by rfl, ?_⟩) ?_ ?_
      rotate_left
      · intro w'
        go_simp
        with_reducible rfl
      rotate_left
      · simp only [Act.put, List.setIfInBounds_toArray, List.set_cons_zero, List.set_cons_succ, i64_w, i32_w]
        rfl
      refine pure_ (i := 17) (N := some 22) (v := ?_) (a' := ?_) #[true, true, true, true, true, true, true, true, true, true, true, true, true, true, true, true, true, true, false, false] rfl rfl (any_of HT_.out (by kernel_rfl)) (fun _ _ _ h => h) (Or.inl ⟨by rfl, ?_⟩) ?_ ?_
      rotate_left
      · intro w'
        go_simp
        with_reducible rfl
      rotate_left
      · simp only [Act.put, List.setIfInBounds_toArray, List.set_cons_zero, List.set_cons_succ, i64_w, i32_w]
        rfl
      refine pure_ (i := 18) (N := some 23) (v := ?_) (a' := ?_) #[true, true, true, true, true, true, true, true, true, true, true, true, true, true, true, true, true, true, true, false] rfl rfl (any_of HT_.out (by kernel_rfl)) (fun _ _ _ h => h) (Or.inl ⟨by rfl, ?_⟩) ?_ ?_
      rotate_left
      · intro w'
        go_simp
        with_reducible rfl
      rotate_left
      · simp only [Act.put, List.setIfInBounds_toArray, List.set_cons_zero, List.set_cons_succ, i64_w, i32_w]
        rfl
      refine pure_ (i := 19) (N := some 4) (v := ?_) (a' := ?_) #[true, true, true, true, true, true, true, true, true, true, true, true, true, true, true, true, true, true, true, true] rfl rfl (any_of HT_.out (by kernel_rfl)) (fun _ _ _ h => h) (Or.inl ⟨by rfl, ?_⟩) ?_ ?_
      rotate_left
      · intro w'
        go_simp
        with_reducible rfl
      rotate_left
      · simp only [Act.put, List.setIfInBounds_toArray, List.set_cons_zero, List.set_cons_succ, i64_w, i32_w]
        rfl
      refine done_ (done_of HT_.out (by kernel_rfl)) ?_
      try go_wp2
      go_ret
      exact ⟨by first | rfl | (simp [errW_none, errW_some] <;> rfl) | (simp only [← hji7, ← hji10]; first | rfl | (simp [errW_none, errW_some] <;> rfl)) | (simp [*, errW_none, errW_some] <;> rfl), by repeat (first | (with_reducible first | exact HB.out | apply below_alloc | apply pw_below_drewN | apply below_drew1 | refine below_set ?_ GE148.out | refine below_set ?_ GE149.out) | exact HB.out)⟩
    · replace c6 := Bool.eq_false_iff.mpr c6
      subst c6
      have H1 : (some false) = some r := by rw [if_neg (show ¬ (false = true) by decide)] at H; exact H
      clear H
      have H := H1
      clear H1
      obtain rfl := Option.some.inj H
      go_enter Try.func22, Try.ntmps22
      try go_wp2_with (first | ((with_reducible refine gate_dst (N := 2) rfl ?_); (try (refine gate_guard (by rfl) ?_; dsimp only)); refine box_event ?hg (N := 2) ?hd (cs := #[.int .i64 a0_0, .int .i64 a0_1]) (t := 24) ?hr ?_; (case hd => rfl); (case hg => rfl); (case hr => first | (go_simp; done) | (go_simp; rfl)); intro gb148 hg w18 hbox hb; have n0_ := Aside0.mk (below_step (by repeat (first | (with_reducible first | exact HB.out | apply below_alloc | apply pw_below_drewN | apply below_drew1) | exact HB.out)) hb); have n1_ := Aside0.mk (hbox); have n2_ := Aside0.mk ((by rw [hg]; exact (below_size (by repeat (first | (with_reducible first | exact HB.out | apply below_alloc | apply pw_below_drewN | apply below_drew1) | exact HB.out))) : w.heap.size ≤ gb148)); have n3_ := Aside0.mk ((by rw [hg]; exact (below_size (by repeat (first | (with_reducible first | exact HB.out | apply below_alloc | apply pw_below_drewN | apply below_drew1) | exact HB.out))) : w.heap.size ≤ gb148)); clear HB; have HB := n0_; have BK148 := n1_; have GW148 := n2_; have GE148 := n3_; clear n0_ n1_ n2_ n3_; clear hb hbox hg) | ((with_reducible refine gate_dst (N := 3) rfl ?_); (try (refine gate_guard (by rfl) ?_; dsimp only)); refine box_event ?hg (N := 3) ?hd (cs := #[.int .i64 a1_0, .int .i64 a1_1]) (t := 24) ?hr ?_; (case hd => rfl); (case hg => rfl); (case hr => first | (go_simp; done) | (go_simp; rfl)); intro gb149 hg w19 hbox hb; have n0_ := Aside0.mk (blk_below (g := gb148) (o := .cells #[.int .i64 a0_0, .int .i64 a0_1] 24 (0, 0)) (by (with_reducible repeat (first | refine blk_drewN ?_ _ | refine blk_drew ?_ | refine blk_alloc ?_ _)); exact BK148.out) hb); have n1_ := Aside0.mk (below_step (by repeat (first | (with_reducible first | exact HB.out | apply below_alloc | apply pw_below_drewN | apply below_drew1 | refine below_set ?_ GE148.out) | exact HB.out)) hb); have n2_ := Aside0.mk (hbox); have n3_ := Aside0.mk ((by rw [hg]; exact (below_size (by repeat (first | (with_reducible first | exact HB.out | apply below_alloc | apply pw_below_drewN | apply below_drew1 | refine below_set ?_ GE148.out) | exact HB.out))) : w.heap.size ≤ gb149)); have n4_ := Aside0.mk ((by rw [hg]; exact (below_size (by repeat (first | (with_reducible first | exact HB.out | apply below_alloc | apply pw_below_drewN | apply below_drew1 | refine below_set ?_ GE148.out) | exact HB.out))) : w.heap.size ≤ gb149)); have n5_ := Aside0.mk ((by rw [hg]; exact Nat.ne_of_lt (blk_lt (g := gb148) (o := .cells #[.int .i64 a0_0, .int .i64 a0_1] 24 (0, 0)) (by (with_reducible repeat (first | refine blk_drewN ?_ _ | refine blk_drew ?_ | refine blk_alloc ?_ _)); exact BK148.out)) : gb148 ≠ gb149)); have n6_ := Aside0.mk ((by rw [hg]; exact Nat.ne_of_gt (blk_lt (g := gb148) (o := .cells #[.int .i64 a0_0, .int .i64 a0_1] 24 (0, 0)) (by (with_reducible repeat (first | refine blk_drewN ?_ _ | refine blk_drew ?_ | refine blk_alloc ?_ _)); exact BK148.out)) : gb149 ≠ gb148)); clear BK148; clear HB; have BK148 := n0_; have HB := n1_; have BK149 := n2_; have GW149 := n3_; have GE149 := n4_; have NB148_149 := n5_; have NB149_148 := n6_; clear n0_ n1_ n2_ n3_ n4_ n5_ n6_; clear hb hbox hg))
      have n0_ := Aside0.mk (blk_drew BK148.out)
      have n1_ := Aside0.mk (blk_drew BK149.out)
      have n2_ := Aside0.mk (below_drew1 HB.out)
      clear BK148
      clear BK149
      clear HB
      have BK148 := n0_
      have BK149 := n1_
      have HB := n2_
      clear n0_ n1_ n2_
      refine start_ (n := 20) (S := fun w' => w'.cell? ⟨gb148, 0, none⟩ = some (.int .i64 a0_0) ∧ w'.cell? ⟨gb148, 1, none⟩ = some (.int .i64 a0_1) ∧ w'.cell? ⟨gb149, 0, none⟩ = some (.int .i64 a1_0) ∧ w'.cell? ⟨gb149, 1, none⟩ = some (.int .i64 a1_1)) (ds := []) #[false, false, false, false, false, false, false, false, false, false, false, false, false, false, false, false, false, false, false, false] (by kernel_rfl) rfl rfl ⟨(blk_cell BK148.out 0).trans rfl, (blk_cell BK148.out 1).trans rfl, (blk_cell BK149.out 0).trans rfl, (blk_cell BK149.out 1).trans rfl⟩ (fun hHeld => ?_); refine with_tabW span_Touch.tab1 span_Touch.bits1 (fun HT_ HW_ => ?_)
      generalize w19.drew = w20 at BK148 BK149 HB hHeld ⊢
      refine take_ (i := 0) (N := some 5) (v := ?_) (a' := ?_) #[true, false, false, false, false, false, false, false, false, false, false, false, false, false, false, false, false, false, false, false] rfl rfl (take_ofW HT_.out HW_.out (by kernel_rfl)) (fun _ _ _ h => h) (Or.inl ⟨by rfl, ?_⟩) hHeld ?_ ?_
      rotate_left
      · rintro w' ⟨s0, s1, s2, s3⟩
        go_simp
        with_reducible rfl
      rotate_left
      · simp only [Act.put, List.setIfInBounds_toArray, List.set_cons_zero, List.set_cons_succ, i64_w, i32_w]
        rfl
      refine one_ (i := 1) (N := some 6) #[true, true, false, false, false, false, false, false, false, false, false, false, false, false, false, false, false, false, false, false] rfl rfl (one_of HT_.out (by kernel_rfl)) (by decide) (fun K hK => ?_)
      refine goes_ Try.func44 (by kernel_rfl) rfl #[.agg #[.int .i64 a0_0, .int .i64 a0_1]] (by rfl) rfl rfl (by (try simp only [List.map_toArray, List.map_cons, List.map_nil]); first | done | rfl | (simp only [List.length_drop, List.length_take]; rfl)) ?_
      with_reducible refine (span_whole.calls a0_0 a0_1 true _ A3.out).mono ?_
      rintro e w21 ⟨rfl, hb⟩
      refine ⟨_, rfl, ?_⟩
      have n0_ := Aside0.mk (blk_below (g := gb148) (o := .cells #[.int .i64 a0_0, .int .i64 a0_1] 24 (0, 0)) (by (with_reducible repeat (first | refine blk_drewN ?_ _ | refine blk_drew ?_ | refine blk_alloc ?_ _)); exact BK148.out) hb)
      have n1_ := Aside0.mk (blk_below (g := gb149) (o := .cells #[.int .i64 a1_0, .int .i64 a1_1] 24 (0, 0)) (by (with_reducible repeat (first | refine blk_drewN ?_ _ | refine blk_drew ?_ | refine blk_alloc ?_ _)); exact BK149.out) hb)
      have n2_ := Aside0.mk (below_step (by repeat (first | (with_reducible first | exact HB.out | apply below_alloc | apply pw_below_drewN | apply below_drew1 | refine below_set ?_ GE148.out | refine below_set ?_ GE149.out) | exact HB.out)) hb)
      clear BK148
      clear BK149
      clear HB
      have BK148 := n0_
      have BK149 := n1_
      have HB := n2_
      clear n0_ n1_ n2_
      (try clear hb)
      (try clear hb2)
      (try clear hk)
      (try clear hi)
      refine hK.out _ _ ⟨(blk_cell BK148.out 0).trans rfl, (blk_cell BK148.out 1).trans rfl, (blk_cell BK149.out 0).trans rfl, (blk_cell BK149.out 1).trans rfl⟩ (fun hHeld => ?_)
      clear hK K
      refine norm_ (a' := ?_) ?_ ?_
      rotate_left
      · show Act.put _ (some 6) _ = _
        simp only [Act.put, List.setIfInBounds_toArray, List.set_cons_zero, List.set_cons_succ, i64_w, i32_w]
        rfl
      refine pure_ (i := 2) (N := some 7) (v := ?_) (a' := ?_) #[true, true, true, false, false, false, false, false, false, false, false, false, false, false, false, false, false, false, false, false] rfl rfl (any_of HT_.out (by kernel_rfl)) (fun _ _ _ h => h) (Or.inl ⟨by rfl, ?_⟩) ?_ ?_
      rotate_left
      · intro w'
        go_simp
        with_reducible rfl
      rotate_left
      · simp only [Act.put, List.setIfInBounds_toArray, List.set_cons_zero, List.set_cons_succ, i64_w, i32_w]
        rfl
      refine take_ (i := 3) (N := some 8) (v := ?_) (a' := ?_) #[true, true, true, true, false, false, false, false, false, false, false, false, false, false, false, false, false, false, false, false] rfl rfl (take_ofW HT_.out HW_.out (by kernel_rfl)) (fun _ _ _ h => h) (Or.inl ⟨by rfl, ?_⟩) hHeld ?_ ?_
      rotate_left
      · rintro w' ⟨s0, s1, s2, s3⟩
        go_simp
        with_reducible rfl
      rotate_left
      · simp only [Act.put, List.setIfInBounds_toArray, List.set_cons_zero, List.set_cons_succ, i64_w, i32_w]
        rfl
      refine one_ (i := 4) (N := some 9) #[true, true, true, true, true, false, false, false, false, false, false, false, false, false, false, false, false, false, false, false] rfl rfl (one_of HT_.out (by kernel_rfl)) (by decide) (fun K hK => ?_)
      refine goes_ Try.func44 (by kernel_rfl) rfl #[.agg #[.int .i64 a1_0, .int .i64 a1_1]] (by rfl) rfl rfl (by (try simp only [List.map_toArray, List.map_cons, List.map_nil]); first | done | rfl | (simp only [List.length_drop, List.length_take]; rfl)) ?_
      with_reducible refine (span_whole.calls a1_0 a1_1 false _ A5.out).mono ?_
      rintro e w22 ⟨rfl, hb⟩
      refine ⟨_, rfl, ?_⟩
      have n0_ := Aside0.mk (blk_below (g := gb148) (o := .cells #[.int .i64 a0_0, .int .i64 a0_1] 24 (0, 0)) (by (with_reducible repeat (first | refine blk_drewN ?_ _ | refine blk_drew ?_ | refine blk_alloc ?_ _)); exact BK148.out) hb)
      have n1_ := Aside0.mk (blk_below (g := gb149) (o := .cells #[.int .i64 a1_0, .int .i64 a1_1] 24 (0, 0)) (by (with_reducible repeat (first | refine blk_drewN ?_ _ | refine blk_drew ?_ | refine blk_alloc ?_ _)); exact BK149.out) hb)
      have n2_ := Aside0.mk (below_step (by repeat (first | (with_reducible first | exact HB.out | apply below_alloc | apply pw_below_drewN | apply below_drew1 | refine below_set ?_ GE148.out | refine below_set ?_ GE149.out) | exact HB.out)) hb)
      clear BK148
      clear BK149
      clear HB
      have BK148 := n0_
      have BK149 := n1_
      have HB := n2_
      clear n0_ n1_ n2_
      (try clear hb)
      (try clear hb2)
      (try clear hk)
      (try clear hi)
      refine hK.out _ _ ⟨(blk_cell BK148.out 0).trans rfl, (blk_cell BK148.out 1).trans rfl, (blk_cell BK149.out 0).trans rfl, (blk_cell BK149.out 1).trans rfl⟩ (fun hHeld => ?_)
      clear hK K
      refine norm_ (a' := ?_) ?_ ?_
      rotate_left
      · show Act.put _ (some 9) _ = _
        simp only [Act.put, List.setIfInBounds_toArray, List.set_cons_zero, List.set_cons_succ, i64_w, i32_w]
        rfl
      refine pure_ (i := 5) (N := some 10) (v := ?_) (a' := ?_) #[true, true, true, true, true, true, false, false, false, false, false, false, false, false, false, false, false, false, false, false] rfl rfl (any_of HT_.out (by kernel_rfl)) (fun _ _ _ h => h) (Or.inl ⟨by rfl, ?_⟩) ?_ ?_
      rotate_left
      · intro w'
        go_simp
        with_reducible rfl
      rotate_left
      · simp only [Act.put, List.setIfInBounds_toArray, List.set_cons_zero, List.set_cons_succ, i64_w, i32_w]
        rfl
      refine pure_ (i := 6) (N := some 11) (v := ?_) (a' := ?_) #[true, true, true, true, true, true, true, false, false, false, false, false, false, false, false, false, false, false, false, false] rfl rfl (any_of HT_.out (by kernel_rfl)) (fun _ _ _ h => h) (Or.inl ⟨by rfl, ?_⟩) ?_ ?_
      rotate_left
      · intro w'
        go_simp
        with_reducible rfl
      rotate_left
      · simp only [Act.put, List.setIfInBounds_toArray, List.set_cons_zero, List.set_cons_succ, i64_w, i32_w]
        rfl
      refine pure_ (i := 7) (N := some 12) (v := undef) (a' := ?_) #[true, true, true, true, true, true, true, true, false, false, false, false, false, false, false, false, false, false, false, false] rfl rfl (any_of HT_.out (by kernel_rfl)) (fun _ _ _ h => h) (Or.inr ⟨by rfl, rfl⟩) ?_ ?_
      rotate_left
      · simp only [Act.put, List.setIfInBounds_toArray, List.set_cons_zero, List.set_cons_succ, i64_w, i32_w]
        rfl
      refine pure_ (i := 8) (N := some 13) (v := undef) (a' := ?_) #[true, true, true, true, true, true, true, true, true, false, false, false, false, false, false, false, false, false, false, false] rfl rfl (any_of HT_.out (by kernel_rfl)) (fun _ _ _ h => h) (Or.inr ⟨by rfl, rfl⟩) ?_ ?_
      rotate_left
      · simp only [Act.put, List.setIfInBounds_toArray, List.set_cons_zero, List.set_cons_succ, i64_w, i32_w]
        rfl
      refine pure_ (i := 9) (N := some 14) (v := undef) (a' := ?_) #[true, true, true, true, true, true, true, true, true, true, false, false, false, false, false, false, false, false, false, false] rfl rfl (any_of HT_.out (by kernel_rfl)) (fun _ _ _ h => h) (Or.inr ⟨by rfl, rfl⟩) ?_ ?_
      rotate_left
      · simp only [Act.put, List.setIfInBounds_toArray, List.set_cons_zero, List.set_cons_succ, i64_w, i32_w]
        rfl
      refine pure_ (i := 10) (N := some 15) (v := undef) (a' := ?_) #[true, true, true, true, true, true, true, true, true, true, true, false, false, false, false, false, false, false, false, false] rfl rfl (any_of HT_.out (by kernel_rfl)) (fun _ _ _ h => h) (Or.inr ⟨by rfl, rfl⟩) ?_ ?_
      rotate_left
      · simp only [Act.put, List.setIfInBounds_toArray, List.set_cons_zero, List.set_cons_succ, i64_w, i32_w]
        rfl
      refine pure_ (i := 11) (N := some 16) (v := undef) (a' := ?_) #[true, true, true, true, true, true, true, true, true, true, true, true, false, false, false, false, false, false, false, false] rfl rfl (any_of HT_.out (by kernel_rfl)) (fun _ _ _ h => h) (Or.inr ⟨by rfl, rfl⟩) ?_ ?_
      rotate_left
      · simp only [Act.put, List.setIfInBounds_toArray, List.set_cons_zero, List.set_cons_succ, i64_w, i32_w]
        rfl
      refine pure_ (i := 12) (N := some 17) (v := undef) (a' := ?_) #[true, true, true, true, true, true, true, true, true, true, true, true, true, false, false, false, false, false, false, false] rfl rfl (any_of HT_.out (by kernel_rfl)) (fun _ _ _ h => h) (Or.inr ⟨by rfl, rfl⟩) ?_ ?_
      rotate_left
      · simp only [Act.put, List.setIfInBounds_toArray, List.set_cons_zero, List.set_cons_succ, i64_w, i32_w]
        rfl
      refine pure_ (i := 13) (N := some 18) (v := undef) (a' := ?_) #[true, true, true, true, true, true, true, true, true, true, true, true, true, true, false, false, false, false, false, false] rfl rfl (any_of HT_.out (by kernel_rfl)) (fun _ _ _ h => h) (Or.inr ⟨by rfl, rfl⟩) ?_ ?_
      rotate_left
      · simp only [Act.put, List.setIfInBounds_toArray, List.set_cons_zero, List.set_cons_succ, i64_w, i32_w]
        rfl
      refine pure_ (i := 14) (N := some 19) (v := undef) (a' := ?_) #[true, true, true, true, true, true, true, true, true, true, true, true, true, true, true, false, false, false, false, false] rfl rfl (any_of HT_.out (by kernel_rfl)) (fun _ _ _ h => h) (Or.inr ⟨by rfl, rfl⟩) ?_ ?_
      rotate_left
      · simp only [Act.put, List.setIfInBounds_toArray, List.set_cons_zero, List.set_cons_succ, i64_w, i32_w]
        rfl
      refine pure_ (i := 15) (N := some 20) (v := undef) (a' := ?_) #[true, true, true, true, true, true, true, true, true, true, true, true, true, true, true, true, false, false, false, false] rfl rfl (any_of HT_.out (by kernel_rfl)) (fun _ _ _ h => h) (Or.inr ⟨by rfl, rfl⟩) ?_ ?_
      rotate_left
      · simp only [Act.put, List.setIfInBounds_toArray, List.set_cons_zero, List.set_cons_succ, i64_w, i32_w]
        rfl
      refine pure_ (i := 16) (N := some 21) (v := undef) (a' := ?_) #[true, true, true, true, true, true, true, true, true, true, true, true, true, true, true, true, true, false, false, false] rfl rfl (any_of HT_.out (by kernel_rfl)) (fun _ _ _ h => h) (Or.inr ⟨by rfl, rfl⟩) ?_ ?_
      rotate_left
      · simp only [Act.put, List.setIfInBounds_toArray, List.set_cons_zero, List.set_cons_succ, i64_w, i32_w]
        rfl
      refine pure_ (i := 17) (N := some 22) (v := undef) (a' := ?_) #[true, true, true, true, true, true, true, true, true, true, true, true, true, true, true, true, true, true, false, false] rfl rfl (any_of HT_.out (by kernel_rfl)) (fun _ _ _ h => h) (Or.inr ⟨by rfl, rfl⟩) ?_ ?_
      rotate_left
      · simp only [Act.put, List.setIfInBounds_toArray, List.set_cons_zero, List.set_cons_succ, i64_w, i32_w]
        rfl
      refine pure_ (i := 18) (N := some 23) (v := ?_) (a' := ?_) #[true, true, true, true, true, true, true, true, true, true, true, true, true, true, true, true, true, true, true, false] rfl rfl (any_of HT_.out (by kernel_rfl)) (fun _ _ _ h => h) (Or.inl ⟨by rfl, ?_⟩) ?_ ?_
      rotate_left
      · intro w'
        go_simp
        with_reducible rfl
      rotate_left
      · simp only [Act.put, List.setIfInBounds_toArray, List.set_cons_zero, List.set_cons_succ, i64_w, i32_w]
        rfl
      refine pure_ (i := 19) (N := some 4) (v := ?_) (a' := ?_) #[true, true, true, true, true, true, true, true, true, true, true, true, true, true, true, true, true, true, true, true] rfl rfl (any_of HT_.out (by kernel_rfl)) (fun _ _ _ h => h) (Or.inl ⟨by rfl, ?_⟩) ?_ ?_
      rotate_left
      · intro w'
        go_simp
        with_reducible rfl
      rotate_left
      · simp only [Act.put, List.setIfInBounds_toArray, List.set_cons_zero, List.set_cons_succ, i64_w, i32_w]
        rfl
      refine done_ (done_of HT_.out (by kernel_rfl)) ?_
      try go_wp2
      go_ret
      exact ⟨by first | rfl | (simp [errW_none, errW_some] <;> rfl) | (simp [*, errW_none, errW_some] <;> rfl), by repeat (first | (with_reducible first | exact HB.out | apply below_alloc | apply pw_below_drewN | apply below_drew1 | refine below_set ?_ GE148.out | refine below_set ?_ GE149.out) | exact HB.out)⟩
  · replace c4 := Bool.eq_false_iff.mpr c4
    subst c4
    have H1 : (some false) = some r := by rw [if_neg (show ¬ (false = true) by decide)] at H; exact H
    clear H
    have H := H1
    clear H1
    obtain rfl := Option.some.inj H
    go_enter Try.func22, Try.ntmps22
    try go_wp2_with (first | ((with_reducible refine gate_dst (N := 2) rfl ?_); (try (refine gate_guard (by rfl) ?_; dsimp only)); refine box_event ?hg (N := 2) ?hd (cs := #[.int .i64 a0_0, .int .i64 a0_1]) (t := 24) ?hr ?_; (case hd => rfl); (case hg => rfl); (case hr => first | (go_simp; done) | (go_simp; rfl)); intro gb148 hg w23 hbox hb; have n0_ := Aside0.mk (below_step (by repeat (first | (with_reducible first | exact HB.out | apply below_alloc | apply pw_below_drewN | apply below_drew1) | exact HB.out)) hb); have n1_ := Aside0.mk (hbox); have n2_ := Aside0.mk ((by rw [hg]; exact (below_size (by repeat (first | (with_reducible first | exact HB.out | apply below_alloc | apply pw_below_drewN | apply below_drew1) | exact HB.out))) : w.heap.size ≤ gb148)); have n3_ := Aside0.mk ((by rw [hg]; exact (below_size (by repeat (first | (with_reducible first | exact HB.out | apply below_alloc | apply pw_below_drewN | apply below_drew1) | exact HB.out))) : w.heap.size ≤ gb148)); clear HB; have HB := n0_; have BK148 := n1_; have GW148 := n2_; have GE148 := n3_; clear n0_ n1_ n2_ n3_; clear hb hbox hg) | ((with_reducible refine gate_dst (N := 3) rfl ?_); (try (refine gate_guard (by rfl) ?_; dsimp only)); refine box_event ?hg (N := 3) ?hd (cs := #[.int .i64 a1_0, .int .i64 a1_1]) (t := 24) ?hr ?_; (case hd => rfl); (case hg => rfl); (case hr => first | (go_simp; done) | (go_simp; rfl)); intro gb149 hg w24 hbox hb; have n0_ := Aside0.mk (blk_below (g := gb148) (o := .cells #[.int .i64 a0_0, .int .i64 a0_1] 24 (0, 0)) (by (with_reducible repeat (first | refine blk_drewN ?_ _ | refine blk_drew ?_ | refine blk_alloc ?_ _)); exact BK148.out) hb); have n1_ := Aside0.mk (below_step (by repeat (first | (with_reducible first | exact HB.out | apply below_alloc | apply pw_below_drewN | apply below_drew1 | refine below_set ?_ GE148.out) | exact HB.out)) hb); have n2_ := Aside0.mk (hbox); have n3_ := Aside0.mk ((by rw [hg]; exact (below_size (by repeat (first | (with_reducible first | exact HB.out | apply below_alloc | apply pw_below_drewN | apply below_drew1 | refine below_set ?_ GE148.out) | exact HB.out))) : w.heap.size ≤ gb149)); have n4_ := Aside0.mk ((by rw [hg]; exact (below_size (by repeat (first | (with_reducible first | exact HB.out | apply below_alloc | apply pw_below_drewN | apply below_drew1 | refine below_set ?_ GE148.out) | exact HB.out))) : w.heap.size ≤ gb149)); have n5_ := Aside0.mk ((by rw [hg]; exact Nat.ne_of_lt (blk_lt (g := gb148) (o := .cells #[.int .i64 a0_0, .int .i64 a0_1] 24 (0, 0)) (by (with_reducible repeat (first | refine blk_drewN ?_ _ | refine blk_drew ?_ | refine blk_alloc ?_ _)); exact BK148.out)) : gb148 ≠ gb149)); have n6_ := Aside0.mk ((by rw [hg]; exact Nat.ne_of_gt (blk_lt (g := gb148) (o := .cells #[.int .i64 a0_0, .int .i64 a0_1] 24 (0, 0)) (by (with_reducible repeat (first | refine blk_drewN ?_ _ | refine blk_drew ?_ | refine blk_alloc ?_ _)); exact BK148.out)) : gb149 ≠ gb148)); clear BK148; clear HB; have BK148 := n0_; have HB := n1_; have BK149 := n2_; have GW149 := n3_; have GE149 := n4_; have NB148_149 := n5_; have NB149_148 := n6_; clear n0_ n1_ n2_ n3_ n4_ n5_ n6_; clear hb hbox hg))
    have n0_ := Aside0.mk (blk_drew BK148.out)
    have n1_ := Aside0.mk (blk_drew BK149.out)
    have n2_ := Aside0.mk (below_drew1 HB.out)
    clear BK148
    clear BK149
    clear HB
    have BK148 := n0_
    have BK149 := n1_
    have HB := n2_
    clear n0_ n1_ n2_
    refine start_ (n := 20) (S := fun w' => w'.cell? ⟨gb148, 0, none⟩ = some (.int .i64 a0_0) ∧ w'.cell? ⟨gb148, 1, none⟩ = some (.int .i64 a0_1)) (ds := []) #[false, false, false, false, false, false, false, false, false, false, false, false, false, false, false, false, false, false, false, false] (by kernel_rfl) rfl rfl ⟨(blk_cell BK148.out 0).trans rfl, (blk_cell BK148.out 1).trans rfl⟩ (fun hHeld => ?_); refine with_tabW span_Touch.tab1 span_Touch.bits1 (fun HT_ HW_ => ?_)
    generalize w24.drew = w25 at BK148 BK149 HB hHeld ⊢
    refine take_ (i := 0) (N := some 5) (v := ?_) (a' := ?_) #[true, false, false, false, false, false, false, false, false, false, false, false, false, false, false, false, false, false, false, false] rfl rfl (take_ofW HT_.out HW_.out (by kernel_rfl)) (fun _ _ _ h => h) (Or.inl ⟨by rfl, ?_⟩) hHeld ?_ ?_
    rotate_left
    · rintro w' ⟨s0, s1⟩
      go_simp
      with_reducible rfl
    rotate_left
    · simp only [Act.put, List.setIfInBounds_toArray, List.set_cons_zero, List.set_cons_succ, i64_w, i32_w]
      rfl
    refine one_ (i := 1) (N := some 6) #[true, true, false, false, false, false, false, false, false, false, false, false, false, false, false, false, false, false, false, false] rfl rfl (one_of HT_.out (by kernel_rfl)) (by decide) (fun K hK => ?_)
    refine goes_ Try.func44 (by kernel_rfl) rfl #[.agg #[.int .i64 a0_0, .int .i64 a0_1]] (by rfl) rfl rfl (by (try simp only [List.map_toArray, List.map_cons, List.map_nil]); first | done | rfl | (simp only [List.length_drop, List.length_take]; rfl)) ?_
    with_reducible refine (span_whole.calls a0_0 a0_1 false _ A3.out).mono ?_
    rintro e w26 ⟨rfl, hb⟩
    refine ⟨_, rfl, ?_⟩
    have n0_ := Aside0.mk (blk_below (g := gb148) (o := .cells #[.int .i64 a0_0, .int .i64 a0_1] 24 (0, 0)) (by (with_reducible repeat (first | refine blk_drewN ?_ _ | refine blk_drew ?_ | refine blk_alloc ?_ _)); exact BK148.out) hb)
    have n1_ := Aside0.mk (blk_below (g := gb149) (o := .cells #[.int .i64 a1_0, .int .i64 a1_1] 24 (0, 0)) (by (with_reducible repeat (first | refine blk_drewN ?_ _ | refine blk_drew ?_ | refine blk_alloc ?_ _)); exact BK149.out) hb)
    have n2_ := Aside0.mk (below_step (by repeat (first | (with_reducible first | exact HB.out | apply below_alloc | apply pw_below_drewN | apply below_drew1 | refine below_set ?_ GE148.out | refine below_set ?_ GE149.out) | exact HB.out)) hb)
    clear BK148
    clear BK149
    clear HB
    have BK148 := n0_
    have BK149 := n1_
    have HB := n2_
    clear n0_ n1_ n2_
    (try clear hb)
    (try clear hb2)
    (try clear hk)
    (try clear hi)
    refine hK.out _ _ ⟨(blk_cell BK148.out 0).trans rfl, (blk_cell BK148.out 1).trans rfl⟩ (fun hHeld => ?_)
    clear hK K
    refine norm_ (a' := ?_) ?_ ?_
    rotate_left
    · show Act.put _ (some 6) _ = _
      simp only [Act.put, List.setIfInBounds_toArray, List.set_cons_zero, List.set_cons_succ, i64_w, i32_w]
      rfl
    refine pure_ (i := 2) (N := some 7) (v := ?_) (a' := ?_) #[true, true, true, false, false, false, false, false, false, false, false, false, false, false, false, false, false, false, false, false] rfl rfl (any_of HT_.out (by kernel_rfl)) (fun _ _ _ h => h) (Or.inl ⟨by rfl, ?_⟩) ?_ ?_
    rotate_left
    · intro w'
      go_simp
      with_reducible rfl
    rotate_left
    · simp only [Act.put, List.setIfInBounds_toArray, List.set_cons_zero, List.set_cons_succ, i64_w, i32_w]
      rfl
    refine pure_ (i := 3) (N := some 8) (v := undef) (a' := ?_) #[true, true, true, true, false, false, false, false, false, false, false, false, false, false, false, false, false, false, false, false] rfl rfl (any_of HT_.out (by kernel_rfl)) (fun _ _ _ h => h) (Or.inr ⟨by rfl, rfl⟩) ?_ ?_
    rotate_left
    · simp only [Act.put, List.setIfInBounds_toArray, List.set_cons_zero, List.set_cons_succ, i64_w, i32_w]
      rfl
    refine pure_ (i := 4) (N := some 9) (v := undef) (a' := ?_) #[true, true, true, true, true, false, false, false, false, false, false, false, false, false, false, false, false, false, false, false] rfl rfl (any_of HT_.out (by kernel_rfl)) (fun _ _ _ h => h) (Or.inr ⟨by rfl, rfl⟩) ?_ ?_
    rotate_left
    · simp only [Act.put, List.setIfInBounds_toArray, List.set_cons_zero, List.set_cons_succ, i64_w, i32_w]
      rfl
    refine pure_ (i := 5) (N := some 10) (v := ?_) (a' := ?_) #[true, true, true, true, true, true, false, false, false, false, false, false, false, false, false, false, false, false, false, false] rfl rfl (any_of HT_.out (by kernel_rfl)) (fun _ _ _ h => h) (Or.inl ⟨by rfl, ?_⟩) ?_ ?_
    rotate_left
    · intro w'
      go_simp
      with_reducible rfl
    rotate_left
    · simp only [Act.put, List.setIfInBounds_toArray, List.set_cons_zero, List.set_cons_succ, i64_w, i32_w]
      rfl
    refine pure_ (i := 6) (N := some 11) (v := ?_) (a' := ?_) #[true, true, true, true, true, true, true, false, false, false, false, false, false, false, false, false, false, false, false, false] rfl rfl (any_of HT_.out (by kernel_rfl)) (fun _ _ _ h => h) (Or.inl ⟨by rfl, ?_⟩) ?_ ?_
    rotate_left
    · intro w'
      go_simp
      with_reducible rfl
    rotate_left
    · simp only [Act.put, List.setIfInBounds_toArray, List.set_cons_zero, List.set_cons_succ, i64_w, i32_w]
      rfl
    refine pure_ (i := 7) (N := some 12) (v := undef) (a' := ?_) #[true, true, true, true, true, true, true, true, false, false, false, false, false, false, false, false, false, false, false, false] rfl rfl (any_of HT_.out (by kernel_rfl)) (fun _ _ _ h => h) (Or.inr ⟨by rfl, rfl⟩) ?_ ?_
    rotate_left
    · simp only [Act.put, List.setIfInBounds_toArray, List.set_cons_zero, List.set_cons_succ, i64_w, i32_w]
      rfl
    refine pure_ (i := 8) (N := some 13) (v := undef) (a' := ?_) #[true, true, true, true, true, true, true, true, true, false, false, false, false, false, false, false, false, false, false, false] rfl rfl (any_of HT_.out (by kernel_rfl)) (fun _ _ _ h => h) (Or.inr ⟨by rfl, rfl⟩) ?_ ?_
    rotate_left
    · simp only [Act.put, List.setIfInBounds_toArray, List.set_cons_zero, List.set_cons_succ, i64_w, i32_w]
      rfl
    refine pure_ (i := 9) (N := some 14) (v := undef) (a' := ?_) #[true, true, true, true, true, true, true, true, true, true, false, false, false, false, false, false, false, false, false, false] rfl rfl (any_of HT_.out (by kernel_rfl)) (fun _ _ _ h => h) (Or.inr ⟨by rfl, rfl⟩) ?_ ?_
    rotate_left
    · simp only [Act.put, List.setIfInBounds_toArray, List.set_cons_zero, List.set_cons_succ, i64_w, i32_w]
      rfl
    refine pure_ (i := 10) (N := some 15) (v := undef) (a' := ?_) #[true, true, true, true, true, true, true, true, true, true, true, false, false, false, false, false, false, false, false, false] rfl rfl (any_of HT_.out (by kernel_rfl)) (fun _ _ _ h => h) (Or.inr ⟨by rfl, rfl⟩) ?_ ?_
    rotate_left
    · simp only [Act.put, List.setIfInBounds_toArray, List.set_cons_zero, List.set_cons_succ, i64_w, i32_w]
      rfl
    refine pure_ (i := 11) (N := some 16) (v := undef) (a' := ?_) #[true, true, true, true, true, true, true, true, true, true, true, true, false, false, false, false, false, false, false, false] rfl rfl (any_of HT_.out (by kernel_rfl)) (fun _ _ _ h => h) (Or.inr ⟨by rfl, rfl⟩) ?_ ?_
    rotate_left
    · simp only [Act.put, List.setIfInBounds_toArray, List.set_cons_zero, List.set_cons_succ, i64_w, i32_w]
      rfl
    refine pure_ (i := 12) (N := some 17) (v := undef) (a' := ?_) #[true, true, true, true, true, true, true, true, true, true, true, true, true, false, false, false, false, false, false, false] rfl rfl (any_of HT_.out (by kernel_rfl)) (fun _ _ _ h => h) (Or.inr ⟨by rfl, rfl⟩) ?_ ?_
    rotate_left
    · simp only [Act.put, List.setIfInBounds_toArray, List.set_cons_zero, List.set_cons_succ, i64_w, i32_w]
      rfl
    refine pure_ (i := 13) (N := some 18) (v := undef) (a' := ?_) #[true, true, true, true, true, true, true, true, true, true, true, true, true, true, false, false, false, false, false, false] rfl rfl (any_of HT_.out (by kernel_rfl)) (fun _ _ _ h => h) (Or.inr ⟨by rfl, rfl⟩) ?_ ?_
    rotate_left
    · simp only [Act.put, List.setIfInBounds_toArray, List.set_cons_zero, List.set_cons_succ, i64_w, i32_w]
      rfl
    refine pure_ (i := 14) (N := some 19) (v := undef) (a' := ?_) #[true, true, true, true, true, true, true, true, true, true, true, true, true, true, true, false, false, false, false, false] rfl rfl (any_of HT_.out (by kernel_rfl)) (fun _ _ _ h => h) (Or.inr ⟨by rfl, rfl⟩) ?_ ?_
    rotate_left
    · simp only [Act.put, List.setIfInBounds_toArray, List.set_cons_zero, List.set_cons_succ, i64_w, i32_w]
      rfl
    refine pure_ (i := 15) (N := some 20) (v := undef) (a' := ?_) #[true, true, true, true, true, true, true, true, true, true, true, true, true, true, true, true, false, false, false, false] rfl rfl (any_of HT_.out (by kernel_rfl)) (fun _ _ _ h => h) (Or.inr ⟨by rfl, rfl⟩) ?_ ?_
    rotate_left
    · simp only [Act.put, List.setIfInBounds_toArray, List.set_cons_zero, List.set_cons_succ, i64_w, i32_w]
      rfl
    refine pure_ (i := 16) (N := some 21) (v := undef) (a' := ?_) #[true, true, true, true, true, true, true, true, true, true, true, true, true, true, true, true, true, false, false, false] rfl rfl (any_of HT_.out (by kernel_rfl)) (fun _ _ _ h => h) (Or.inr ⟨by rfl, rfl⟩) ?_ ?_
    rotate_left
    · simp only [Act.put, List.setIfInBounds_toArray, List.set_cons_zero, List.set_cons_succ, i64_w, i32_w]
      rfl
    refine pure_ (i := 17) (N := some 22) (v := undef) (a' := ?_) #[true, true, true, true, true, true, true, true, true, true, true, true, true, true, true, true, true, true, false, false] rfl rfl (any_of HT_.out (by kernel_rfl)) (fun _ _ _ h => h) (Or.inr ⟨by rfl, rfl⟩) ?_ ?_
    rotate_left
    · simp only [Act.put, List.setIfInBounds_toArray, List.set_cons_zero, List.set_cons_succ, i64_w, i32_w]
      rfl
    refine pure_ (i := 18) (N := some 23) (v := ?_) (a' := ?_) #[true, true, true, true, true, true, true, true, true, true, true, true, true, true, true, true, true, true, true, false] rfl rfl (any_of HT_.out (by kernel_rfl)) (fun _ _ _ h => h) (Or.inl ⟨by rfl, ?_⟩) ?_ ?_
    rotate_left
    · intro w'
      go_simp
      with_reducible rfl
    rotate_left
    · simp only [Act.put, List.setIfInBounds_toArray, List.set_cons_zero, List.set_cons_succ, i64_w, i32_w]
      rfl
    refine pure_ (i := 19) (N := some 4) (v := ?_) (a' := ?_) #[true, true, true, true, true, true, true, true, true, true, true, true, true, true, true, true, true, true, true, true] rfl rfl (any_of HT_.out (by kernel_rfl)) (fun _ _ _ h => h) (Or.inl ⟨by rfl, ?_⟩) ?_ ?_
    rotate_left
    · intro w'
      go_simp
      with_reducible rfl
    rotate_left
    · simp only [Act.put, List.setIfInBounds_toArray, List.set_cons_zero, List.set_cons_succ, i64_w, i32_w]
      rfl
    refine done_ (done_of HT_.out (by kernel_rfl)) ?_
    try go_wp2
    go_ret
    exact ⟨by first | rfl | (simp [errW_none, errW_some] <;> rfl) | (simp [*, errW_none, errW_some] <;> rfl), by repeat (first | (with_reducible first | exact HB.out | apply below_alloc | apply pw_below_drewN | apply below_drew1 | refine below_set ?_ GE148.out | refine below_set ?_ GE149.out) | exact HB.out)⟩
end Go.Proofs.Ytjbimnicnehnaaa.A
end
section
namespace Go.Proofs.Ytjbimnicnehnaaa.A
open Go.RowKit Go.Proofs.YtjbimnicnehnaaaW.PrintWords Go.Proofs.YtjbimnicnehnaaaW.PrintLast Go.Proofs.YtjbimnicnehnaaaW.PrintMore
attribute [local go_sem] max2_int min2_int max_two min_two max_three min_three max_four min_four   -- for this text's walks alone
set_option linter.unusedVariables false
set_option linter.unusedSimpArgs false
def span_Join.f (a0_0 : Int) (a0_1 : Int) (a1_0 : Int) (a1_1 : Int) : Option (Int × Int × Bool) := (span_Touch.f a0_0 a0_1 a1_0 a1_1).bind fun t157 => (if t157 = true then ((span_End.f a0_0 a0_1).bind fun t158 => ((span_End.f a1_0 a1_1).bind fun t159 => ((span_of.f (mn a0_0 a1_0) (mx t158 t159)).bind fun bt160 => (some (bt160.1, bt160.2.1, bt160.2.2))))) else (some (0, 0, false)))
def span_Join.T3 : Bool × List (List Nat × List Nat) := (true, [([], []), ([0], [0]), ([], []), ([2], [2]), ([1, 3], [1, 3]), ([], []), ([5], [5]), ([], []), ([7, 6], [7]), ([6, 8], [6, 8]), ([4, 9, 8], [4, 9]), ([10], [10]), ([10], [10]), ([11, 10, 0, 1, 2, 3, 4, 5, 6, 7, 8, 9, 10, 11, 12], [11]), ([12, 13, 0, 1, 2, 3, 4, 5, 6, 7, 8, 9, 10, 11, 12, 13], [12])])
def span_Join.B3 : List Nat := [0, 1, 0, 4, 15, 0, 32, 0, 224, 480, 1023, 2047, 2047, 8191, 16383]
theorem span_Join.tab3 : rtab .any (opsOf Try.f21 3) = span_Join.T3 := by kernel_rfl
theorem span_Join.bits3 : waitsOk span_Join.T3.2 span_Join.B3 = true := by kernel_rfl
set_option maxHeartbeats 8000000 in
set_option maxRecDepth 100000 in
theorem span_Join.calls (a0_0 : Int) (a0_1 : Int) (a1_0 : Int) (a1_1 : Int) (r1 : Int) (r2 : Int) (r3 : Bool) (w : World) (h : span_Join.f a0_0 a0_1 a1_0 a1_1 = some (r1, r2, r3)) :
    Calls Try.prog 21 #[.agg #[.int .i64 a0_0, .int .i64 a0_1], .agg #[.int .i64 a1_0, .int .i64 a1_1]] w fun e w' => e = .returned (.tuple #[.agg #[.int .i64 r1, .int .i64 r2], .bool r3]) ∧ Below w.heap.size w w' := by
  have hu24 := Try.underlying24
  have HB := Aside0.mk (Below.refl w.heap.size w)
  have H : ((span_Touch.f a0_0 a0_1 a1_0 a1_1).bind fun t157 => (if t157 = true then ((span_End.f a0_0 a0_1).bind fun t158 => ((span_End.f a1_0 a1_1).bind fun t159 => ((span_of.f (mn a0_0 a1_0) (mx t158 t159)).bind fun bt160 => (some (bt160.1, bt160.2.1, bt160.2.2))))) else (some (0, 0, false)))) = some (r1, r2, r3) := h
  clear h
  replace H := Option.bind_eq_some_iff.mp H
  obtain ⟨t157, A30, H⟩ := H
  replace H : (if t157 = true then ((span_End.f a0_0 a0_1).bind fun t158 => ((span_End.f a1_0 a1_1).bind fun t159 => ((span_of.f (mn a0_0 a1_0) (mx t158 t159)).bind fun bt160 => (some (bt160.1, bt160.2.1, bt160.2.2))))) else (some (0, 0, false))) = some (r1, r2, r3) := H
  have A3 := Aside0.mk A30
  clear A30
  by_cases c4 : t157 = true
  · subst c4
    have H1 : ((span_End.f a0_0 a0_1).bind fun t158 => ((span_End.f a1_0 a1_1).bind fun t159 => ((span_of.f (mn a0_0 a1_0) (mx t158 t159)).bind fun bt160 => (some (bt160.1, bt160.2.1, bt160.2.2))))) = some (r1, r2, r3) := by rw [if_pos rfl] at H; exact H
    clear H
    have H := H1
    clear H1
    obtain ⟨ji5, hji5⟩ : ∃ j_ : Int, (mn a0_0 a1_0) = j_ := ⟨_, rfl⟩
    replace H : ((span_End.f a0_0 a0_1).bind fun t158 => ((span_End.f a1_0 a1_1).bind fun t159 => ((span_of.f (ji5) (mx t158 t159)).bind fun bt160 => (some (bt160.1, bt160.2.1, bt160.2.2))))) = some (r1, r2, r3) := by first | (rw [hji5] at H; exact H) | (simp only [hji5] at H ⊢; exact H)
    (try rw [hji5] at A3)
    have hji5_ : (if a1_0 < a0_0 then a1_0 else a0_0) = ji5 := hji5
    replace H := Option.bind_eq_some_iff.mp H
    obtain ⟨t158, A60, H⟩ := H
    replace H : ((span_End.f a1_0 a1_1).bind fun t159 => ((span_of.f (ji5) (mx t158 t159)).bind fun bt160 => (some (bt160.1, bt160.2.1, bt160.2.2)))) = some (r1, r2, r3) := H
    have A6 := Aside0.mk A60
    clear A60
    replace H := Option.bind_eq_some_iff.mp H
    obtain ⟨t159, A70, H⟩ := H
    replace H : ((span_of.f (ji5) (mx t158 t159)).bind fun bt160 => (some (bt160.1, bt160.2.1, bt160.2.2))) = some (r1, r2, r3) := H
    have A7 := Aside0.mk A70
    clear A70
    obtain ⟨ji8, hji8⟩ : ∃ j_ : Int, (mx t158 t159) = j_ := ⟨_, rfl⟩
    replace H : ((span_of.f (ji5) (ji8)).bind fun bt160 => (some (bt160.1, bt160.2.1, bt160.2.2))) = some (r1, r2, r3) := by first | (rw [hji8] at H; exact H) | (simp only [hji8] at H ⊢; exact H)
    (try rw [hji8] at A3)
    (try rw [hji8] at A6)
    (try rw [hji8] at A7)
    have hji8_ : (if t158 < t159 then t159 else t158) = ji8 := hji8
    replace H := Option.bind_eq_some_iff.mp H
    obtain ⟨⟨t160, t161, t162⟩, A90, H⟩ := H
    replace H : (some (t160, t161, t162)) = some (r1, r2, r3) := H
    have A9 := Aside0.mk A90
    clear A90
    simp only [Option.some.injEq, Prod.mk.injEq] at H
    obtain ⟨rfl, rfl, rfl⟩ := H
    go_enter Try.func21, Try.ntmps21
    try go_wp2_with (first | ((with_reducible refine gate_dst (N := 2) rfl ?_); refine box_event ?hg (N := 2) ?hd (cs := #[.int .i64 a0_0, .int .i64 a0_1]) (t := 24) ?hr ?_; (case hd => rfl); (case hg => rfl); (case hr => first | (go_simp; done) | (go_simp; rfl)); intro gb154 hg w10 hbox hb; have n0_ := Aside0.mk (below_step (by repeat (first | (with_reducible first | exact HB.out | apply below_alloc | apply pw_below_drewN | apply below_drew1) | exact HB.out)) hb); have n1_ := Aside0.mk (hbox); have n2_ := Aside0.mk ((by rw [hg]; exact (below_size (by repeat (first | (with_reducible first | exact HB.out | apply below_alloc | apply pw_below_drewN | apply below_drew1) | exact HB.out))) : w.heap.size ≤ gb154)); have n3_ := Aside0.mk ((by rw [hg]; exact (below_size (by repeat (first | (with_reducible first | exact HB.out | apply below_alloc | apply pw_below_drewN | apply below_drew1) | exact HB.out))) : w.heap.size ≤ gb154)); clear HB; have HB := n0_; have BK154 := n1_; have GW154 := n2_; have GE154 := n3_; clear n0_ n1_ n2_ n3_; clear hb hbox hg) | ((with_reducible refine gate_dst (N := 3) rfl ?_); refine box_event ?hg (N := 3) ?hd (cs := #[.int .i64 a1_0, .int .i64 a1_1]) (t := 24) ?hr ?_; (case hd => rfl); (case hg => rfl); (case hr => first | (go_simp; done) | (go_simp; rfl)); intro gb155 hg w11 hbox hb; have n0_ := Aside0.mk (blk_below (g := gb154) (o := .cells #[.int .i64 a0_0, .int .i64 a0_1] 24 (0, 0)) (by (with_reducible repeat (first | refine blk_drewN ?_ _ | refine blk_drew ?_ | refine blk_alloc ?_ _)); exact BK154.out) hb); have n1_ := Aside0.mk (below_step (by repeat (first | (with_reducible first | exact HB.out | apply below_alloc | apply pw_below_drewN | apply below_drew1 | refine below_set ?_ GE154.out) | exact HB.out)) hb); have n2_ := Aside0.mk (hbox); have n3_ := Aside0.mk ((by rw [hg]; exact (below_size (by repeat (first | (with_reducible first | exact HB.out | apply below_alloc | apply pw_below_drewN | apply below_drew1 | refine below_set ?_ GE154.out) | exact HB.out))) : w.heap.size ≤ gb155)); have n4_ := Aside0.mk ((by rw [hg]; exact (below_size (by repeat (first | (with_reducible first | exact HB.out | apply below_alloc | apply pw_below_drewN | apply below_drew1 | refine below_set ?_ GE154.out) | exact HB.out))) : w.heap.size ≤ gb155)); have n5_ := Aside0.mk ((by rw [hg]; exact Nat.ne_of_lt (blk_lt (g := gb154) (o := .cells #[.int .i64 a0_0, .int .i64 a0_1] 24 (0, 0)) (by (with_reducible repeat (first | refine blk_drewN ?_ _ | refine blk_drew ?_ | refine blk_alloc ?_ _)); exact BK154.out)) : gb154 ≠ gb155)); have n6_ := Aside0.mk ((by rw [hg]; exact Nat.ne_of_gt (blk_lt (g := gb154) (o := .cells #[.int .i64 a0_0, .int .i64 a0_1] 24 (0, 0)) (by (with_reducible repeat (first | refine blk_drewN ?_ _ | refine blk_drew ?_ | refine blk_alloc ?_ _)); exact BK154.out)) : gb155 ≠ gb154)); clear BK154; clear HB; have BK154 := n0_; have HB := n1_; have BK155 := n2_; have GW155 := n3_; have GE155 := n4_; have NB154_155 := n5_; have NB155_154 := n6_; clear n0_ n1_ n2_ n3_ n4_ n5_ n6_; clear hb hbox hg) | ((with_reducible refine gate_dst (N := 4) rfl ?_); refine box_event ?hg (N := 4) ?hd (cs := #[.int .i64 0, .int .i64 0]) (t := 24) ?hr ?_; (case hd => rfl); (case hg => rfl); (case hr => first | (go_simp; done) | (go_simp; rfl)); intro gb156 hg w12 hbox hb; have n0_ := Aside0.mk (blk_below (g := gb154) (o := .cells #[.int .i64 a0_0, .int .i64 a0_1] 24 (0, 0)) (by (with_reducible repeat (first | refine blk_drewN ?_ _ | refine blk_drew ?_ | refine blk_alloc ?_ _)); exact BK154.out) hb); have n1_ := Aside0.mk (blk_below (g := gb155) (o := .cells #[.int .i64 a1_0, .int .i64 a1_1] 24 (0, 0)) (by (with_reducible repeat (first | refine blk_drewN ?_ _ | refine blk_drew ?_ | refine blk_alloc ?_ _)); exact BK155.out) hb); have n2_ := Aside0.mk (below_step (by repeat (first | (with_reducible first | exact HB.out | apply below_alloc | apply pw_below_drewN | apply below_drew1 | refine below_set ?_ GE154.out | refine below_set ?_ GE155.out) | exact HB.out)) hb); have n3_ := Aside0.mk (hbox); have n4_ := Aside0.mk ((by rw [hg]; exact (below_size (by repeat (first | (with_reducible first | exact HB.out | apply below_alloc | apply pw_below_drewN | apply below_drew1 | refine below_set ?_ GE154.out | refine below_set ?_ GE155.out) | exact HB.out))) : w.heap.size ≤ gb156)); have n5_ := Aside0.mk ((by rw [hg]; exact (below_size (by repeat (first | (with_reducible first | exact HB.out | apply below_alloc | apply pw_below_drewN | apply below_drew1 | refine below_set ?_ GE154.out | refine below_set ?_ GE155.out) | exact HB.out))) : w.heap.size ≤ gb156)); have n6_ := Aside0.mk ((by rw [hg]; exact Nat.ne_of_lt (blk_lt (g := gb154) (o := .cells #[.int .i64 a0_0, .int .i64 a0_1] 24 (0, 0)) (by (with_reducible repeat (first | refine blk_drewN ?_ _ | refine blk_drew ?_ | refine blk_alloc ?_ _)); exact BK154.out)) : gb154 ≠ gb156)); have n7_ := Aside0.mk ((by rw [hg]; exact Nat.ne_of_gt (blk_lt (g := gb154) (o := .cells #[.int .i64 a0_0, .int .i64 a0_1] 24 (0, 0)) (by (with_reducible repeat (first | refine blk_drewN ?_ _ | refine blk_drew ?_ | refine blk_alloc ?_ _)); exact BK154.out)) : gb156 ≠ gb154)); have n8_ := Aside0.mk ((by rw [hg]; exact Nat.ne_of_lt (blk_lt (g := gb155) (o := .cells #[.int .i64 a1_0, .int .i64 a1_1] 24 (0, 0)) (by (with_reducible repeat (first | refine blk_drewN ?_ _ | refine blk_drew ?_ | refine blk_alloc ?_ _)); exact BK155.out)) : gb155 ≠ gb156)); have n9_ := Aside0.mk ((by rw [hg]; exact Nat.ne_of_gt (blk_lt (g := gb155) (o := .cells #[.int .i64 a1_0, .int .i64 a1_1] 24 (0, 0)) (by (with_reducible repeat (first | refine blk_drewN ?_ _ | refine blk_drew ?_ | refine blk_alloc ?_ _)); exact BK155.out)) : gb156 ≠ gb155)); clear BK154; clear BK155; clear HB; have BK154 := n0_; have BK155 := n1_; have HB := n2_; have BK156 := n3_; have GW156 := n4_; have GE156 := n5_; have NB154_156 := n6_; have NB156_154 := n7_; have NB155_156 := n8_; have NB156_155 := n9_; clear n0_ n1_ n2_ n3_ n4_ n5_ n6_ n7_ n8_ n9_; clear hb hbox hg; have hnb13 := NB154_155.out; have hnc13 := NB155_154.out; have hnb14 := NB154_156.out; have hnc14 := NB156_154.out; have hcz15_0 : w12.cell? ⟨gb154, 0, none⟩ = some (.int .i64 a0_0) := (blk_cell BK154.out 0).trans rfl; have hcz15_1 : w12.cell? ⟨gb154, 1, none⟩ = some (.int .i64 a0_1) := (blk_cell BK154.out 1).trans rfl; have hfz15_0 := blk_frozen BK154.out 0; have hfz15_1 := blk_frozen BK154.out 1; have hnb16 := NB155_156.out; have hnc16 := NB156_155.out; have hcz17_0 : w12.cell? ⟨gb155, 0, none⟩ = some (.int .i64 a1_0) := (blk_cell BK155.out 0).trans rfl; have hcz17_1 : w12.cell? ⟨gb155, 1, none⟩ = some (.int .i64 a1_1) := (blk_cell BK155.out 1).trans rfl; have hfz17_0 := blk_frozen BK155.out 0; have hfz17_1 := blk_frozen BK155.out 1) | ((with_reducible refine gate_callee (f := 22) rfl ?_); refine goesL_ (some 8) rfl rfl Try.func22 (by kernel_rfl) rfl #[.agg #[.int .i64 a0_0, .int .i64 a0_1], .agg #[.int .i64 a1_0, .int .i64 a1_1]] rfl (by (try simp only [List.map_toArray, List.map_cons, List.map_nil]); first | done | rfl | (simp only [List.length_drop, List.length_take]; rfl)) ?_; (with_reducible refine (span_Touch.calls a0_0 a0_1 a1_0 a1_1 true _ A3.out).mono ?_); rintro e w18 ⟨rfl, hb⟩; refine ⟨_, rfl, ?_⟩; have n0_ := Aside0.mk (blk_below (g := gb154) (o := .cells #[.int .i64 a0_0, .int .i64 a0_1] 24 (0, 0)) (by (with_reducible repeat (first | refine blk_drewN ?_ _ | refine blk_drew ?_ | refine blk_alloc ?_ _)); exact BK154.out) hb); have n1_ := Aside0.mk (blk_below (g := gb155) (o := .cells #[.int .i64 a1_0, .int .i64 a1_1] 24 (0, 0)) (by (with_reducible repeat (first | refine blk_drewN ?_ _ | refine blk_drew ?_ | refine blk_alloc ?_ _)); exact BK155.out) hb); have n2_ := Aside0.mk (blk_below (g := gb156) (o := .cells #[.int .i64 0, .int .i64 0] 24 (0, 0)) (by (with_reducible repeat (first | refine blk_drewN ?_ _ | refine blk_drew ?_ | refine blk_alloc ?_ _)); exact BK156.out) hb); have n3_ := Aside0.mk (below_step (by repeat (first | (with_reducible first | exact HB.out | apply below_alloc | apply pw_below_drewN | apply below_drew1 | refine below_set ?_ GE154.out | refine below_set ?_ GE155.out | refine below_set ?_ GE156.out) | exact HB.out)) hb); clear BK154; clear BK155; clear BK156; clear HB; have BK154 := n0_; have BK155 := n1_; have BK156 := n2_; have HB := n3_; clear n0_ n1_ n2_ n3_; (try clear hb); (try clear hb2); (try clear hk); (try clear hi)))
    have n0_ := Aside0.mk (blk_drew BK154.out)
    have n1_ := Aside0.mk (blk_drew BK155.out)
    have n2_ := Aside0.mk (blk_drew BK156.out)
    have n3_ := Aside0.mk (below_drew1 HB.out)
    clear BK154
    clear BK155
    clear BK156
    clear HB
    have BK154 := n0_
    have BK155 := n1_
    have BK156 := n2_
    have HB := n3_
    clear n0_ n1_ n2_ n3_
    refine start_ (n := 15) (S := fun w' => w'.cell? ⟨gb154, 0, none⟩ = some (.int .i64 a0_0) ∧ w'.cell? ⟨gb154, 1, none⟩ = some (.int .i64 a0_1) ∧ w'.cell? ⟨gb155, 0, none⟩ = some (.int .i64 a1_0) ∧ w'.cell? ⟨gb155, 1, none⟩ = some (.int .i64 a1_1)) (ds := []) #[false, false, false, false, false, false, false, false, false, false, false, false, false, false, false] (by kernel_rfl) rfl rfl ⟨(blk_cell BK154.out 0).trans rfl, (blk_cell BK154.out 1).trans rfl, (blk_cell BK155.out 0).trans rfl, (blk_cell BK155.out 1).trans rfl⟩ (fun hHeld => ?_); refine with_tabW span_Join.tab3 span_Join.bits3 (fun HT_ HW_ => ?_)
    generalize w18.drew = w19 at BK154 BK155 BK156 HB hHeld ⊢
    refine pure_ (i := 0) (N := some 11) (v := ?_) (a' := ?_) #[true, false, false, false, false, false, false, false, false, false, false, false, false, false, false] rfl rfl (any_of HT_.out (by kernel_rfl)) (fun _ _ _ h => h) (Or.inl ⟨by rfl, ?_⟩) ?_ ?_
    rotate_left
    · intro w'
      go_simp
      with_reducible rfl
    rotate_left
    · simp only [Act.put, List.setIfInBounds_toArray, List.set_cons_zero, List.set_cons_succ, i64_w, i32_w]
      rfl
    refine pure_ (i := 2) (N := some 13) (v := ?_) (a' := ?_) #[true, false, true, false, false, false, false, false, false, false, false, false, false, false, false] rfl rfl (any_of HT_.out (by kernel_rfl)) (fun _ _ _ h => h) (Or.inl ⟨by rfl, ?_⟩) ?_ ?_
    rotate_left
    · intro w'
      go_simp
      with_reducible rfl
    rotate_left
    · simp only [Act.put, List.setIfInBounds_toArray, List.set_cons_zero, List.set_cons_succ, i64_w, i32_w]
      rfl
    refine take_ (i := 1) (N := some 12) (v := ?_) (a' := ?_) #[true, true, true, false, false, false, false, false, false, false, false, false, false, false, false] rfl rfl (take_ofW HT_.out HW_.out (by kernel_rfl)) (fun _ _ _ h => h) (Or.inl ⟨by rfl, ?_⟩) hHeld ?_ ?_
    rotate_left
    · rintro w' ⟨s0, s1, s2, s3⟩
      go_simp
      with_reducible rfl
    rotate_left
    · simp only [Act.put, List.setIfInBounds_toArray, List.set_cons_zero, List.set_cons_succ, i64_w, i32_w]
      rfl
    refine take_ (i := 3) (N := some 14) (v := ?_) (a' := ?_) #[true, true, true, true, false, false, false, false, false, false, false, false, false, false, false] rfl rfl (take_ofW HT_.out HW_.out (by kernel_rfl)) (fun _ _ _ h => h) (Or.inl ⟨by rfl, ?_⟩) hHeld ?_ ?_
    rotate_left
    · rintro w' ⟨s0, s1, s2, s3⟩
      go_simp
      with_reducible rfl
    rotate_left
    · simp only [Act.put, List.setIfInBounds_toArray, List.set_cons_zero, List.set_cons_succ, i64_w, i32_w]
      rfl
    refine pure_ (i := 4) (N := some 15) (v := ?_) (a' := ?_) #[true, true, true, true, true, false, false, false, false, false, false, false, false, false, false] rfl rfl (any_of HT_.out (by kernel_rfl)) (fun _ _ _ h => h) (Or.inl ⟨by rfl, ?_⟩) ?_ ?_
    rotate_left
    · intro w'
      go_simp
      with_reducible rfl
    rotate_left
    · simp only [Act.put, List.setIfInBounds_toArray, List.set_cons_zero, List.set_cons_succ, i64_w, i32_w]
      rfl
    refine take_ (i := 5) (N := some 16) (v := ?_) (a' := ?_) #[true, true, true, true, true, true, false, false, false, false, false, false, false, false, false] rfl rfl (take_ofW HT_.out HW_.out (by kernel_rfl)) (fun _ _ _ h => h) (Or.inl ⟨by rfl, ?_⟩) hHeld ?_ ?_
    rotate_left
    · rintro w' ⟨s0, s1, s2, s3⟩
      go_simp
      with_reducible rfl
    rotate_left
    · simp only [Act.put, List.setIfInBounds_toArray, List.set_cons_zero, List.set_cons_succ, i64_w, i32_w]
      rfl
    refine take_ (i := 7) (N := some 18) (v := ?_) (a' := ?_) #[true, true, true, true, true, true, false, true, false, false, false, false, false, false, false] rfl rfl (take_ofW HT_.out HW_.out (by kernel_rfl)) (fun _ _ _ h => h) (Or.inl ⟨by rfl, ?_⟩) hHeld ?_ ?_
    rotate_left
    · rintro w' ⟨s0, s1, s2, s3⟩
      go_simp
      with_reducible rfl
    rotate_left
    · simp only [Act.put, List.setIfInBounds_toArray, List.set_cons_zero, List.set_cons_succ, i64_w, i32_w]
      rfl
    refine one_ (i := 6) (N := some 17) #[true, true, true, true, true, true, true, true, false, false, false, false, false, false, false] rfl rfl (one_of HT_.out (by kernel_rfl)) (by decide) (fun K hK => ?_)
    refine goes_ Try.func24 (by kernel_rfl) rfl #[.agg #[.int .i64 a0_0, .int .i64 a0_1]] (by rfl) rfl rfl (by (try simp only [List.map_toArray, List.map_cons, List.map_nil]); first | done | rfl | (simp only [List.length_drop, List.length_take]; rfl)) ?_
    with_reducible refine (span_End.calls a0_0 a0_1 t158 _ A6.out).mono ?_
    rintro e w20 ⟨rfl, hb⟩
    refine ⟨_, rfl, ?_⟩
    have n0_ := Aside0.mk (blk_below (g := gb154) (o := .cells #[.int .i64 a0_0, .int .i64 a0_1] 24 (0, 0)) (by (with_reducible repeat (first | refine blk_drewN ?_ _ | refine blk_drew ?_ | refine blk_alloc ?_ _)); exact BK154.out) hb)
    have n1_ := Aside0.mk (blk_below (g := gb155) (o := .cells #[.int .i64 a1_0, .int .i64 a1_1] 24 (0, 0)) (by (with_reducible repeat (first | refine blk_drewN ?_ _ | refine blk_drew ?_ | refine blk_alloc ?_ _)); exact BK155.out) hb)
    have n2_ := Aside0.mk (blk_below (g := gb156) (o := .cells #[.int .i64 0, .int .i64 0] 24 (0, 0)) (by (with_reducible repeat (first | refine blk_drewN ?_ _ | refine blk_drew ?_ | refine blk_alloc ?_ _)); exact BK156.out) hb)
    have n3_ := Aside0.mk (below_step (by repeat (first | (with_reducible first | exact HB.out | apply below_alloc | apply pw_below_drewN | apply below_drew1 | refine below_set ?_ GE154.out | refine below_set ?_ GE155.out | refine below_set ?_ GE156.out) | exact HB.out)) hb)
    clear BK154
    clear BK155
    clear BK156
    clear HB
    have BK154 := n0_
    have BK155 := n1_
    have BK156 := n2_
    have HB := n3_
    clear n0_ n1_ n2_ n3_
    (try clear hb)
    (try clear hb2)
    (try clear hk)
    (try clear hi)
    refine hK.out _ _ ⟨(blk_cell BK154.out 0).trans rfl, (blk_cell BK154.out 1).trans rfl, (blk_cell BK155.out 0).trans rfl, (blk_cell BK155.out 1).trans rfl⟩ (fun hHeld => ?_)
    clear hK K
    refine norm_ (a' := ?_) ?_ ?_
    rotate_left
    · show Act.put _ (some 17) _ = _
      simp only [Act.put, List.setIfInBounds_toArray, List.set_cons_zero, List.set_cons_succ, i64_w, i32_w]
      rfl
    refine one_ (i := 8) (N := some 19) #[true, true, true, true, true, true, true, true, true, false, false, false, false, false, false] rfl rfl (one_of HT_.out (by kernel_rfl)) (by decide) (fun K hK => ?_)
    refine goes_ Try.func24 (by kernel_rfl) rfl #[.agg #[.int .i64 a1_0, .int .i64 a1_1]] (by rfl) rfl rfl (by (try simp only [List.map_toArray, List.map_cons, List.map_nil]); first | done | rfl | (simp only [List.length_drop, List.length_take]; rfl)) ?_
    with_reducible refine (span_End.calls a1_0 a1_1 t159 _ A7.out).mono ?_
    rintro e w21 ⟨rfl, hb⟩
    refine ⟨_, rfl, ?_⟩
    have n0_ := Aside0.mk (blk_below (g := gb154) (o := .cells #[.int .i64 a0_0, .int .i64 a0_1] 24 (0, 0)) (by (with_reducible repeat (first | refine blk_drewN ?_ _ | refine blk_drew ?_ | refine blk_alloc ?_ _)); exact BK154.out) hb)
    have n1_ := Aside0.mk (blk_below (g := gb155) (o := .cells #[.int .i64 a1_0, .int .i64 a1_1] 24 (0, 0)) (by (with_reducible repeat (first | refine blk_drewN ?_ _ | refine blk_drew ?_ | refine blk_alloc ?_ _)); exact BK155.out) hb)
    have n2_ := Aside0.mk (blk_below (g := gb156) (o := .cells #[.int .i64 0, .int .i64 0] 24 (0, 0)) (by (with_reducible repeat (first | refine blk_drewN ?_ _ | refine blk_drew ?_ | refine blk_alloc ?_ _)); exact BK156.out) hb)
    have n3_ := Aside0.mk (below_step (by repeat (first | (with_reducible first | exact HB.out | apply below_alloc | apply pw_below_drewN | apply below_drew1 | refine below_set ?_ GE154.out | refine below_set ?_ GE155.out | refine below_set ?_ GE156.out) | exact HB.out)) hb)
    clear BK154
    clear BK155
    clear BK156
    clear HB
    have BK154 := n0_
    have BK155 := n1_
    have BK156 := n2_
    have HB := n3_
    clear n0_ n1_ n2_ n3_
    (try clear hb)
    (try clear hb2)
    (try clear hk)
    (try clear hi)
    refine hK.out _ _ ⟨(blk_cell BK154.out 0).trans rfl, (blk_cell BK154.out 1).trans rfl, (blk_cell BK155.out 0).trans rfl, (blk_cell BK155.out 1).trans rfl⟩ (fun hHeld => ?_)
    clear hK K
    refine norm_ (a' := ?_) ?_ ?_
    rotate_left
    · show Act.put _ (some 19) _ = _
      simp only [Act.put, List.setIfInBounds_toArray, List.set_cons_zero, List.set_cons_succ, i64_w, i32_w]
      rfl
    refine pure_ (i := 9) (N := some 20) (v := ?_) (a' := ?_) #[true, true, true, true, true, true, true, true, true, true, false, false, false, false, false] rfl rfl (any_of HT_.out (by kernel_rfl)) (fun _ _ _ h => h) (Or.inl ⟨by rfl, ?_⟩) ?_ ?_
    rotate_left
    · intro w'
      go_simp
      with_reducible rfl
    rotate_left
    · simp only [Act.put, List.setIfInBounds_toArray, List.set_cons_zero, List.set_cons_succ, i64_w, i32_w]
      rfl
    refine one_ (i := 10) (N := some 21) #[true, true, true, true, true, true, true, true, true, true, true, false, false, false, false] rfl rfl (one_of HT_.out (by kernel_rfl)) (by decide) (fun K hK => ?_)
    refine goes_ Try.func43 (by kernel_rfl) rfl #[.int .i64 ji5, .int .i64 ji8] (by rfl) rfl rfl (by (try simp only [List.map_toArray, List.map_cons, List.map_nil]); first | done | (simp only [hji5, hji8]; rfl) | rfl | (simp only [List.length_drop, List.length_take]; rfl)) ?_
    with_reducible refine (span_of.calls ji5 ji8 t160 t161 t162 _ A9.out).mono ?_
    rintro e w22 ⟨rfl, hb⟩
    refine ⟨_, rfl, ?_⟩
    have n0_ := Aside0.mk (blk_below (g := gb154) (o := .cells #[.int .i64 a0_0, .int .i64 a0_1] 24 (0, 0)) (by (with_reducible repeat (first | refine blk_drewN ?_ _ | refine blk_drew ?_ | refine blk_alloc ?_ _)); exact BK154.out) hb)
    have n1_ := Aside0.mk (blk_below (g := gb155) (o := .cells #[.int .i64 a1_0, .int .i64 a1_1] 24 (0, 0)) (by (with_reducible repeat (first | refine blk_drewN ?_ _ | refine blk_drew ?_ | refine blk_alloc ?_ _)); exact BK155.out) hb)
    have n2_ := Aside0.mk (blk_below (g := gb156) (o := .cells #[.int .i64 0, .int .i64 0] 24 (0, 0)) (by (with_reducible repeat (first | refine blk_drewN ?_ _ | refine blk_drew ?_ | refine blk_alloc ?_ _)); exact BK156.out) hb)
    have n3_ := Aside0.mk (below_step (by repeat (first | (with_reducible first | exact HB.out | apply below_alloc | apply pw_below_drewN | apply below_drew1 | refine below_set ?_ GE154.out | refine below_set ?_ GE155.out | refine below_set ?_ GE156.out) | exact HB.out)) hb)
    clear BK154
    clear BK155
    clear BK156
    clear HB
    have BK154 := n0_
    have BK155 := n1_
    have BK156 := n2_
    have HB := n3_
    clear n0_ n1_ n2_ n3_
    (try clear hb)
    (try clear hb2)
    (try clear hk)
    (try clear hi)
    refine hK.out _ _ ⟨(blk_cell BK154.out 0).trans rfl, (blk_cell BK154.out 1).trans rfl, (blk_cell BK155.out 0).trans rfl, (blk_cell BK155.out 1).trans rfl⟩ (fun hHeld => ?_)
    clear hK K
    refine norm_ (a' := ?_) ?_ ?_
    rotate_left
    · show Act.put _ (some 21) _ = _
      simp only [Act.put, List.setIfInBounds_toArray, List.set_cons_zero, List.set_cons_succ, i64_w, i32_w]
      rfl
    refine pure_ (i := 11) (N := some 22) (v := ?_) (a' := ?_) #[true, true, true, true, true, true, true, true, true, true, true, true, false, false, false] rfl rfl (any_of HT_.out (by kernel_rfl)) (fun _ _ _ h => h) (Or.inl ⟨by rfl, ?_⟩) ?_ ?_
    rotate_left
    · intro w'
      go_simp
      with_reducible rfl
    rotate_left
    · simp only [Act.put, List.setIfInBounds_toArray, List.set_cons_zero, List.set_cons_succ, i64_w, i32_w]
      rfl
    refine pure_ (i := 12) (N := some 23) (v := ?_) (a' := ?_) #[true, true, true, true, true, true, true, true, true, true, true, true, true, false, false] rfl rfl (any_of HT_.out (by kernel_rfl)) (fun _ _ _ h => h) (Or.inl ⟨by rfl, ?_⟩) ?_ ?_
    rotate_left
    · intro w'
      go_simp
      with_reducible rfl
    rotate_left
    · simp only [Act.put, List.setIfInBounds_toArray, List.set_cons_zero, List.set_cons_succ, i64_w, i32_w]
      rfl
    refine one_ (i := 13) (N := none) #[true, true, true, true, true, true, true, true, true, true, true, true, true, true, false] rfl rfl (one_of HT_.out (by kernel_rfl)) (by decide) (fun K hK => ?_)
    have hs23 : w22.cell? ⟨gb156, 0, none⟩ = some (.int .i64 0) := (blk_cell BK156.out 0).trans rfl
    have hfs23 := blk_frozen BK156.out 0
    have hns23_0 := NB154_156.out
    have hns23_1 := NB155_156.out
    have hms23_0 := NB156_154.out
    have hms23_1 := NB156_155.out
    have hs24 : w22.cell? ⟨gb156, 1, none⟩ = some (.int .i64 0) := (blk_cell BK156.out 1).trans rfl
    have hfs24 := blk_frozen BK156.out 1
    have hns24_0 := NB154_156.out
    have hns24_1 := NB155_156.out
    have hms24_0 := NB156_154.out
    have hms24_1 := NB156_155.out
    refine skip_ (w1 := ?_) (by rfl) rfl ?_ ?_
    rotate_left
    · go_simp
      rfl
    refine hK.out _ _ ⟨((cell_far (p := ⟨gb156, _, none⟩) NB154_156.out _).trans (((cell_far (p := ⟨gb156, _, none⟩) NB154_156.out _).trans (hHeld.1)))), ((cell_far (p := ⟨gb156, _, none⟩) NB154_156.out _).trans (((cell_far (p := ⟨gb156, _, none⟩) NB154_156.out _).trans (hHeld.2.1)))), ((cell_far (p := ⟨gb156, _, none⟩) NB155_156.out _).trans (((cell_far (p := ⟨gb156, _, none⟩) NB155_156.out _).trans (hHeld.2.2.1)))), ((cell_far (p := ⟨gb156, _, none⟩) NB155_156.out _).trans (((cell_far (p := ⟨gb156, _, none⟩) NB155_156.out _).trans (hHeld.2.2.2))))⟩ (fun hHeld => ?_)
    clear hK K
    refine pure_ (i := 14) (N := some 5) (v := ?_) (a' := ?_) #[true, true, true, true, true, true, true, true, true, true, true, true, true, true, true] rfl rfl (any_of HT_.out (by kernel_rfl)) (fun _ _ _ h => h) (Or.inl ⟨by rfl, ?_⟩) ?_ ?_
    rotate_left
    · intro w'
      go_simp
      with_reducible rfl
    rotate_left
    · simp only [Act.put, List.setIfInBounds_toArray, List.set_cons_zero, List.set_cons_succ, i64_w, i32_w]
      rfl
    refine done_ (done_of HT_.out (by kernel_rfl)) ?_
    try go_wp2
    refine bodyPost_ret (results_ct rfl _ _ gb156 24 #[.int .i64 t160, .int .i64 t161] (0, 0) _ rfl (by (with_reducible repeat (first | refine blk_drewN ?_ _ | refine blk_drew ?_ | refine blk_alloc ?_ _)); refine blk_put (cs := #[.int .i64 t160, .int .i64 0]) ?_ 1 _ rfl; (with_reducible repeat (first | refine blk_drewN ?_ _ | refine blk_drew ?_ | refine blk_alloc ?_ _)); refine blk_put (cs := #[.int .i64 0, .int .i64 0]) ?_ 0 _ rfl; (with_reducible repeat (first | refine blk_drewN ?_ _ | refine blk_drew ?_ | refine blk_alloc ?_ _)); exact BK156.out) Try.underlying24 rfl (by kernel_rfl)) rfl ?_
    exact ⟨by first | rfl | (simp [errW_none, errW_some] <;> rfl) | (simp only [← hji5, ← hji8]; first | rfl | (simp [errW_none, errW_some] <;> rfl)) | (simp [*, errW_none, errW_some] <;> rfl), by repeat (first | (with_reducible first | exact HB.out | apply below_alloc | apply pw_below_drewN | apply below_drew1 | refine below_set ?_ GE154.out | refine below_set ?_ GE155.out | refine below_set ?_ GE156.out) | exact HB.out)⟩
  · replace c4 := Bool.eq_false_iff.mpr c4
    subst c4
    have H1 : (some (0, 0, false)) = some (r1, r2, r3) := by rw [if_neg (show ¬ (false = true) by decide)] at H; exact H
    clear H
    have H := H1
    clear H1
    simp only [Option.some.injEq, Prod.mk.injEq] at H
    obtain ⟨rfl, rfl, rfl⟩ := H
    go_enter Try.func21, Try.ntmps21
    go_wp2_with (first | ((with_reducible refine gate_dst (N := 2) rfl ?_); refine box_event ?hg (N := 2) ?hd (cs := #[.int .i64 a0_0, .int .i64 a0_1]) (t := 24) ?hr ?_; (case hd => rfl); (case hg => rfl); (case hr => first | (go_simp; done) | (go_simp; rfl)); intro gb154 hg w25 hbox hb; have n0_ := Aside0.mk (below_step (by repeat (first | (with_reducible first | exact HB.out | apply below_alloc | apply pw_below_drewN | apply below_drew1) | exact HB.out)) hb); have n1_ := Aside0.mk (hbox); have n2_ := Aside0.mk ((by rw [hg]; exact (below_size (by repeat (first | (with_reducible first | exact HB.out | apply below_alloc | apply pw_below_drewN | apply below_drew1) | exact HB.out))) : w.heap.size ≤ gb154)); have n3_ := Aside0.mk ((by rw [hg]; exact (below_size (by repeat (first | (with_reducible first | exact HB.out | apply below_alloc | apply pw_below_drewN | apply below_drew1) | exact HB.out))) : w.heap.size ≤ gb154)); clear HB; have HB := n0_; have BK154 := n1_; have GW154 := n2_; have GE154 := n3_; clear n0_ n1_ n2_ n3_; clear hb hbox hg) | ((with_reducible refine gate_dst (N := 3) rfl ?_); refine box_event ?hg (N := 3) ?hd (cs := #[.int .i64 a1_0, .int .i64 a1_1]) (t := 24) ?hr ?_; (case hd => rfl); (case hg => rfl); (case hr => first | (go_simp; done) | (go_simp; rfl)); intro gb155 hg w26 hbox hb; have n0_ := Aside0.mk (blk_below (g := gb154) (o := .cells #[.int .i64 a0_0, .int .i64 a0_1] 24 (0, 0)) (by (with_reducible repeat (first | refine blk_drewN ?_ _ | refine blk_drew ?_ | refine blk_alloc ?_ _)); exact BK154.out) hb); have n1_ := Aside0.mk (below_step (by repeat (first | (with_reducible first | exact HB.out | apply below_alloc | apply pw_below_drewN | apply below_drew1 | refine below_set ?_ GE154.out) | exact HB.out)) hb); have n2_ := Aside0.mk (hbox); have n3_ := Aside0.mk ((by rw [hg]; exact (below_size (by repeat (first | (with_reducible first | exact HB.out | apply below_alloc | apply pw_below_drewN | apply below_drew1 | refine below_set ?_ GE154.out) | exact HB.out))) : w.heap.size ≤ gb155)); have n4_ := Aside0.mk ((by rw [hg]; exact (below_size (by repeat (first | (with_reducible first | exact HB.out | apply below_alloc | apply pw_below_drewN | apply below_drew1 | refine below_set ?_ GE154.out) | exact HB.out))) : w.heap.size ≤ gb155)); have n5_ := Aside0.mk ((by rw [hg]; exact Nat.ne_of_lt (blk_lt (g := gb154) (o := .cells #[.int .i64 a0_0, .int .i64 a0_1] 24 (0, 0)) (by (with_reducible repeat (first | refine blk_drewN ?_ _ | refine blk_drew ?_ | refine blk_alloc ?_ _)); exact BK154.out)) : gb154 ≠ gb155)); have n6_ := Aside0.mk ((by rw [hg]; exact Nat.ne_of_gt (blk_lt (g := gb154) (o := .cells #[.int .i64 a0_0, .int .i64 a0_1] 24 (0, 0)) (by (with_reducible repeat (first | refine blk_drewN ?_ _ | refine blk_drew ?_ | refine blk_alloc ?_ _)); exact BK154.out)) : gb155 ≠ gb154)); clear BK154; clear HB; have BK154 := n0_; have HB := n1_; have BK155 := n2_; have GW155 := n3_; have GE155 := n4_; have NB154_155 := n5_; have NB155_154 := n6_; clear n0_ n1_ n2_ n3_ n4_ n5_ n6_; clear hb hbox hg) | ((with_reducible refine gate_dst (N := 4) rfl ?_); refine box_event ?hg (N := 4) ?hd (cs := #[.int .i64 0, .int .i64 0]) (t := 24) ?hr ?_; (case hd => rfl); (case hg => rfl); (case hr => first | (go_simp; done) | (go_simp; rfl)); intro gb156 hg w27 hbox hb; have n0_ := Aside0.mk (blk_below (g := gb154) (o := .cells #[.int .i64 a0_0, .int .i64 a0_1] 24 (0, 0)) (by (with_reducible repeat (first | refine blk_drewN ?_ _ | refine blk_drew ?_ | refine blk_alloc ?_ _)); exact BK154.out) hb); have n1_ := Aside0.mk (blk_below (g := gb155) (o := .cells #[.int .i64 a1_0, .int .i64 a1_1] 24 (0, 0)) (by (with_reducible repeat (first | refine blk_drewN ?_ _ | refine blk_drew ?_ | refine blk_alloc ?_ _)); exact BK155.out) hb); have n2_ := Aside0.mk (below_step (by repeat (first | (with_reducible first | exact HB.out | apply below_alloc | apply pw_below_drewN | apply below_drew1 | refine below_set ?_ GE154.out | refine below_set ?_ GE155.out) | exact HB.out)) hb); have n3_ := Aside0.mk (hbox); have n4_ := Aside0.mk ((by rw [hg]; exact (below_size (by repeat (first | (with_reducible first | exact HB.out | apply below_alloc | apply pw_below_drewN | apply below_drew1 | refine below_set ?_ GE154.out | refine below_set ?_ GE155.out) | exact HB.out))) : w.heap.size ≤ gb156)); have n5_ := Aside0.mk ((by rw [hg]; exact (below_size (by repeat (first | (with_reducible first | exact HB.out | apply below_alloc | apply pw_below_drewN | apply below_drew1 | refine below_set ?_ GE154.out | refine below_set ?_ GE155.out) | exact HB.out))) : w.heap.size ≤ gb156)); have n6_ := Aside0.mk ((by rw [hg]; exact Nat.ne_of_lt (blk_lt (g := gb154) (o := .cells #[.int .i64 a0_0, .int .i64 a0_1] 24 (0, 0)) (by (with_reducible repeat (first | refine blk_drewN ?_ _ | refine blk_drew ?_ | refine blk_alloc ?_ _)); exact BK154.out)) : gb154 ≠ gb156)); have n7_ := Aside0.mk ((by rw [hg]; exact Nat.ne_of_gt (blk_lt (g := gb154) (o := .cells #[.int .i64 a0_0, .int .i64 a0_1] 24 (0, 0)) (by (with_reducible repeat (first | refine blk_drewN ?_ _ | refine blk_drew ?_ | refine blk_alloc ?_ _)); exact BK154.out)) : gb156 ≠ gb154)); have n8_ := Aside0.mk ((by rw [hg]; exact Nat.ne_of_lt (blk_lt (g := gb155) (o := .cells #[.int .i64 a1_0, .int .i64 a1_1] 24 (0, 0)) (by (with_reducible repeat (first | refine blk_drewN ?_ _ | refine blk_drew ?_ | refine blk_alloc ?_ _)); exact BK155.out)) : gb155 ≠ gb156)); have n9_ := Aside0.mk ((by rw [hg]; exact Nat.ne_of_gt (blk_lt (g := gb155) (o := .cells #[.int .i64 a1_0, .int .i64 a1_1] 24 (0, 0)) (by (with_reducible repeat (first | refine blk_drewN ?_ _ | refine blk_drew ?_ | refine blk_alloc ?_ _)); exact BK155.out)) : gb156 ≠ gb155)); clear BK154; clear BK155; clear HB; have BK154 := n0_; have BK155 := n1_; have HB := n2_; have BK156 := n3_; have GW156 := n4_; have GE156 := n5_; have NB154_156 := n6_; have NB156_154 := n7_; have NB155_156 := n8_; have NB156_155 := n9_; clear n0_ n1_ n2_ n3_ n4_ n5_ n6_ n7_ n8_ n9_; clear hb hbox hg; have hnb28 := NB154_155.out; have hnc28 := NB155_154.out; have hnb29 := NB154_156.out; have hnc29 := NB156_154.out; have hcz30_0 : w27.cell? ⟨gb154, 0, none⟩ = some (.int .i64 a0_0) := (blk_cell BK154.out 0).trans rfl; have hcz30_1 : w27.cell? ⟨gb154, 1, none⟩ = some (.int .i64 a0_1) := (blk_cell BK154.out 1).trans rfl; have hfz30_0 := blk_frozen BK154.out 0; have hfz30_1 := blk_frozen BK154.out 1; have hnb31 := NB155_156.out; have hnc31 := NB156_155.out; have hcz32_0 : w27.cell? ⟨gb155, 0, none⟩ = some (.int .i64 a1_0) := (blk_cell BK155.out 0).trans rfl; have hcz32_1 : w27.cell? ⟨gb155, 1, none⟩ = some (.int .i64 a1_1) := (blk_cell BK155.out 1).trans rfl; have hfz32_0 := blk_frozen BK155.out 0; have hfz32_1 := blk_frozen BK155.out 1) | ((with_reducible refine gate_callee (f := 22) rfl ?_); refine goesL_ (some 8) rfl rfl Try.func22 (by kernel_rfl) rfl #[.agg #[.int .i64 a0_0, .int .i64 a0_1], .agg #[.int .i64 a1_0, .int .i64 a1_1]] rfl (by (try simp only [List.map_toArray, List.map_cons, List.map_nil]); first | done | rfl | (simp only [List.length_drop, List.length_take]; rfl)) ?_; (with_reducible refine (span_Touch.calls a0_0 a0_1 a1_0 a1_1 false _ A3.out).mono ?_); rintro e w33 ⟨rfl, hb⟩; refine ⟨_, rfl, ?_⟩; have n0_ := Aside0.mk (blk_below (g := gb154) (o := .cells #[.int .i64 a0_0, .int .i64 a0_1] 24 (0, 0)) (by (with_reducible repeat (first | refine blk_drewN ?_ _ | refine blk_drew ?_ | refine blk_alloc ?_ _)); exact BK154.out) hb); have n1_ := Aside0.mk (blk_below (g := gb155) (o := .cells #[.int .i64 a1_0, .int .i64 a1_1] 24 (0, 0)) (by (with_reducible repeat (first | refine blk_drewN ?_ _ | refine blk_drew ?_ | refine blk_alloc ?_ _)); exact BK155.out) hb); have n2_ := Aside0.mk (blk_below (g := gb156) (o := .cells #[.int .i64 0, .int .i64 0] 24 (0, 0)) (by (with_reducible repeat (first | refine blk_drewN ?_ _ | refine blk_drew ?_ | refine blk_alloc ?_ _)); exact BK156.out) hb); have n3_ := Aside0.mk (below_step (by repeat (first | (with_reducible first | exact HB.out | apply below_alloc | apply pw_below_drewN | apply below_drew1 | refine below_set ?_ GE154.out | refine below_set ?_ GE155.out | refine below_set ?_ GE156.out) | exact HB.out)) hb); clear BK154; clear BK155; clear BK156; clear HB; have BK154 := n0_; have BK155 := n1_; have BK156 := n2_; have HB := n3_; clear n0_ n1_ n2_ n3_; (try clear hb); (try clear hb2); (try clear hk); (try clear hi); have hcz34_0 : w33.cell? ⟨gb156, 0, none⟩ = some (.int .i64 0) := (blk_cell BK156.out 0).trans rfl; have hcz34_1 : w33.cell? ⟨gb156, 1, none⟩ = some (.int .i64 0) := (blk_cell BK156.out 1).trans rfl; have hfz34_0 := blk_frozen BK156.out 0; have hfz34_1 := blk_frozen BK156.out 1))
    refine bodyPost_ret (results_ct rfl _ _ gb156 24 #[.int .i64 0, .int .i64 0] (0, 0) _ rfl (by (with_reducible repeat (first | refine blk_drewN ?_ _ | refine blk_drew ?_ | refine blk_alloc ?_ _)); refine blk_put (cs := #[.int .i64 0, .int .i64 0]) ?_ 1 _ rfl; (with_reducible repeat (first | refine blk_drewN ?_ _ | refine blk_drew ?_ | refine blk_alloc ?_ _)); refine blk_put (cs := #[.int .i64 0, .int .i64 0]) ?_ 0 _ rfl; (with_reducible repeat (first | refine blk_drewN ?_ _ | refine blk_drew ?_ | refine blk_alloc ?_ _)); exact BK156.out) Try.underlying24 rfl (by kernel_rfl)) rfl ?_
    exact ⟨by first | rfl | (simp [errW_none, errW_some] <;> rfl) | (simp [*, errW_none, errW_some] <;> rfl), by repeat (first | (with_reducible first | exact HB.out | apply below_alloc | apply pw_below_drewN | apply below_drew1 | refine below_set ?_ GE154.out | refine below_set ?_ GE155.out | refine below_set ?_ GE156.out) | exact HB.out)⟩
end Go.Proofs.Ytjbimnicnehnaaa.A
end
section
namespace Go.Proofs.Ytjbimnicnehnaaa.Hand
open Go.RowKit Go.Proofs.YtjbimnicnehnaaaW.PrintWords Go.Proofs.YtjbimnicnehnaaaW.PrintLast Go.Proofs.YtjbimnicnehnaaaW.PrintMore Go.Proofs.Ytjbimnicnehnaaa.A
set_option linter.unusedVariables false
set_option linter.unusedSimpArgs false
attribute [local go_sem] max2_int min2_int max_two min_two max_three min_three max_four min_four
theorem touch_eq (a m b n : Int) : span_Touch.f a m b n = some (decide (touches a m b n)) := by
  unfold span_Touch.f
  rw [whole_eq, Option.bind_some]
  by_cases h : wh a m
  · rw [if_pos (decide_eq_true h), whole_eq, Option.bind_some]
    by_cases h2 : wh b n
    · rw [if_pos (decide_eq_true h2), end_eq, end_eq, Option.bind_some, Option.bind_some, mx_eq, mn_eq]
      unfold endV
      rw [if_pos h, if_pos h2]
      congr 1
      rw [decide_eq_decide]
      exact ⟨fun x => ⟨h, h2, x⟩, fun x => x.2.2⟩
    · rw [if_neg (by rw [decide_eq_true_eq]; exact h2), decide_eq_false (fun x => h2 x.2.1)]
  · rw [if_neg (by rw [decide_eq_true_eq]; exact h), decide_eq_false (fun x => h x.1)]
theorem join_eq (a m b n : Int) : span_Join.f a m b n = some (joinV a m b n) := by
  unfold span_Join.f joinV
  rw [touch_eq, Option.bind_some]
  by_cases h : touches a m b n
  · have h' := h
    unfold touches wh at h'
    rw [if_pos (decide_eq_true h), end_eq, end_eq, Option.bind_some, Option.bind_some, mx_eq, mn_eq]
    unfold endV
    rw [if_pos h.1, if_pos h.2.1, of_yes (by omega) (by omega) (by omega), if_pos h]; rfl
  · rw [if_neg (by rw [decide_eq_true_eq]; exact h), if_neg h]
end Go.Proofs.Ytjbimnicnehnaaa.Hand
end
section
namespace Go.Proofs.Ytjbimnicnehnaaa.Hand
open Go.RowKit Go.Proofs.YtjbimnicnehnaaaW.PrintWords Go.Proofs.YtjbimnicnehnaaaW.PrintLast Go.Proofs.YtjbimnicnehnaaaW.PrintMore Go.Proofs.Ytjbimnicnehnaaa.A
set_option linter.unusedVariables false
set_option linter.unusedSimpArgs false
attribute [local go_sem] max2_int min2_int max_two min_two max_three min_three max_four min_four
/-- A set of blocks that is there: its spans. -/
def RunsAt (w : World) (base g : Nat) (l : List S24) : Prop := ∃ v, Blk w g 86 #[v] ∧ ORow w base v l
section
variable {w w1 : World} {base g : Nat} {l : List S24}
theorem RunsAt.lt (h : RunsAt w base g l) : g < w.heap.size := by obtain ⟨v, hb, _⟩ := h; exact hb.lt
theorem RunsAt.keep (h : RunsAt w base g l) (hB : Below w.heap.size w w1) : RunsAt w1 base g l := by
  obtain ⟨v, hb, ho⟩ := h
  exact ⟨v, hb.keep hB, ho.below hB⟩
theorem RunsAt.only {g' t : Nat} {cs : Array Value} (h : RunsAt w base g l) (ho : Only w w1 g') (hne : g ≠ g') (hb : Blk w g' t cs) (ht : 24 ≠ t) : RunsAt w1 base g l := by
  obtain ⟨v, hk, hr⟩ := h
  exact ⟨v, hk.only ho hne, hr.only ho (hr.ne hb ht)⟩
end
end Go.Proofs.Ytjbimnicnehnaaa.Hand
end
section
namespace Go.Proofs.Ytjbimnicnehnaaa.A
open Go.RowKit Go.Proofs.YtjbimnicnehnaaaW.PrintWords Go.Proofs.YtjbimnicnehnaaaW.PrintLast Go.Proofs.YtjbimnicnehnaaaW.PrintMore
attribute [local go_sem] max2_int min2_int max_two min_two max_three min_three max_four min_four   -- for this text's walks alone
set_option linter.unusedVariables false
set_option linter.unusedSimpArgs false
attribute [local go_sem high] eqA24
def api_Span_74.l0 : Nat → List (S24) → List (S24) → Int → Int → Option (Bool)
  | 0, _, _, _, _ => none
  | k + 1, x0, x1, x12, x13 => if x13 < x12 then (if 0 ≤ x13 then (if x13 < (x0.length : Int) then (if x13 < (x1.length : Int) then (if (!(((rd_T24 x0 x13).f0) == ((rd_T24 x1 x13).f0)) || (!(((rd_T24 x0 x13).f1) == ((rd_T24 x1 x13).f1)))) = true then (some false) else (api_Span_74.l0 k x0 x1 x12 (wrap64 (x13 + 1)))) else (none)) else (none)) else (none)) else (some true)
def api_Span_74.f (k : Nat) (l0 : List (S24)) (l1 : List (S24)) : Option (Bool) := if (l0.length : Int) = (l1.length : Int) then (api_Span_74.l0 k l0 l1 (l0.length : Int) 0) else (some false)
theorem api_Span_74.mono_l : ∀ k, (∀ y0 y1 y2 y3, LeO (api_Span_74.l0 k y0 y1 y2 y3) (api_Span_74.l0 (k + 1) y0 y1 y2 y3))
  | 0 => fun _ _ _ _ r h => by simp [api_Span_74.l0] at h
  | k + 1 => by
    have ih0 := api_Span_74.mono_l k
    · intro y0 y1 y2 y3
      unfold api_Span_74.l0
      repeat' first
      | (with_reducible exact ih0 _ _ _ _)
      | (with_reducible exact LeO.refl _)
      | (with_reducible exact LeO.none _)
      | (with_reducible refine LeO.ite ?_ ?_)
      | (with_reducible refine LeO.bind ?_ (fun _ => ?_))
      | exact ih0 _ _ _ _
      | exact LeO.none _
      | refine LeO.ite ?_ ?_
      | refine LeO.bind ?_ (fun _ => ?_)
theorem api_Span_74.mono : ∀ a0 a1 k, LeO (api_Span_74.f k a0 a1) (api_Span_74.f (k + 1) a0 a1) := by
  intro a0 a1 k
  have ih0 := api_Span_74.mono_l k
  unfold api_Span_74.f
  repeat' first
      | (with_reducible exact ih0 _ _ _ _)
      | (with_reducible exact LeO.refl _)
      | (with_reducible exact LeO.none _)
      | (with_reducible refine LeO.ite ?_ ?_)
      | (with_reducible refine LeO.bind ?_ (fun _ => ?_))
      | exact ih0 _ _ _ _
      | exact LeO.none _
      | refine LeO.ite ?_ ?_
      | refine LeO.bind ?_ (fun _ => ?_)
end Go.Proofs.Ytjbimnicnehnaaa.A
end
section
namespace Go.Proofs.Ytjbimnicnehnaaa.Hand
open Go.RowKit Go.Proofs.YtjbimnicnehnaaaW.PrintWords
theorem calls_abs {P : Program} {f : FuncId} {args : Array Value} {w : World} {Q : Ending → World → Prop} (F : World → Prop) (h : F w) (k : ∀ W, F W → Calls P f args W Q) : Calls P f args w Q := k w h
theorem code_abs {P : Program} {c : Code} {Q : Exit → Act → World → Prop} {a : Act} {w : World} (F : World → Prop) (h : F w) (k : ∀ W, F W → Code.wp P c Q a W) : Code.wp P c Q a w := k w h
theorem row_yields {P : Program} {o : Oper} {a : Act} {w : World} (ty : TypeId) (x : Operand) (ho : o.op = .load ty x)
    (g : Nat) (hx : a.eval x = .pointer (some ⟨g, 0, none⟩)) (t : TypeId) (cs : Array Value) (fr : Nat × Nat) (d : TypeDesc) (hg : w.heap[g]? = some (.cells cs t fr))
    (hu : P.underlying ty = some d) (hd : (match d with | .struct _ | .array _ _ => true | _ => false) = true) (hi : (P.info? ty).map (·.size) = some cs.size) :
    (execOp a.eval o).run P w = .ok (.value (.agg cs)) w := by
  unfold execOp
  simp only [ho, hx, Instr.loadAt, Instr.sureAddr, Sem.run_bind, Sem.run_pure, Result.andThen_ok, run_loadVar_row w g t ty cs fr d hg hu hd hi]
theorem Blk.row {w : World} {g t : Nat} {cs : Array Value} (h : Blk w g t cs) (cs' : Array Value) : Blk (w.setRow g cs') g t cs' := setRow_heap _ _ _ _ _ _ h.hd
theorem Blk.rowFar {w : World} {g g' t : Nat} {cs : Array Value} (h : Blk w g t cs) (hne : g ≠ g') (cs' : Array Value) : Blk (w.setRow g' cs') g t cs := (setRow_other _ _ _ _ hne).trans h
theorem Blk.new2 (w : World) (o : Obj) (t : TypeId) (cs : Array Value) : Blk ((w.alloc o).alloc (.cells cs t)) (w.heap.size + 1) t cs := heap_alloc2_new w o _
end Go.Proofs.Ytjbimnicnehnaaa.Hand
end
section
namespace Go.Proofs.Ytjbimnicnehnaaa.Hand
open Go.RowKit Go.Proofs.YtjbimnicnehnaaaW.PrintWords Go.Proofs.YtjbimnicnehnaaaW.PrintLast Go.Proofs.YtjbimnicnehnaaaW.PrintMore Go.Proofs.Ytjbimnicnehnaaa.A
set_option linter.unusedVariables false
set_option linter.unusedSimpArgs false
attribute [local go_sem] max2_int min2_int max_two min_two max_three min_three max_four min_four
abbrev SPN := S24
theorem tidy_snoc : ∀ {T : List SPN} {lo : Int} {x : SPN}, Tidy lo T → lo ≤ x.f0 → 1 ≤ x.f1 → x.f0 + x.f1 ≤ 64 → (∀ j, mem T j → j + 1 < x.f0) → Tidy lo (T ++ [x])
  | [], _, x, _, h1, h2, h3, _ => ⟨h1, h2, h3, trivial⟩
  | y :: l, lo, x, ⟨g1, g2, g3, g4⟩, h1, h2, h3, h => ⟨g1, g2, g3, tidy_snoc g4 (by have := h (y.f0 + y.f1 - 1) ((mem_cons y l _).2 (.inl ⟨by omega, by omega⟩)); omega) h2 h3 (fun j hj => h j ((mem_cons y l j).2 (.inr hj)))⟩
theorem tidy_split : ∀ {T : List SPN} {lo : Int} {x : SPN}, Tidy lo (T ++ [x]) → Tidy lo T ∧ lo ≤ x.f0 ∧ 1 ≤ x.f1 ∧ x.f0 + x.f1 ≤ 64 ∧ ∀ j, mem T j → j + 1 < x.f0
  | [], _, x, ⟨h1, h2, h3, _⟩ => ⟨trivial, h1, h2, h3, fun j hj => absurd hj (mem_nil j)⟩
  | y :: l, lo, x, ⟨g1, g2, g3, g4⟩ => by
    obtain ⟨a, b, c, d, e⟩ := tidy_split g4
    refine ⟨⟨g1, g2, g3, a⟩, by omega, c, d, fun j hj => ?_⟩
    rcases (mem_cons y l j).1 hj with hj | hj
    · unfold inSp at hj; omega
    · exact e j hj
/-- What is told of the blocks below one. -/
def SpT (s : List Bool) (k : Nat) (T : List SPN) : Prop := Tidy 0 T ∧ (∀ j, mem T j ↔ 0 ≤ j ∧ j < k ∧ s.getD j.toNat false = true) ∧ T.length ≤ k
theorem SpT.zero (s : List Bool) : SpT s 0 [] := ⟨trivial, fun j => ⟨fun h => absurd h (mem_nil j), fun h => by omega⟩, Nat.le_refl _⟩
theorem SpT.no {s : List Bool} {k : Nat} {T : List SPN} (h : SpT s k T) (hk : s.getD k false = false) : SpT s (k + 1) T := by
  refine ⟨h.1, fun j => (h.2.1 j).trans ⟨fun ⟨a, b, c⟩ => ⟨a, by omega, c⟩, fun ⟨a, b, c⟩ => ⟨a, ?_, c⟩⟩, by have := h.2.2; omega⟩
  rcases Int.lt_or_le j k with hj | hj
  · exact hj
  · have : j.toNat = k := by omega
    rw [this, hk] at c
    cases c
theorem SpT.new {s : List Bool} {k : Nat} {T : List SPN} (h : SpT s k T) (h64 : k < 64) (hk : s.getD k false = true) (hp : k = 0 ∨ s.getD (k - 1) false = false) : SpT s (k + 1) (T ++ [⟨(k : Int), 1⟩]) := by
  refine ⟨tidy_snoc h.1 (by simp only; omega) (by simp only; omega) (by simp only; omega) (fun j hj => ?_), fun j => ?_, by have := h.2.2; rw [List.length_append, List.length_singleton]; omega⟩
  · obtain ⟨a, b, c⟩ := (h.2.1 j).1 hj
    rcases hp with hp | hp
    · omega
    · simp only
      rcases Int.lt_or_le (j + 1) k with hh | hh
      · exact hh
      · have : j.toNat = k - 1 := by omega
        rw [this, hp] at c; cases c
  · rw [mem_append, h.2.1]
    have hone : mem [(⟨(k : Int), 1⟩ : SPN)] j ↔ j = k := by
      unfold mem inSp
      simp only [List.mem_singleton, exists_eq_left]
      omega
    rw [hone]
    constructor
    · rintro (⟨a, b, c⟩ | rfl)
      · exact ⟨a, by omega, c⟩
      · exact ⟨by omega, by omega, by rw [Int.toNat_natCast]; exact hk⟩
    · rintro ⟨a, b, c⟩
      by_cases hj : j = k
      · exact .inr hj
      · exact .inl ⟨a, by omega, c⟩
theorem SpT.more {s : List Bool} {k : Nat} {T : List SPN} (h : SpT s k T) (h64 : k < 64) (hk : s.getD k false = true) (h0 : 0 < k) (hp : s.getD (k - 1) false = true) : ∃ T' x, T = T' ++ [x] ∧ x.f0 + x.f1 = (k : Int) ∧ 0 ≤ x.f0 ∧ 1 ≤ x.f1 ∧ SpT s (k + 1) (T' ++ [⟨x.f0, x.f1 + 1⟩]) := by
  have hm : mem T ((k - 1 : Nat) : Int) := (h.2.1 _).2 ⟨by omega, by omega, by rw [Int.toNat_natCast]; exact hp⟩
  rcases List.eq_nil_or_concat T with rfl | ⟨T', x, rfl⟩
  · exact absurd hm (mem_nil _)
  · rw [List.concat_eq_append] at h hm ⊢
    obtain ⟨t1, t2, t3, t4, t5⟩ := tidy_split h.1
    have hone : ∀ (y : SPN) (j : Int), mem [y] j ↔ y.f0 ≤ j ∧ j < y.f0 + y.f1 := fun y j => by
      unfold mem inSp
      simp only [List.mem_singleton, exists_eq_left]
    have hl := ((h.2.1 (x.f0 + x.f1 - 1)).1 ((mem_append _ _ _).2 (.inr ((hone x _).2 ⟨by omega, by omega⟩)))).2.1
    have he : x.f0 + x.f1 = (k : Int) := by
      rcases (mem_append _ _ _).1 hm with hm | hm
      · have := t5 _ hm; omega
      · have := (hone x _).1 hm; omega
    refine ⟨T', x, rfl, he, t2, t3, tidy_snoc t1 t2 (by simp only; omega) (by simp only; omega) t5, fun j => ?_, by have := h.2.2; simp only [List.length_append, List.length_singleton] at this ⊢; omega⟩
    have hj := h.2.1 j
    rw [mem_append, hone] at hj ⊢
    simp only
    constructor
    · rintro (a | a)
      · obtain ⟨b, c, d⟩ := hj.1 (.inl a); exact ⟨b, by omega, d⟩
      · by_cases hjk : j = k
        · subst hjk
          exact ⟨by omega, by omega, by rw [Int.toNat_natCast]; exact hk⟩
        · obtain ⟨b, c, d⟩ := hj.1 (.inr ⟨a.1, by omega⟩); exact ⟨b, by omega, d⟩
    · rintro ⟨a, b, c⟩
      by_cases hjk : j = k
      · exact .inr ⟨by omega, by omega⟩
      · rcases hj.2 ⟨a, by omega, c⟩ with d | d
        · exact .inl d
        · exact .inr ⟨d.1, by omega⟩
theorem SpT.all {s : List Bool} {T : List SPN} (h : SpT s 64 T) : T = spansOf s :=
  tidy_eq h.1 (fun k hk => (h.2.1 k).trans ⟨fun ⟨_, _, c⟩ => by rwa [Int.toNat_natCast] at c, fun c => ⟨by omega, by omega, by rw [Int.toNat_natCast]; exact c⟩⟩)
/-- The last span's length is written. -/
theorem ORow.last {w : World} {base g c : Nat} {T' : List SPN} {x : SPN} (h : ORow w base (.slice (some ⟨g, 0, none⟩) (T'.length + 1) c) (T' ++ [x])) (q : Int) : ORow (w.setCell ⟨g, T'.length * 2 + 1, none⟩ (.int .i64 q)) base (.slice (some ⟨g, 0, none⟩) (T'.length + 1) c) (T' ++ [⟨x.f0, q⟩]) := by
  have hr := h.to_R
  obtain ⟨gg, cc, he, _, _, _, hcell, _⟩ := h.opened (by simp)
  injection he with q1 q2 q3
  injection q1 with q1; injection q1 with q1
  subst q1
  obtain ⟨x0, x1⟩ := hcell T'.length x (by rw [List.getElem?_append_right (Nat.le_refl _), Nat.sub_self]; rfl)
  have hs := (Kd.R_seg (j := 1) (seg := [.int .i64 q]) (x' := (⟨x.f0, q⟩ : SPN)) (c := [.int .i64 x.f0, .int .i64 x.f1]) (okp := fun _ => False) hr ((T'.length : Nat) : Int) (by omega) (by omega) rfl (fun j u hu => by
    rw [Int.toNat_natCast]
    match j, hu with
    | 0, hu => injection hu with hu; subst hu; exact x0
    | 1, hu => injection hu with hu; subst hu; exact x1
    | j + 2, hu => simp at hu) (Nat.le_refl 2) (k24_mkM _ _ _ _) (fun _ h => h.elim)).1
  rw [Int.toNat_natCast, List.set_append_right _ _ (Nat.le_refl _), Nat.sub_self] at hs
  exact ORow.of_R hs
set_option maxRecDepth 100000 in
set_option maxHeartbeats 1600000 in
theorem set_spans (s : List Bool) (hs : s.length = 64) (w : World) :
    Calls Try.prog 27 #[.agg (setArr s)] w fun e w' => ∃ v, e = .returned v ∧ ORow w' w.heap.size v (spansOf s) ∧ Below w.heap.size w w' := by
  have Hs := Aside0.mk hs
  clear hs
  go_enter Try.func27, Try.ntmps27
  go_wp2_with fail
  go_loopg [3, 4] 64 (fun kq v3 v4 wq => ∃ k : Nat, k + kq = 64 ∧ v4 = .int .i64 (k : Int) ∧ Aside0 (Below w.heap.size w wq) ∧ Aside0 (Blk wq w.heap.size 30 (setArr s)) ∧ Aside0 (∃ T, SpT s k T ∧ ORow wq w.heap.size v3 T))
  case atStart => exact ⟨0, by omega, rfl, ⟨below_alloc (Below.refl _ _) _⟩, ⟨Blk.new w _ _⟩, ⟨[], SpT.zero s, ORow.nil _ _⟩⟩
  case round =>
    obtain ⟨k, hk, rfl, HB, HX, HT⟩ := hrel
    obtain ⟨T, hT, ho⟩ := HT.out
    obtain ⟨A, c, rfl, hlc, _, _⟩ := ho.reads
    have HO := Aside0.mk ho
    have HP := Aside0.mk hT
    clear ho hT HT
    by_cases hlt : k < 64
    · have hlt' : (k : Int) < 64 := by omega
      obtain ⟨kk, rfl⟩ : ∃ z, gk = z + 1 := ⟨gk - 1, by omega⟩
      have x0 := HX.out.cell (setArr_get s k (by rw [Hs.out]; exact hlt))
      cases hb : s.getD k false with
      | false =>
        rw [hb] at x0
        have HP1 := Aside0.mk (HP.out.no hb)
        clear hb
        go_wp2_with fail
        go_roundg kk
        case measure => omega
        case rel => exact ⟨k + 1, by omega, by go_num, HB, HX, ⟨T, HP1.out, HO.out⟩⟩
      | true =>
        rw [hb] at x0
        have Hk := Aside0.mk hb
        clear hb
        have hnew : ∀ (hp : k = 0 ∨ s.getD (k - 1) false = false), Aside0 (SpT s (k + 1) (T ++ [⟨(k : Int), 1⟩])) := fun hp => ⟨HP.out.new hlt Hk.out hp⟩
        have hTl : T.length ≤ 64 := by have := HP.out.2.2; omega
        rcases Nat.eq_zero_or_pos k with h0 | h0
        · have HN := hnew (.inl h0)
          clear hnew
          subst h0
          go_wp2_with (first | ((with_reducible refine gate_builtin (b := .append) (xs := #[.tmp 31, .tmp 34]) rfl ?_); at_builtin; refine print_append_cells (w0 := wr) w.heap.size rfl (.tmp 31) (.tmp 34) 31 24 (.agg #[.int .i64 0, .int .i64 0]) 2 16 rfl Try.underlying31 info24' rfl (by decide) (by decide) (.slice A T.length c) T.length (flat T) [.int .i64 0, .int .i64 1] rfl rfl rfl (one_two _ _) HO.out (Below.refl _ _) (below_size HB.out) (by omega) ?_; intro v7 w7 ho7 hb7 hg7 hat7; have HO7 := Aside0.mk (ORow.snoc ho7); have HB7 := Aside0.mk (HB.out.trans hb7); have HX7 := Aside0.mk (HX.out.grown hg7 (HO.out.ne HX.out (by decide))); clear ho7 hb7 hg7 hat7))
          go_roundg kk
          case measure => omega
          case rel => exact ⟨_, by omega, by go_num, HB7, HX7, ⟨_, HN.out, HO7.out⟩⟩
        · obtain ⟨k', rfl⟩ : ∃ z, k = z + 1 := ⟨k - 1, by omega⟩
          have y0 := HX.out.cell (setArr_get s k' (by rw [Hs.out]; omega))
          have hpos : (0 : Int) < (k' : Int) + 1 := by omega
          cases hb : s.getD k' false with
          | false =>
            rw [hb] at y0
            have HN := hnew (.inr hb)
            clear hnew hb
            go_wp2_with (first | ((with_reducible refine gate_builtin (b := .append) (xs := #[.tmp 31, .tmp 34]) rfl ?_); at_builtin; refine print_append_cells (w0 := wr) w.heap.size rfl (.tmp 31) (.tmp 34) 31 24 (.agg #[.int .i64 0, .int .i64 0]) 2 16 rfl Try.underlying31 info24' rfl (by decide) (by decide) (.slice A T.length c) T.length (flat T) [.int .i64 ((k' : Int) + 1), .int .i64 1] rfl rfl rfl (one_two _ _) HO.out (Below.refl _ _) (below_size HB.out) (by omega) ?_; intro v7 w7 ho7 hb7 hg7 hat7; have HO7 := Aside0.mk (ORow.snoc ho7); have HB7 := Aside0.mk (HB.out.trans hb7); have HX7 := Aside0.mk (HX.out.grown hg7 (HO.out.ne HX.out (by decide))); clear ho7 hb7 hg7 hat7))
            go_roundg kk
            case measure => omega
            case rel => exact ⟨_, by omega, by go_num, HB7, HX7, ⟨_, HN.out, HO7.out⟩⟩
          | true =>
            rw [hb] at y0
            obtain ⟨T', x, hTe, he, hx0, hx1, hM⟩ := HP.out.more hlt Hk.out (by omega) hb
            clear hnew hb
            subst hTe
            have HM := Aside0.mk hM
            have HO1 := Aside0.mk HO.out
            rw [List.length_append, List.length_singleton] at HO1 hlc
            clear hM HP HO
            obtain ⟨gv, cv, hve, _, _, _, hcell, hfr⟩ := HO1.out.opened (by simp)
            injection hve with q1 q2 q3
            subst q1
            clear q3
            obtain ⟨z0, z1⟩ := hcell T'.length x (by rw [List.getElem?_append_right (Nat.le_refl _), Nat.sub_self]; rfl)
            have zf := hfr (T'.length * 2 + 1)
            clear hcell hfr
            have hlen : (T' ++ [x]).length = T'.length + 1 := by simp
            rw [hlen]
            clear hlen
            have hml : (T'.length : Int) ≤ 64 := by rw [List.length_append, List.length_singleton] at hTl; omega
            obtain ⟨N, hN⟩ : ∃ N, N = T'.length + 1 := ⟨_, rfl⟩
            rw [← hN] at HO1 hlc ⊢
            have hN1 : (N : Int) - 1 = (T'.length : Int) := by omega
            have hN2 : (T'.length : Int) < (N : Int) := by omega
            have hN3 : (N : Int) ≤ 65 := by omega
            have HNe := Aside0.mk hN
            clear hN
            generalize hm : T'.length = m at *
            have Hm := Aside0.mk hm
            have hw1 : wrap64 (x.f1 + 1) = x.f1 + 1 := w_id (by omega) (by omega)
            have HO7 : Aside0 (ORow (wr.setCell ⟨gv, m * 2 + 1, none⟩ (.int .i64 (x.f1 + 1))) w.heap.size (.slice (some ⟨gv, 0, none⟩) N c) (T' ++ [⟨x.f0, x.f1 + 1⟩])) := ⟨by
              have h := HO1.out
              rw [HNe.out, ← Hm.out] at h ⊢
              exact h.last _⟩
            have hgb : w.heap.size ≤ gv := own_base HO1.out gv rfl
            have HB7 : Aside0 (Below w.heap.size w (wr.setCell ⟨gv, m * 2 + 1, none⟩ (.int .i64 (x.f1 + 1)))) := ⟨HB.out.setCell hgb _⟩
            have HX7 : Aside0 (Blk (wr.setCell ⟨gv, m * 2 + 1, none⟩ (.int .i64 (x.f1 + 1))) w.heap.size 30 (setArr s)) := ⟨HX.out.far (fun e => HO1.out.ne HX.out (by decide) (by rw [e]; rfl)) _⟩
            clear hm q2 he hx0 hx1 hgb
            go_wp2_with fail
            go_roundg kk
            case measure => omega
            case rel => exact ⟨_, by omega, by go_num, HB7, HX7, ⟨_, HM.out, HO7.out⟩⟩
    · obtain rfl : k = 64 := by omega
      have hl := HP.out.all
      subst hl
      go_wp2_with fail
      go_ret
      exact ⟨_, rfl, HO.out, HB.out⟩
end Go.Proofs.Ytjbimnicnehnaaa.Hand
end
section
namespace Go.Proofs.Ytjbimnicnehnaaa.Hand
open Go.RowKit Go.Proofs.YtjbimnicnehnaaaW.PrintWords Go.Proofs.YtjbimnicnehnaaaW.PrintLast Go.Proofs.YtjbimnicnehnaaaW.PrintMore
set_option linter.unusedVariables false
set_option linter.unusedSimpArgs false
section
variable {α : Type} {d : Kd α} {e eL : Nat} {w w1 : World} {base b : Nat} {vs us : List Value} {L : List (List α)} {v u V U : Value} {l : List α}
/-- The rows of some lists, by their values. -/
def Vals (d : Kd α) (e : Nat) (w : World) (base : Nat) (vs : List Value) (L : List (List α)) : Prop :=
  vs.length = L.length ∧ ∀ (i : Nat) v l, vs[i]? = some v → L[i]? = some l → d.R e w base (fun _ => True) v l
theorem R_moved (hE : d.E = []) (h : d.R e w base (fun _ => True) v l) (hm : ∀ k, v.ownBlock = some k → w1.heap[k]? = w.heap[k]?) : d.R e w1 base (fun _ => True) v l :=
  Kd.R_mono (Kd.R_move (Kd.R_tight hE h) (fun k hk => hm k hk.symm)) (fun _ _ => trivial)
theorem Vals.nil (d : Kd α) (e : Nat) (w : World) (base : Nat) : Vals d e w base [] [] := ⟨rfl, fun i v l h => by simp at h⟩
theorem Vals.get (h : Vals d e w base vs L) {i : Nat} (hi : i < L.length) : ∃ v, vs[i]? = some v ∧ v ∈ vs ∧ d.R e w base (fun _ => True) v L[i] := by
  have hv : i < vs.length := by rw [h.1]; exact hi
  exact ⟨vs[i], List.getElem?_eq_getElem hv, List.getElem_mem hv, h.2 i _ _ (List.getElem?_eq_getElem hv) (List.getElem?_eq_getElem hi)⟩
theorem Vals.mem (h : Vals d e w base vs L) (hv : v ∈ vs) : ∃ l, d.R e w base (fun _ => True) v l := by
  obtain ⟨i, hi, rfl⟩ := List.mem_iff_getElem.1 hv
  exact ⟨_, h.2 i _ _ (List.getElem?_eq_getElem hi) (List.getElem?_eq_getElem (by rw [← h.1]; exact hi))⟩
theorem Vals.lt (h : Vals d e w base vs L) (hv : v ∈ vs) {k : Nat} (hk : v.ownBlock = some k) : base ≤ k ∧ k < w.heap.size := by
  obtain ⟨l, hl⟩ := h.mem hv
  exact ⟨Kd.R_base hl k hk, Kd.R_lt hl k hk⟩
theorem Vals.typed (h : Vals d e w base vs L) (hv : v ∈ vs) {k : Nat} (hk : v.ownBlock = some k) : ∃ cells, w.heap[k]? = some (.cells cells e (0, 0)) := by
  obtain ⟨l, hl⟩ := h.mem hv
  exact Kd.R_typed hl k hk
theorem Vals.move (hE : d.E = []) (h : Vals d e w base vs L) (hm : ∀ v, v ∈ vs → ∀ k, v.ownBlock = some k → w1.heap[k]? = w.heap[k]?) : Vals d e w1 base vs L :=
  ⟨h.1, fun i v l hv hl => R_moved hE (h.2 i v l hv hl) (hm v (List.mem_of_getElem? hv))⟩
theorem Vals.below (h : Vals d e w base vs L) (hb : Below w.heap.size w w1) : Vals d e w1 base vs L := ⟨h.1, fun i v l hv hl => Kd.R_below (h.2 i v l hv hl) hb⟩
theorem Vals.snoc (h : Vals d e w base vs L) (hv : d.R e w base (fun _ => True) v l) : Vals d e w base (vs ++ [v]) (L ++ [l]) := by
  refine ⟨by rw [List.length_append, List.length_append, h.1]; rfl, fun i x y hx hy => ?_⟩
  by_cases hi : i < L.length
  · rw [List.getElem?_append_left (by rw [h.1]; exact hi)] at hx
    rw [List.getElem?_append_left hi] at hy
    exact h.2 i x y hx hy
  · rw [List.getElem?_append_right (by rw [h.1]; omega)] at hx
    rw [List.getElem?_append_right (by omega)] at hy
    rw [h.1] at hx
    have h0 : i - L.length = 0 := by
      rcases Nat.eq_zero_or_pos (i - L.length) with h0 | h0
      · exact h0
      · rw [List.getElem?_eq_none (by simp; omega)] at hx; cases hx
    rw [h0] at hx hy
    injection hx with hx; injection hy with hy
    subst hx; subst hy
    exact hv
/-- One of them is written. -/
theorem Vals.set (hE : d.E = []) (h : Vals d e w base vs L) (hp : vs.Pairwise NeRow) {i : Nat} (hi : i < L.length) {l' : List α} (hv : vs[i]? = some v) (hr : d.R e w1 base (fun _ => True) v l') (hg : w.grownBy w1 v.ownBlock) : Vals d e w1 base vs (L.set i l') := by
  refine ⟨by rw [List.length_set]; exact h.1, fun j x y hx hy => ?_⟩
  by_cases hj : j = i
  · subst hj
    rw [hv] at hx
    injection hx with hx
    rw [List.getElem?_set_self hi] at hy
    injection hy with hy
    subst hx; subst hy
    exact hr
  · rw [List.getElem?_set_ne (fun q => hj q.symm)] at hy
    have hold := h.2 j x y hx hy
    refine R_moved hE hold (fun k hk => hg.block k (Kd.R_lt hold k hk) (fun q => ?_))
    have hne : NeRow v x ∨ NeRow x v := by
      rw [List.pairwise_iff_getElem] at hp
      obtain ⟨hj', rfl⟩ := List.getElem?_eq_some_iff.1 hx
      obtain ⟨hi', rfl⟩ := List.getElem?_eq_some_iff.1 hv
      rcases Nat.lt_or_ge i j with h1 | h1
      · exact .inl (hp i j hi' hj' h1)
      · exact .inr (hp j i hj' hi' (by omega))
    rcases hne with hne | hne
    · exact hne k q.symm hk
    · exact hne k hk q.symm
/-- A row of lists that is read. -/
theorem lists_C {n c : Nat} {A : Option Addr} (hV : w.ownsRow base eL 1 (.slice A n c) L.length vs) (hr : ∀ (i : Nat) v l, vs[i]? = some v → L[i]? = some l → ∃ A c, v = .slice A l.length c ∧ l.length ≤ c ∧ d.C w A l.length l) :
    n = L.length ∧ L.length ≤ c ∧ Kd.C (Kd.slice e d) w A L.length L := by
  have hvl : vs.length = L.length := by have := hV.1; omega
  rcases hV.2 with ⟨he, h0⟩ | ⟨g, cap, cur, he, hb, hh, hn, hm, hs, ht⟩
  · injection he with h1 h2 h3
    subst h1; subst h2; subst h3
    have : L = [] := List.eq_nil_of_length_eq_zero h0
    subst this
    exact ⟨rfl, Nat.le_refl _, rfl, by simp, fun h => by simp at h⟩
  · injection he with h1 h2 h3
    subst h1; subst h2; subst h3
    refine ⟨rfl, hn, rfl, by unfold maxLen at hm; omega, fun _ => ⟨_, rfl, fun j p hj => ?_⟩⟩
    have hjl : j < L.length := (List.getElem?_eq_some_iff.1 hj).1
    obtain ⟨A', c', hv, hle, hC⟩ := hr j _ p (List.getElem?_eq_getElem (by omega)) hj
    refine ⟨[.slice A' p.length c'], rfl, ⟨A', c', rfl, hle, hC⟩, fun i u hu => ?_⟩
    match i, hu with
    | 0, hu =>
      injection hu with hu
      subst hu
      have hc := hV.cells (g := g) rfl j vs[j] (List.getElem?_eq_getElem (by omega))
      rw [← hv]
      simpa [show (Kd.slice e d).sz = 1 from rfl] using hc
    | i + 1, hu => simp at hu
theorem Vals.reads (h : Vals d e w base vs L) : ∀ (i : Nat) v l, vs[i]? = some v → L[i]? = some l → ∃ A c, v = .slice A l.length c ∧ l.length ≤ c ∧ d.C w A l.length l := fun i v l hv hl => Kd.R_reads (h.2 i v l hv hl)
/-- Lists, and copies of them; no two rows are one. -/
structure Pile (d : Kd α) (e eL : Nat) (w : World) (base : Nat) (V U : Value) (vs us : List Value) (L : List (List α)) : Prop where
  hV : w.ownsRow base eL 1 V L.length vs
  hU : w.ownsRow base eL 1 U L.length us
  hVU : NeRow V U
  rv : Vals d e w base vs L
  ru : Vals d e w base us L
  ne : (vs ++ us).Pairwise NeRow
theorem Pile.nil (d : Kd α) (e eL : Nat) (w : World) (base : Nat) : Pile d e eL w base (.slice none 0 0) (.slice none 0 0) [] [] [] :=
  ⟨World.ownsRow_nil w base _ 1, World.ownsRow_nil w base _ 1, ne_nil _, Vals.nil _ _ _ _, Vals.nil _ _ _ _, List.Pairwise.nil⟩
theorem Pile.below (h : Pile d e eL w base V U vs us L) (hb : Below w.heap.size w w1) : Pile d e eL w1 base V U vs us L :=
  ⟨own_move h.hV (fun k hk => hb.block k (own_lt h.hV k hk)), own_move h.hU (fun k hk => hb.block k (own_lt h.hU k hk)), h.hVU, h.rv.below hb, h.ru.below hb, h.ne⟩
/-- Blocks of these two types are as they were. -/
theorem Pile.keepT (hE : d.E = []) (h : Pile d e eL w base V U vs us L) (hm : ∀ k cs t, w.heap[k]? = some (.cells cs t (0, 0)) → t = e ∨ t = eL → base ≤ k → w1.heap[k]? = w.heap[k]?) : Pile d e eL w1 base V U vs us L := by
  refine ⟨own_move h.hV (fun k hk => ?_), own_move h.hU (fun k hk => ?_), h.hVU, h.rv.move hE (fun v hv k hk => ?_), h.ru.move hE (fun v hv k hk => ?_), h.ne⟩
  · obtain ⟨cs, hc⟩ := own_typed h.hV k hk
    exact hm k cs eL hc (.inr rfl) (own_base h.hV k hk)
  · obtain ⟨cs, hc⟩ := own_typed h.hU k hk
    exact hm k cs eL hc (.inr rfl) (own_base h.hU k hk)
  · obtain ⟨cs, hc⟩ := h.rv.typed hv hk
    exact hm k cs e hc (.inl rfl) (h.rv.lt hv hk).1
  · obtain ⟨cs, hc⟩ := h.ru.typed hv hk
    exact hm k cs e hc (.inl rfl) (h.ru.lt hv hk).1
/-- One more, and a copy. -/
theorem Pile.snoc {V1 U1 : Value} (hV : w.ownsRow base eL 1 V1 (L.length + 1) (vs ++ [v])) (hU : w.ownsRow base eL 1 U1 (L.length + 1) (us ++ [u])) (hVU : NeRow V1 U1) (rv : Vals d e w base vs L) (ru : Vals d e w base us L)
    (ne : (vs ++ us).Pairwise NeRow) (hv : d.R e w base (fun _ => True) v l) (hu : d.R e w base (fun _ => True) u l) (nv : ∀ x ∈ vs ++ us, NeRow x v) (nu : ∀ x ∈ vs ++ us, NeRow x u) (nvu : NeRow v u) :
    Pile d e eL w base V1 U1 (vs ++ [v]) (us ++ [u]) (L ++ [l]) := by
  refine ⟨by rw [List.length_append]; exact hV, by rw [List.length_append]; exact hU, hVU, rv.snoc hv, ru.snoc hu, ?_⟩
  rw [List.pairwise_append] at ne ⊢
  obtain ⟨n1, n2, n3⟩ := ne
  refine ⟨?_, ?_, ?_⟩
  · rw [List.pairwise_append]
    refine ⟨n1, List.pairwise_singleton _ _, fun a ha b hb => ?_⟩
    rw [List.mem_singleton.1 hb]
    exact nv a (List.mem_append_left _ ha)
  · rw [List.pairwise_append]
    refine ⟨n2, List.pairwise_singleton _ _, fun a ha b hb => ?_⟩
    rw [List.mem_singleton.1 hb]
    exact nu a (List.mem_append_right _ ha)
  · intro a ha b hb
    rcases List.mem_append.1 ha with ha | ha
    · rcases List.mem_append.1 hb with hb | hb
      · exact n3 a ha b hb
      · rw [List.mem_singleton.1 hb]; exact nu a (List.mem_append_left _ ha)
    · rw [List.mem_singleton.1 ha]
      rcases List.mem_append.1 hb with hb | hb
      · exact ne_symm (nv b (List.mem_append_right _ hb))
      · rw [List.mem_singleton.1 hb]; exact nvu
theorem R_grownT {n : Nat} {xs : List Value} (hE : d.E = []) (h : d.R e w base (fun _ => True) v l) (hV : w.ownsRow b eL 1 V n xs) (hne : eL ≠ e) (hg : w.grownBy w1 V.ownBlock) : d.R e w1 base (fun _ => True) v l :=
  R_moved hE h (fun k hk => by
    obtain ⟨cs, hc⟩ := Kd.R_typed h k hk
    exact hg.block k (Kd.R_lt h k hk) (own_ne hV hc hne))
theorem own_grown {m : Nat} {ys : List Value} (hU : w.ownsRow base eL 1 U m ys) (hne : NeRow V U) (hg : w.grownBy w1 V.ownBlock) : w1.ownsRow base eL 1 U m ys :=
  own_move hU (fun k hk => hg.block k (own_lt hU k hk) (fun q => hne k q.symm hk))
/-- What a book's method leaves: only the book itself and blocks of one type have turned. -/
def BookFx (LT g base : Nat) (w w1 : World) : Prop := Below base w w1 ∧ ∀ k, k < w.heap.size → k ≠ g → (∀ cs, w.heap[k]? ≠ some (.cells cs LT (0, 0))) → w1.heap[k]? = w.heap[k]?
theorem BookFx.blk {LT g t : Nat} {cs : Array Value} {k : Nat} (h : BookFx LT g base w w1) (hb : Blk w k t cs) (ht : t ≠ LT) (hk : k ≠ g) : Blk w1 k t cs :=
  (h.2 k hb.lt hk (fun cs' hc => by rw [hb.hd] at hc; injection hc with hc; injection hc with _ hc; exact ht hc)).trans hb
theorem Blk.grownB {g t : Nat} {cs : Array Value} {row : Option Nat} (h : Blk w g t cs) (hg : w.grownBy w1 row) (hne : row ≠ some g) : Blk w1 g t cs := (hg.block g h.lt (fun q => hne q.symm)).trans h
/-- A row of lists, opened: its cells. -/
theorem row_cells {n : Nat} {xs : List Value} (h : w.ownsRow base eL 1 V n xs) (hn : 0 < n) : ∃ g c, V = .slice (some ⟨g, 0, none⟩) n c ∧ n ≤ c ∧ base ≤ g ∧ g < w.heap.size ∧ ∀ i u, xs[i]? = some u → w.cell? ⟨g, i, none⟩ = some u := by
  have hx := h.1
  rcases h.2 with ⟨_, h0⟩ | ⟨g, cap, cur, rfl, hb, hh, hnc, hm, hs, ht⟩
  · omega
  · refine ⟨g, cap, rfl, hnc, hb, (Array.getElem?_eq_some_iff.1 hh).1, fun i u hu => ?_⟩
    have hi : i < xs.length := (List.getElem?_eq_some_iff.1 hu).1
    exact (World.ownsRow.cellAt h i (by omega)).trans hu
theorem row_slice {n : Nat} {xs : List Value} (h : w.ownsRow base eL 1 V n xs) : ∃ A c, V = .slice A n c := by
  rcases h.2 with ⟨rfl, rfl⟩ | ⟨g, cap, cur, rfl, _⟩
  · exact ⟨_, _, rfl⟩
  · exact ⟨_, _, rfl⟩
theorem far_heap {w : World} {g j k : Nat} {u : Value} (h : k ≠ g) : (w.setCell ⟨g, j, none⟩ u).heap[k]? = w.heap[k]? := Below.heap_setCell w ⟨g, j, none⟩ u k h
/-- The row of the copies stands while the other one grows, and the book is written. -/
theorem add_mid {g tB j : Nat} {c0 : Array Value} {V1 : Value} {w3 : World} (hB : tB ≠ eL) (hP : Pile d e eL w base V U vs us L) (HB1 : Blk w1 g tB c0) (hG1 : w.grownBy w1 V.ownBlock) (hB3 : Below (w1.setCell ⟨g, j, none⟩ V1).heap.size (w1.setCell ⟨g, j, none⟩ V1) w3) : w3.ownsRow base eL 1 U L.length us := by
  have h1 := own_grown hP.hU hP.hVU hG1
  have h2 : (w1.setCell ⟨g, j, none⟩ V1).ownsRow base eL 1 U L.length us := own_move h1 (fun k hk => far_heap (fun q => own_ne h1 HB1.hd (fun q => hB q.symm) (by rw [hk, q])))
  exact own_move h2 (fun k hk => hB3.block k (own_lt h2 k hk))
/-- The list itself, when the book's row has grown. -/
theorem add_R {g tB j : Nat} {c0 : Array Value} {V1 : Value} (hE : d.E = []) (hne : eL ≠ e) (hB2 : tB ≠ e) {n : Nat} {xs : List Value} (hV : w.ownsRow base eL 1 V n xs) (hv : d.R e w base (fun _ => True) v l) (HB1 : Blk w1 g tB c0) (hG1 : w.grownBy w1 V.ownBlock) : d.R e (w1.setCell ⟨g, j, none⟩ V1) base (fun _ => True) v l := by
  have h1 := R_grownT hE hv hV hne hG1
  refine R_moved hE h1 (fun k hk => far_heap (fun q => ?_))
  obtain ⟨cs, hc⟩ := Kd.R_typed h1 k hk
  rw [q, HB1.hd] at hc
  injection hc with hc; injection hc with _ hc
  exact hB2 hc
theorem C_of_R {B : Nat} {ok : Nat → Prop} {A : Option Addr} {n c : Nat} (h : d.R e w B ok (.slice A n c) l) : d.C w A l.length l ∧ n = l.length := by
  obtain ⟨A', c', q, _, hC⟩ := Kd.R_reads h
  injection q with q1 q2 q3
  subst q1
  exact ⟨hC, q2⟩
theorem add_done {g tB j1 j2 : Nat} {c0 c5 : Array Value} {V1 U1 : Value} {w3 w5 : World} (hE : d.E = []) (hne : eL ≠ e) (hB1 : tB ≠ eL) (hB2 : tB ≠ e) (hP : Pile d e eL w base V U vs us L) (hv : d.R e w base (fun _ => True) v l) (hnv : ∀ x ∈ vs ++ us, NeRow x v) (hbase : base ≤ w.heap.size) (hgb : base ≤ g) (hgl : g < w.heap.size)
    (HB1 : Blk w1 g tB c0) (hV1 : w1.ownsRow base eL 1 V1 (L.length + 1) (vs ++ [v])) (hW1 : Below base w w1) (hG1 : w.grownBy w1 V.ownBlock) (hA1 : V1.ownBlock = V.ownBlock ∨ ∃ b, V1.ownBlock = some b ∧ w.heap.size ≤ b)
    (hB3 : Below (w1.setCell ⟨g, j1, none⟩ V1).heap.size (w1.setCell ⟨g, j1, none⟩ V1) w3) (hu : d.R e w3 (w1.setCell ⟨g, j1, none⟩ V1).heap.size (fun _ => True) u l)
    (HB5 : Blk w5 g tB c5) (hU5 : w5.ownsRow base eL 1 U1 (L.length + 1) (us ++ [u])) (hW5 : Below base w3 w5) (hG5 : w3.grownBy w5 U.ownBlock) (hA5 : U1.ownBlock = U.ownBlock ∨ ∃ b, U1.ownBlock = some b ∧ w3.heap.size ≤ b) :
    Pile d e eL (w5.setCell ⟨g, j2, none⟩ U1) base V1 U1 (vs ++ [v]) (us ++ [u]) (L ++ [l]) ∧ (∀ k, u.ownBlock = some k → w.heap.size ≤ k) ∧ BookFx eL g base w (w5.setCell ⟨g, j2, none⟩ U1) := by
  have hs2 : (w1.setCell ⟨g, j1, none⟩ V1).heap.size = w1.heap.size := by simp [World.setCell]
  have z1 : w.heap.size ≤ w1.heap.size := hG1.size
  have z3 : w1.heap.size ≤ w3.heap.size := by rw [← hs2]; exact hB3.size
  have z5 : w3.heap.size ≤ w5.heap.size := hG5.size
  -- from the first world to the third: blocks but V's and the book's
  have m13 : ∀ k, k < w.heap.size → some k ≠ V.ownBlock → k ≠ g → w3.heap[k]? = w.heap[k]? := fun k hk h1 h2 =>
    ((hB3.block k (by rw [hs2]; omega)).trans (far_heap h2)).trans (hG1.block k hk h1)
  have m36 : ∀ k, k < w3.heap.size → some k ≠ U.ownBlock → k ≠ g → (w5.setCell ⟨g, j2, none⟩ U1).heap[k]? = w3.heap[k]? := fun k hk h1 h2 => (far_heap h2).trans (hG5.block k hk h1)
  have hU3 := add_mid (j := j1) hB1 hP HB1 hG1 hB3
  have hUlt : ∀ k, U.ownBlock = some k → k < w.heap.size := own_lt hP.hU
  have hVlt : ∀ k, V.ownBlock = some k → k < w.heap.size := own_lt hP.hV
  have hub : ∀ k, u.ownBlock = some k → w1.heap.size ≤ k := fun k hk => by have := Kd.R_base hu k hk; rw [hs2] at this; exact this
  -- a row of elements of the first world
  have old : ∀ x xs, d.R e w base (fun _ => True) x xs → d.R e (w5.setCell ⟨g, j2, none⟩ U1) base (fun _ => True) x xs := fun x xs hx => R_moved hE hx (fun k hk => by
    obtain ⟨cs, hc⟩ := Kd.R_typed hx k hk
    have hlt := Kd.R_lt hx k hk
    have n1 : some k ≠ V.ownBlock := own_ne hP.hV hc hne
    have n2 : some k ≠ U.ownBlock := own_ne hP.hU hc hne
    have n3 : k ≠ g := by
      rintro rfl
      have h3 : w1.heap[k]? = some (.cells cs e (0, 0)) := (hG1.block k hlt n1).trans hc
      have h4 := HB1.hd
      rw [h3] at h4
      injection h4 with h4; injection h4 with _ h4
      exact hB2 h4.symm
    exact (m36 k (by omega) n2 n3).trans (m13 k hlt n1 n3))
  have hgu : ∀ k, u.ownBlock = some k → k ≠ g := fun k hk q => by have := hub k hk; omega
  have hu6 : d.R e (w5.setCell ⟨g, j2, none⟩ U1) base (fun _ => True) u l := by
    have h1 : d.R e w3 base (fun _ => True) u l := Kd.R_lower hu (by rw [hs2]; omega)
    exact R_moved hE h1 (fun k hk => m36 k (Kd.R_lt h1 k hk) (fun q => by have := hUlt k q.symm; have := hub k hk; omega) (hgu k hk))
  -- the row of the lists
  have hV2 : (w1.setCell ⟨g, j1, none⟩ V1).ownsRow base eL 1 V1 (L.length + 1) (vs ++ [v]) := own_move hV1 (fun k hk => far_heap (fun q => own_ne hV1 HB1.hd (fun q => hB1 q.symm) (by rw [hk, q])))
  have hV3 : w3.ownsRow base eL 1 V1 (L.length + 1) (vs ++ [v]) := own_move hV2 (fun k hk => hB3.block k (own_lt hV2 k hk))
  have hVU1 : NeRow V1 U := fun k hk hk' => by
    rcases hA1 with h | ⟨b, h, hle⟩
    · exact hP.hVU k (h ▸ hk) hk'
    · have := hUlt k hk'
      rw [h] at hk; injection hk with hk; omega
  have hV5 : w5.ownsRow base eL 1 V1 (L.length + 1) (vs ++ [v]) := own_grown hV3 (ne_symm hVU1) hG5
  have hVU2 : NeRow V1 U1 := fun k hk hk' => by
    rcases hA5 with h | ⟨b, h, hle⟩
    · exact hVU1 k hk (h ▸ hk')
    · have := own_lt hV3 k hk
      rw [h] at hk'; injection hk' with hk'; omega
  have hV6 : (w5.setCell ⟨g, j2, none⟩ U1).ownsRow base eL 1 V1 (L.length + 1) (vs ++ [v]) := own_move hV5 (fun k hk => far_heap (fun q => own_ne hV5 HB5.hd (fun q => hB1 q.symm) (by rw [hk, q])))
  have hU6 : (w5.setCell ⟨g, j2, none⟩ U1).ownsRow base eL 1 U1 (L.length + 1) (us ++ [u]) := own_move hU5 (fun k hk => far_heap (fun q => own_ne hU5 HB5.hd (fun q => hB1 q.symm) (by rw [hk, q])))
  have young : ∀ x, (∀ k, x.ownBlock = some k → k < w.heap.size) → NeRow x u := fun x hx k hk hk' => by have := hx k hk; have := hub k hk'; omega
  have hlt : ∀ x ∈ vs ++ us, ∀ k, x.ownBlock = some k → k < w.heap.size := fun x hx k hk => by
    rcases List.mem_append.1 hx with hx | hx
    · exact (hP.rv.lt hx hk).2
    · exact (hP.ru.lt hx hk).2
  refine ⟨Pile.snoc hV6 hU6 hVU2 ⟨hP.rv.1, fun i x y hx hy => old x y (hP.rv.2 i x y hx hy)⟩ ⟨hP.ru.1, fun i x y hx hy => old x y (hP.ru.2 i x y hx hy)⟩ hP.ne (old v l hv) hu6 hnv (fun x hx => young x (hlt x hx)) (young v (fun k hk => Kd.R_lt hv k hk)), fun k hk => by have := hub k hk; omega, ⟨?_, ?_, ?_, ?_, ?_⟩, fun k hk hkg hc => ?_⟩
  · exact hW5.os.trans (hB3.os.trans hW1.os)
  · exact hW5.tape.trans (hB3.tape.trans hW1.tape)
  · exact hW5.output.trans (hB3.output.trans hW1.output)
  · simp [World.setCell]; omega
  · intro k hk
    rw [far_heap (by omega), hW5.block k hk, hB3.block k (by rw [hs2]; omega), far_heap (by omega), hW1.block k hk]
  · refine (m36 k (by omega) (fun q => ?_) hkg).trans (m13 k hk (fun q => ?_) hkg)
    · obtain ⟨cs, hcs⟩ := own_typed hP.hU k q.symm
      exact hc cs hcs
    · obtain ⟨cs, hcs⟩ := own_typed hP.hV k q.symm
      exact hc cs hcs
end
end Go.Proofs.Ytjbimnicnehnaaa.Hand
end
section
namespace Go.Proofs.Ytjbimnicnehnaaa.Hand
open Go.RowKit Go.Proofs.YtjbimnicnehnaaaW.PrintWords Go.Proofs.YtjbimnicnehnaaaW.PrintLast Go.Proofs.YtjbimnicnehnaaaW.PrintMore
set_option linter.unusedVariables false
set_option linter.unusedSimpArgs false
section
variable {α : Type} {d : Kd α} {e eL T B : Nat} {w w1 w2 : World} {base b : Nat} {vs us os : List Value} {L : List (List α)} {v u V U O : Value} {l : List α} {F F' G : Nat → List α → List α}
/-- Only blocks of one type have turned. -/
def FxT (T base : Nat) (w w1 : World) : Prop := Below base w w1 ∧ ∀ k, k < w.heap.size → (∀ cs, w.heap[k]? ≠ some (.cells cs T (0, 0))) → w1.heap[k]? = w.heap[k]?
theorem FxT.refl (T base : Nat) (w : World) : FxT T base w w := ⟨Below.refl _ _, fun _ _ _ => rfl⟩
theorem FxT.trans (h : FxT T base w w1) (k : FxT T base w1 w2) : FxT T base w w2 :=
  ⟨h.1.trans k.1, fun i hi hc => (k.2 i (Nat.lt_of_lt_of_le hi h.1.size) (fun cs => by rw [h.2 i hi hc]; exact hc cs)).trans (h.2 i hi hc)⟩
theorem FxT.of_below (hb : Below w.heap.size w w1) (hbase : base ≤ w.heap.size) : FxT T base w w1 := ⟨⟨hb.os, hb.tape, hb.output, hb.size, fun k hk => hb.block k (by omega)⟩, fun k hk _ => hb.block k hk⟩
theorem FxT.below (h : FxT T base w w1) (hb : Below w1.heap.size w1 w2) (hbase : base ≤ w.heap.size) : FxT T base w w2 := h.trans (FxT.of_below hb (Nat.le_trans hbase h.1.size))
theorem FxT.drew (h : FxT T base w w1) : FxT T base w w1.drew := ⟨below_drew h.1, h.2⟩
theorem FxT.base_le (h : FxT T base w w1) (hb : base ≤ w.heap.size) : base ≤ w1.heap.size := Nat.le_trans hb h.1.size
theorem FxT.blk {t k : Nat} {cs : Array Value} (h : FxT T base w w1) (hb : Blk w k t cs) (ht : t ≠ T) : Blk w1 k t cs :=
  (h.2 k hb.lt (fun cs' hc => by rw [hb.hd] at hc; injection hc with hc; injection hc with _ hc; exact ht hc)).trans hb
theorem FxT.own {n m : Nat} {xs : List Value} (h : FxT T base w w1) (hV : w.ownsRow b eL m V n xs) (hne : eL ≠ T) : w1.ownsRow b eL m V n xs :=
  own_move hV (fun k hk => h.2 k (own_lt hV k hk) (fun cs hc => by
    obtain ⟨cs', hc'⟩ := own_typed hV k hk
    rw [hc'] at hc; injection hc with hc; injection hc with _ hc; exact hne hc))
theorem FxT.grown (hb : base ≤ w.heap.size) (hg : w.grownBy w1 v.ownBlock) (hv : ∀ k, v.ownBlock = some k → base ≤ k ∧ ∃ cs, w.heap[k]? = some (.cells cs T (0, 0))) : FxT T base w w1 :=
  ⟨⟨hg.os, hg.tape, hg.output, hg.size, fun k hk => hg.block k (by omega) (fun q => by have := (hv k q.symm).1; omega)⟩, fun k hk hc => hg.block k hk (fun q => by obtain ⟨cs, hcs⟩ := (hv k q.symm).2; exact hc cs hcs)⟩
/-- Rows, by their values and what is in them now. -/
def ValsF (d : Kd α) (e : Nat) (w : World) (base : Nat) (vs : List Value) (L : List (List α)) (F : Nat → List α → List α) : Prop :=
  vs.length = L.length ∧ ∀ (i : Nat) v l, vs[i]? = some v → L[i]? = some l → d.R e w base (fun _ => True) v (F i l)
theorem ValsF.congr (h : ValsF d e w base vs L F) (hF : ∀ (i : Nat) l, L[i]? = some l → F' i l = F i l) : ValsF d e w base vs L F' := ⟨h.1, fun i v l hv hl => by rw [hF i l hl]; exact h.2 i v l hv hl⟩
theorem ValsF.below (h : ValsF d e w base vs L F) (hb : Below w.heap.size w w1) : ValsF d e w1 base vs L F := ⟨h.1, fun i v l hv hl => Kd.R_below (h.2 i v l hv hl) hb⟩
theorem ValsF.get (h : ValsF d e w base vs L F) {i : Nat} (hl : L[i]? = some l) : ∃ v, vs[i]? = some v ∧ d.R e w base (fun _ => True) v (F i l) := by
  have hi : i < vs.length := by rw [h.1]; exact (List.getElem?_eq_some_iff.1 hl).1
  exact ⟨vs[i], List.getElem?_eq_getElem hi, h.2 i _ _ (List.getElem?_eq_getElem hi) hl⟩
theorem ne_of_pair {i j : Nat} {x : Value} (hp : vs.Pairwise NeRow) (hv : vs[i]? = some v) (hx : vs[j]? = some x) (hij : j ≠ i) : NeRow v x := by
  rw [List.pairwise_iff_getElem] at hp
  obtain ⟨hj', rfl⟩ := List.getElem?_eq_some_iff.1 hx
  obtain ⟨hi', rfl⟩ := List.getElem?_eq_some_iff.1 hv
  rcases Nat.lt_or_ge i j with h1 | h1
  · exact hp i j hi' hj' h1
  · exact ne_symm (hp j i hj' hi' (by omega))
/-- One of them is written. -/
theorem ValsF.set (hE : d.E = []) (h : ValsF d e w base vs L F) (hp : vs.Pairwise NeRow) {i : Nat} (hl : L[i]? = some l) (hv : vs[i]? = some v) (hr : d.R e w1 base (fun _ => True) v (F' i l)) (hg : w.grownBy w1 v.ownBlock) (hF : ∀ (j : Nat) x, j ≠ i → L[j]? = some x → F' j x = F j x) : ValsF d e w1 base vs L F' := by
  refine ⟨h.1, fun j x y hx hy => ?_⟩
  by_cases hj : j = i
  · subst hj
    rw [hv] at hx; rw [hl] at hy
    injection hx with hx; injection hy with hy
    subst hx; subst hy
    exact hr
  · rw [hF j y hj hy]
    have hold := h.2 j x y hx hy
    exact R_moved hE hold (fun k hk => hg.block k (Kd.R_lt hold k hk) (fun q => ne_of_pair hp hv hx hj k q.symm hk))
/-- A shelf: the row of the lists, the lists. -/
structure Shelf (d : Kd α) (e eL : Nat) (w : World) (base : Nat) (V : Value) (vs : List Value) (L : List (List α)) (F : Nat → List α → List α) : Prop where
  hV : w.ownsRow base eL 1 V L.length vs
  rv : ValsF d e w base vs L F
  ne : vs.Pairwise NeRow
theorem Pile.shelf (h : Pile d e eL w base V U vs us L) : Shelf d e eL w base V vs L (fun _ l => l) := ⟨h.hV, h.rv, (List.pairwise_append.1 h.ne).1⟩
theorem Pile.shelfU (h : Pile d e eL w base V U vs us L) : Shelf d e eL w base U us L (fun _ l => l) := ⟨h.hU, h.ru, (List.pairwise_append.1 h.ne).2.1⟩
theorem Shelf.below (h : Shelf d e eL w base V vs L F) (hb : Below w.heap.size w w1) : Shelf d e eL w1 base V vs L F := ⟨own_move h.hV (fun k hk => hb.block k (own_lt h.hV k hk)), h.rv.below hb, h.ne⟩
theorem Shelf.congr (h : Shelf d e eL w base V vs L F) (hF : ∀ (i : Nat) l, L[i]? = some l → F' i l = F i l) : Shelf d e eL w base V vs L F' := ⟨h.hV, h.rv.congr hF, h.ne⟩
/-- Blocks of another type have turned. -/
theorem Shelf.fx (hE : d.E = []) (h : Shelf d e eL w base V vs L F) (hx : FxT T b w w1) (h1 : e ≠ T) (h2 : eL ≠ T) : Shelf d e eL w1 base V vs L F :=
  ⟨hx.own h.hV h2, ⟨h.rv.1, fun i v l hv hl => R_moved hE (h.rv.2 i v l hv hl) (fun k hk => by
    have hr := h.rv.2 i v l hv hl
    refine hx.2 k (Kd.R_lt hr k hk) (fun cs hc => ?_)
    obtain ⟨cs', hc'⟩ := Kd.R_typed hr k hk
    rw [hc'] at hc; injection hc with hc; injection hc with _ hc; exact h1 hc)⟩, h.ne⟩
theorem Shelf.grownFx (h : Shelf d e eL w base V vs L F) {i : Nat} (hv : vs[i]? = some v) (hl : L[i]? = some l) (hb : base ≤ w.heap.size) (hg : w.grownBy w1 v.ownBlock) : FxT e base w w1 :=
  FxT.grown hb hg (fun k hk => ⟨Kd.R_base (h.rv.2 i v l hv hl) k hk, Kd.R_typed (h.rv.2 i v l hv hl) k hk⟩)
/-- One of the lists is written. -/
theorem Shelf.set (hE : d.E = []) (hne : eL ≠ e) (h : Shelf d e eL w base V vs L F) (hb : base ≤ w.heap.size) {i : Nat} (hl : L[i]? = some l) (hv : vs[i]? = some v) (hr : d.R e w1 base (fun _ => True) v (F' i l)) (hg : w.grownBy w1 v.ownBlock) (hF : ∀ (j : Nat) x, j ≠ i → L[j]? = some x → F' j x = F j x) : Shelf d e eL w1 base V vs L F' :=
  ⟨(h.grownFx hv hl hb hg).own h.hV hne, h.rv.set hE h.ne hl hv hr hg hF, h.ne⟩
/-- The list at a place: the value in the row's cell. -/
theorem Shelf.at (h : Shelf d e eL w base V vs L F) {i : Nat} (hl : L[i]? = some l) : ∃ g c A cv, V = .slice (some ⟨g, 0, none⟩) L.length c ∧ w.cell? ⟨g, i, none⟩ = some (.slice A (F i l).length cv) ∧ vs[i]? = some (.slice A (F i l).length cv) ∧ d.R e w base (fun _ => True) (.slice A (F i l).length cv) (F i l) ∧ (F i l).length ≤ cv ∧ d.C w A (F i l).length (F i l) := by
  have hi : i < L.length := (List.getElem?_eq_some_iff.1 hl).1
  obtain ⟨g, c, rfl, hnc, hbg, hlt, hcell⟩ := row_cells h.hV (by omega)
  obtain ⟨v, hv, hr⟩ := h.rv.get hl
  obtain ⟨A, cv, rfl, hle, hC⟩ := Kd.R_reads hr
  exact ⟨g, c, A, cv, rfl, hcell i _ hv, hv, hr, hle, hC⟩
end
end Go.Proofs.Ytjbimnicnehnaaa.Hand
end
section
namespace Go.Proofs.Ytjbimnicnehnaaa.Hand
open Go.RowKit Go.Proofs.YtjbimnicnehnaaaW.PrintWords Go.Proofs.YtjbimnicnehnaaaW.PrintLast Go.Proofs.YtjbimnicnehnaaaW.PrintMore
set_option linter.unusedVariables false
set_option linter.unusedSimpArgs false
theorem add_zero0 (g j : Nat) : (⟨g, 0, none⟩ : Addr).add j = ⟨g, j, none⟩ := by unfold Addr.add; split <;> simp_all
section
variable {α : Type} {d : Kd α} {e eL T B : Nat} {w w1 w2 W : World} {base b g n : Nat} {v u V U O : Value} {l M xs : List α}
def Flat (d : Kd α) : Prop := ∀ (w w1 : World) x cs, d.K w x cs → d.K w1 x cs
theorem C_cells (hK : Flat d) (h : d.C w (some ⟨g, 0, none⟩) n M) (hc : ∀ j, j < n * d.sz → w1.cell? ⟨g, j, none⟩ = w.cell? ⟨g, j, none⟩) : d.C w1 (some ⟨g, 0, none⟩) n M := by
  refine ⟨h.1, h.2.1, fun h0 => ?_⟩
  obtain ⟨ad, he, hp⟩ := h.2.2 h0
  injection he with he
  subst he
  refine ⟨_, rfl, fun j p hj => ?_⟩
  obtain ⟨c, hl, hk, hcell⟩ := hp j p hj
  refine ⟨c, hl, hK _ _ _ _ hk, fun i u hu => ?_⟩
  have hjn : j < n := by have := (List.getElem?_eq_some_iff.1 hj).1; have := h.1; omega
  have hi : i < d.sz := by have := (List.getElem?_eq_some_iff.1 hu).1; omega
  have hlt : j * d.sz + i < n * d.sz := Nat.lt_of_lt_of_le (Nat.add_lt_add_left hi _) (by rw [← Nat.succ_mul]; exact Nat.mul_le_mul_right _ hjn)
  have := hcell i u hu
  rw [add_zero0] at this ⊢
  exact (hc _ hlt).trans this
/-- What a list shows, wherever it lies. -/
def Sees (d : Kd α) (e : Nat) (w : World) (v : Value) (M : List α) : Prop := ∃ c, M.length ≤ c ∧ ((v = .slice none M.length c ∧ M = []) ∨ ∃ g, v = .slice (some ⟨g, 0, none⟩) M.length c ∧ (∃ cs, w.heap[g]? = some (.cells cs e (0, 0))) ∧ d.C w (some ⟨g, 0, none⟩) M.length M)
theorem ty_lt {g : Nat} {cs : Array Value} (h : w.heap[g]? = some (.cells cs e (0, 0))) : g < w.heap.size := (Array.getElem?_eq_some_iff.1 h).1
theorem Sees.of_R {ok : Nat → Prop} (h : d.R e w base ok v M) : Sees d e w v M := by
  obtain ⟨A, c, rfl, hc, hC⟩ := Kd.R_reads h
  refine ⟨c, hc, ?_⟩
  rcases Nat.eq_zero_or_pos M.length with h0 | h0
  · obtain ⟨inner, ho⟩ := Kd.R_own h
    rcases ho.2 with ⟨he, _⟩ | ⟨g, cap, cur, he, _, hh, _⟩
    · injection he with h1 h2 h3
      subst h1
      exact .inl ⟨rfl, List.eq_nil_of_length_eq_zero h0⟩
    · injection he with h1 h2 h3
      subst h1
      exact .inr ⟨g, rfl, ⟨_, hh⟩, hC⟩
  · obtain ⟨g, c', he, _, hlt, hC'⟩ := row_at h h0
    injection he with h1 h2 h3
    subst h1
    exact .inr ⟨g, rfl, Kd.R_typed h g rfl, hC⟩
theorem Sees.reads (h : Sees d e w v M) : ∃ A c, v = .slice A M.length c ∧ M.length ≤ c ∧ d.C w A M.length M := by
  obtain ⟨c, hc, ⟨rfl, rfl⟩ | ⟨g, rfl, _, hC⟩⟩ := h
  · exact ⟨_, _, rfl, hc, Kd.C_nil d w⟩
  · exact ⟨_, _, rfl, hc, hC⟩
theorem Sees.move (hK : Flat d) (h : Sees d e w v M) (hm : ∀ k, v.ownBlock = some k → w1.heap[k]? = w.heap[k]?) : Sees d e w1 v M := by
  obtain ⟨c, hc, ⟨rfl, rfl⟩ | ⟨g, rfl, ⟨cs, hcs⟩, hC⟩⟩ := h
  · exact ⟨c, hc, .inl ⟨rfl, rfl⟩⟩
  · refine ⟨c, hc, .inr ⟨g, rfl, ⟨cs, (hm g rfl).trans hcs⟩, C_cells hK hC (fun j _ => ?_)⟩⟩
    have := hm g rfl
    unfold World.cell?
    simp only [this]
theorem Sees.lt (h : Sees d e w v M) {k : Nat} (hk : v.ownBlock = some k) : k < w.heap.size := by
  obtain ⟨c, hc, ⟨rfl, rfl⟩ | ⟨g, rfl, ⟨cs, hcs⟩, hC⟩⟩ := h
  · cases hk
  · injection hk with hk; subst hk; exact ty_lt hcs
theorem Sees.typed (h : Sees d e w v M) {k : Nat} (hk : v.ownBlock = some k) : ∃ cs, w.heap[k]? = some (.cells cs e (0, 0)) := by
  obtain ⟨c, hc, ⟨rfl, rfl⟩ | ⟨g, rfl, hcs, hC⟩⟩ := h
  · cases hk
  · injection hk with hk; subst hk; exact hcs
/-- Blocks of another type have turned. -/
theorem Sees.fx (hK : Flat d) (h : Sees d e w v M) (hx : FxT T B w w1) (hne : e ≠ T) : Sees d e w1 v M := h.move hK (fun k hk => by
  obtain ⟨cs, hcs⟩ := h.typed hk
  exact hx.2 k (ty_lt hcs) (fun cs' hc => by rw [hcs] at hc; injection hc with hc; injection hc with _ hc; exact hne hc))
theorem Sees.below (hK : Flat d) (h : Sees d e w v M) (hb : Below w.heap.size w w1) : Sees d e w1 v M := h.move hK (fun k hk => hb.block k (h.lt hk))
/-- Something is appended to a list: what lay in its cells lies there still. -/
def Kept (e : Nat) (w w1 : World) (v : Value) (m : Nat) : Prop := ∀ g, v.ownBlock = some g → (∀ j, j < m → w1.cell? ⟨g, j, none⟩ = w.cell? ⟨g, j, none⟩) ∧ ∃ cs, w1.heap[g]? = some (.cells cs e (0, 0))
theorem Sees.kept (hK : Flat d) {m : Nat} (h : Sees d e w v M) (hg : w.grownBy w1 u.ownBlock) (hk : Kept e w w1 u m) (hm : M.length * d.sz ≤ m) : Sees d e w1 v M := by
  obtain ⟨c, hc, ⟨rfl, rfl⟩ | ⟨g, rfl, ⟨cs, hcs⟩, hC⟩⟩ := h
  · exact ⟨c, hc, .inl ⟨rfl, rfl⟩⟩
  · by_cases hu : u.ownBlock = some g
    · obtain ⟨h1, h2⟩ := hk g hu
      exact ⟨c, hc, .inr ⟨g, rfl, h2, C_cells hK hC (fun j hj => h1 j (by omega))⟩⟩
    · have hb := hg.block g (ty_lt hcs) (fun q => hu q.symm)
      refine ⟨c, hc, .inr ⟨g, rfl, ⟨cs, hb.trans hcs⟩, C_cells hK hC (fun j hj => ?_)⟩⟩
      unfold World.cell?
      simp only [hb]
end
section
variable {P : Program} {ops : Array Oper} {rest : List Oper} {o : Oper} {a : Act} {Q : Exit → Act → World → Prop} {K : Act → World → Prop} {α : Type}
theorem run_append_kept {W : World} (t ty e : TypeId) (i : TypeInfo) (z : Value) (size : Nat) (base : Nat) (ht : P.underlying t = some (.slice e)) (hi : P.info? e = some i) (hz : i.zero = some z) (hsize : i.size = size)
    (v : Value) (n : Nat) (xs : List Value) (hown : W.ownsRow base e size v n xs) (ad : Addr) (m c : Nat) (news : List Value) (hl : news.length = m * size) (hnews : ∀ j u, news[j]? = some u → W.cell? (ad.add j) = some u) (h1 : ∀ u ∈ news, u.oneCell' = true)
    (hm : n + m ≤ maxLen) (hb : (n + m) * i.bytes ≤ 140737488355328) {v1 : Value} {w1 : World} (hr : (Builtin.append_ #[t, t] ty #[v, .slice (some ad) m c]).run P W = .ok v1 w1) : Kept e W w1 v (n * size) := by
  subst hsize
  intro g hg
  have hsmall : n + m ≤ 9223372036854775807 := by simp only [maxLen] at hm; omega
  rcases hown.2 with ⟨rfl, rfl⟩ | ⟨g', cap, cur, rfl, hbg, hh, hnc, hcm, hcs, htake⟩
  · cases hg
  · injection hg with hg
    subst hg
    by_cases hroom : n + m ≤ cap
    · have hfit : n * i.size + news.length ≤ cur.size := by rw [hl, hcs, ← Nat.add_mul]; exact Nat.mul_le_mul_right _ hroom
      rw [run_append_room (P := P) W t ty e i ht hi g' n cap cur hh ad m c news hl hnews h1 hroom hfit] at hr
      injection hr with _ hw
      subst hw
      refine ⟨fun j hj => ?_, _, setRow_heap W g' cur _ e _ hh⟩
      rw [cell_of_row _ _ _ _ _ _ (setRow_heap W g' cur _ e _ hh), cell_of_row _ _ _ _ _ _ hh]
      have hlt : j < (cur.toList.take (n * i.size)).length := by rw [List.length_take, Array.length_toList]; omega
      rw [List.getElem?_toArray, List.append_assoc, List.getElem?_append_left hlt, List.getElem?_take, if_pos hj, Array.getElem?_toList]
    · have holds : ∀ j u, xs[j]? = some u → W.cell? ((⟨g', 0, none⟩ : Addr).add j) = some u := hown.cells (g := g') rfl
      rw [run_append_grow (P := P) W t ty e i z ht hi hz ⟨g', 0, none⟩ n cap xs hown.1 holds ad m c news hl hnews (by omega) (by omega) (growslice_fits (by omega) hb)] at hr
      injection hr with _ hw
      subst hw
      have hlt : g' < W.drew.heap.size := (Array.getElem?_eq_some_iff.1 hh).1
      have hold : ∀ o : Obj, (W.drew.alloc o).heap[g']? = W.heap[g']? := fun o => heap_alloc_old W.drew o hlt
      refine ⟨fun j hj => ?_, cur, (hold _).trans hh⟩
      unfold World.cell?
      simp only [hold]
namespace Kd
/-- append(v, x..): the rows; and what lay in the old list's cells lies there still. -/
theorem R_append_kept (d : Kd α) {Rr : α → List Value → Prop} {w0 W : World} (base : Nat) (hgd : o.guard = none) (s x : Operand) (t e : TypeId) (z : Value) (bytes : Nat)
    (ho : o.op = .call { callee := .builtin .append, args := #[s, x], argTypes := #[t, t] })
    (ht : P.underlying t = some (.slice e)) (hinfo : (P.info? e).map (fun i => (i.zero, i.size, i.bytes)) = some (some z, d.sz, bytes)) (hz : z.cells.size = d.sz) (hs0 : 0 < d.sz) (hb0 : 0 < bytes)
    (v : Value) (xs ys : List α) (ad : Addr) (m c : Nat) (ok okp : Nat → Prop) (hs : a.eval s = v) (hx : a.eval x = .slice (some ad) m c)
    (HO : d.R e W base ok v xs) (HR : ReadsRow Rr d.sz W (some ad) m ys) (hKM : ∀ x cs, Rr x cs → d.M W base okp x cs) (hokp : ∀ k, okp k → ok k ∧ some k ≠ v.ownBlock) (hfresh : ∀ k, W.heap.size ≤ k → ok k)
    (HB : Below base w0 W) (hbase : base ≤ W.heap.size) (hl : (xs.length + m) * bytes ≤ 140737488355328)
    (h : ∀ v1 w1, d.R e w1 base ok v1 (xs ++ ys) → Below base w0 w1 → W.grownBy w1 v.ownBlock → (v1.ownBlock = v.ownBlock ∨ ∃ b, v1.ownBlock = some b ∧ W.heap.size ≤ b) → Kept e W w1 v (xs.length * d.sz) → wpList P ops Q rest (a.put o.dst v1) w1) :
    wpList P ops Q (o :: rest) a W := by
  refine wpList_plain hgd fun K hK => ?_
  have hw : Region.wanted o (yielded ops a.tmps) = true := by simp [Region.wanted, hgd]
  have hstep := Kd.R_append_rows_step (P := P) (ops := ops) (o := o) (a := a) (Q := Q) (Kc := fun a' w1 => ∃ v1, a' = a.put o.dst v1 ∧ d.R e w1 base ok v1 (xs ++ ys) ∧ Below base w0 w1 ∧ W.grownBy w1 v.ownBlock ∧ (v1.ownBlock = v.ownBlock ∨ ∃ b, v1.ownBlock = some b ∧ W.heap.size ≤ b)) d (w0 := w0) base hw s x t e z bytes ho ht hinfo hz hs0 hb0 v xs ys (some ad) m c ok okp hs hx HO HR hKM hokp hfresh HB hbase hl (fun v1 w1 h1 h2 h3 h4 => ⟨v1, rfl, h1, h2, h3, h4⟩)
  rw [if_pos hw] at hstep
  obtain ⟨i0, hi, hzz⟩ := Option.map_eq_some_iff.1 hinfo
  simp only [Prod.mk.injEq] at hzz
  obtain ⟨hz0, hz1, hz2⟩ := hzz
  obtain ⟨_, inner, hown, hr⟩ := HO
  obtain ⟨news, hnr, hnc⟩ := ReadsRow.inner_ HR
  have hnM : Reps (d.M W base okp) d.sz ys news := hnr.imp_ (fun p c hp => hKM p c hp)
  have hone : ∀ u ∈ news, u.oneCell' = true := by
    intro u hu
    obtain ⟨q, hq, rfl⟩ := List.mem_iff_getElem.1 hu
    have hql : q / d.sz < ys.length := by
      rw [Nat.div_lt_iff_lt_mul hs0, ← hnM.1]
      exact hq
    refine d.K_one (d.K_of_M (hnM.2 (q / d.sz) _ (List.getElem?_eq_getElem hql))) _ ?_
    rw [List.mem_iff_getElem?]
    exact ⟨q % d.sz, by rw [List.getElem?_take, if_pos (Nat.mod_lt _ hs0), List.getElem?_drop, Nat.mul_comm, Nat.div_add_mod, List.getElem?_eq_getElem hq]⟩
  have hlen : xs.length + m ≤ 140737488355328 := Nat.le_trans (Nat.le_mul_of_pos_right _ hb0) hl
  have hnl : news.length = m * d.sz := by rw [hnr.1, HR.1]
  obtain ⟨v2, w2, hrun, _⟩ := run_append_own_at (P := P) W base t o.type e i0 z d.sz bytes ht hi hz0 hz1 hz2 hz hs0 v xs.length inner hown ad m c news hnl hnc hone (by simp only [maxLen]; omega) hl hbase
  have hkept := run_append_kept (P := P) (W := W) t o.type e i0 z d.sz base ht hi hz0 hz1 v xs.length inner hown ad m c news hnl hnc hone (by simp only [maxLen]; omega) (by rw [hz2]; exact hl) hrun
  unfold Oper.wp execOp at hstep ⊢
  simp only [ho, resolve, invoke, builtin, Sem.run_bind, Sem.run_pure, Result.andThen_ok, List.map_toArray, List.map_cons, List.map_nil, hs, hx, hrun] at hstep ⊢
  obtain ⟨v1, ha, h1, h2, h3, h4⟩ := hstep
  refine hK _ _ ?_
  rw [ha]
  exact h v1 w2 h1 h2 h3 h4 hkept
/-- out[i] = x, at a step of a region that draws its order. -/
theorem R_store_step (d : Kd α) {w0 W : World} (base : Nat) (hgd : o.guard = none) (t : TypeId) (p x : Operand) (ho : o.op = .store t p x) (e : TypeId) {g n cap o' : Nat} (i : Nat) (xs : List α) (x' : α) (u : Value) (seg : List Value) (ok okp : Nat → Prop)
    (haddr : a.eval p = .pointer (some ⟨g, o', none⟩)) (hoff : o' = i * d.sz) (hx : a.eval x = u) (hu : u.cells.toList = seg) (ht : (P.info? t).map (·.size) = some seg.length) (hsz : seg.length = d.sz) (h1 : ∀ q ∈ seg, q.oneCell' = true)
    (HO : d.R e W base ok (.slice (some ⟨g, 0, none⟩) n cap) xs) (hi : i < n) (hM : d.M W base okp x' seg) (hokp : ∀ k, okp k → ok k ∧ k ≠ g)
    (h : ∀ w1, d.R e w1 base ok (.slice (some ⟨g, 0, none⟩) n cap) (xs.set i x') → W.grownBy w1 (some g) → K (a.put o.dst undef) w1) (E : Prop) : if Region.wanted o (yielded ops a.tmps) = true then Oper.wp P o a W K Q else E := by
  have hw : Region.wanted o (yielded ops a.tmps) = true := by simp [Region.wanted, hgd]
  rw [if_pos hw]
  subst hoff
  have hnx : n = xs.length := (Kd.R_reads' HO).1
  obtain ⟨A0, c0, he0, _, hC⟩ := Kd.R_reads HO
  obtain ⟨c, hcl, hcc⟩ : ∃ c : List Value, c.length = d.sz ∧ ∀ j u, c[j]? = some u → W.cell? ⟨g, ((i : Nat) : Int).toNat * d.sz + j, none⟩ = some u := by
    injection he0 with q1 q2 q3
    subst q1
    obtain ⟨ad, hq, hp⟩ := hC.2.2 (by omega)
    injection hq with hq
    subst hq
    obtain ⟨c, hl, _, hcell⟩ := hp i _ (List.getElem?_eq_getElem (by omega))
    refine ⟨c, hl, fun j u hj => ?_⟩
    have := hcell j u hj
    rw [add_zero0] at this
    exact this
  have hseg := Kd.R_seg (j := 0) (seg := seg) (x' := x') HO ((i : Nat) : Int) (by omega) (by omega) hcl hcc (by omega) (by rw [List.take_zero, List.nil_append, Nat.zero_add, List.drop_eq_nil_of_le (by omega), List.append_nil]; exact hM) hokp
  rw [Int.toNat_natCast, Nat.add_zero] at hseg
  have hrun : (Instr.storeAt t (.pointer (some ⟨g, i * d.sz, none⟩)) u).run P W = .ok () (W.setCells g (i * d.sz) seg) := by
    obtain ⟨_, inner, hown, hr⟩ := HO
    rcases hown.2 with ⟨hv, _⟩ | ⟨g', cap', cur, hv, hb, hh, hnc, hcm, hcs, _⟩
    · cases hv
    injection hv with ha _ hc
    injection ha with ha
    injection ha with hg'
    subst hg'; subst hc
    refine run_store_run t u seg hh hu ht ?_ h1
    have h2 : i * d.sz + d.sz ≤ n * d.sz := by rw [← Nat.succ_mul]; exact Nat.mul_le_mul_right _ hi
    have h3 : n * d.sz ≤ cap * d.sz := Nat.mul_le_mul_right _ (by omega)
    omega
  unfold Oper.wp execOp
  simp only [ho, haddr, hx, Sem.run_bind, Sem.run_pure, Result.andThen_ok, hrun]
  exact h _ hseg.1 hseg.2
end Kd
end
end Go.Proofs.Ytjbimnicnehnaaa.Hand
end
section
namespace Go.Proofs.Ytjbimnicnehnaaa.A
open Go.RowKit Go.Proofs.YtjbimnicnehnaaaW.PrintWords Go.Proofs.YtjbimnicnehnaaaW.PrintLast Go.Proofs.YtjbimnicnehnaaaW.PrintMore
attribute [local go_sem] max2_int min2_int max_two min_two max_three min_three max_four min_four   -- for this text's walks alone
set_option linter.unusedVariables false
set_option linter.unusedSimpArgs false
def emulsionbook_SameInts.l0 : Nat → List Int → List Int → Int → Option (Bool)
  | 0, _, _, _ => none
  | k + 1, x0, x1, x5 => if x5 < (x0.length : Int) then (if 0 ≤ x5 then (if x5 < (x1.length : Int) then (if ((rd x0 x5) = (rd x1 x5)) then (emulsionbook_SameInts.l0 k x0 x1 (wrap64 (x5 + 1))) else (some false)) else (none)) else (none)) else (some true)
def emulsionbook_SameInts.f (k : Nat) (l0 : List Int) (l1 : List Int) : Option (Bool) := if (l0.length : Int) = (l1.length : Int) then (emulsionbook_SameInts.l0 k l0 l1 0) else (some false)
theorem emulsionbook_SameInts.mono_l : ∀ k, (∀ y0 y1 y2, LeO (emulsionbook_SameInts.l0 k y0 y1 y2) (emulsionbook_SameInts.l0 (k + 1) y0 y1 y2))
  | 0 => fun _ _ _ r h => by simp [emulsionbook_SameInts.l0] at h
  | k + 1 => by
    have ih0 := emulsionbook_SameInts.mono_l k
    · intro y0 y1 y2
      unfold emulsionbook_SameInts.l0
      repeat' first
      | (with_reducible exact ih0 _ _ _)
      | (with_reducible exact LeO.refl _)
      | (with_reducible exact LeO.none _)
      | (with_reducible refine LeO.ite ?_ ?_)
      | (with_reducible refine LeO.bind ?_ (fun _ => ?_))
      | exact ih0 _ _ _
      | exact LeO.none _
      | refine LeO.ite ?_ ?_
      | refine LeO.bind ?_ (fun _ => ?_)
theorem emulsionbook_SameInts.mono : ∀ a0 a1 k, LeO (emulsionbook_SameInts.f k a0 a1) (emulsionbook_SameInts.f (k + 1) a0 a1) := by
  intro a0 a1 k
  have ih0 := emulsionbook_SameInts.mono_l k
  unfold emulsionbook_SameInts.f
  repeat' first
      | (with_reducible exact ih0 _ _ _)
      | (with_reducible exact LeO.refl _)
      | (with_reducible exact LeO.none _)
      | (with_reducible refine LeO.ite ?_ ?_)
      | (with_reducible refine LeO.bind ?_ (fun _ => ?_))
      | exact ih0 _ _ _
      | exact LeO.none _
      | refine LeO.ite ?_ ?_
      | refine LeO.bind ?_ (fun _ => ?_)
set_option maxHeartbeats 8000000 in
set_option maxRecDepth 100000 in
theorem emulsionbook_SameInts.calls (k : Nat) (A0 : Option Addr) (c0 : Nat) (l0 : List Int) (A1 : Option Addr) (c1 : Nat) (l1 : List Int) (r : Bool) (w : World) (hr0 : Kd.C (Kd.int .i64) w A0 l0.length l0) (hc0 : l0.length ≤ c0) (hr1 : Kd.C (Kd.int .i64) w A1 l1.length l1) (hc1 : l1.length ≤ c1) (h : emulsionbook_SameInts.f k l0 l1 = some r) :
    Calls Try.prog 78 #[.slice A0 l0.length c0, .slice A1 l1.length c1] w fun e w' => e = .returned (.bool r) ∧ Drawn0 w w' := by
  have HR0 := Aside0.mk hr0
  have HC0 := Aside0.mk hc0
  clear hr0 hc0
  have HR1 := Aside0.mk hr1
  have HC1 := Aside0.mk hc1
  clear hr1 hc1
  have H : (if (l0.length : Int) = (l1.length : Int) then (emulsionbook_SameInts.l0 k l0 l1 0) else (some false)) = some r := h
  clear h
  by_cases c3 : (l0.length : Int) = (l1.length : Int)
  · rw [if_pos c3] at H
    have c3b0 : ((l0.length : Int) == (l1.length : Int)) = true := beq_iff_eq.mpr c3
    have c3b1 : ((l0.length : Int) != (l1.length : Int)) = false := bne_eq_false_iff_eq.mpr c3
    have c3b2 : (l0.length == l1.length) = true := by first | simpa using c3 | (simp at c3 ⊢; omega)
    clear c3
    have H' := Aside0.mk H
    clear H
    go_enter Try.func78, Try.ntmps78
    go_wp2
    repeat (go_quiet (fail); try go_wp2)
    go_loopg [5] k (fun kq v5 w' => ∃ (x5_1 : Int), v5 = .int .i64 x5_1 ∧ Aside0 (emulsionbook_SameInts.l0 kq l0 l1 x5_1 = some r) ∧ Aside0 (kq ≤ k) ∧ Drawn0 w w')
    case atStart => exact ⟨(0), (by first | rfl | (simp; done) | (simp [*]; done)), H', ⟨Nat.le_refl _⟩, by repeat (first | exact Drawn0.refl _ | apply Drawn0.step)⟩
    case round =>
      clear H'
      try clear c1
      try clear p2
      try clear c3
      try clear c3b0
      try clear c3b1
      try clear c3b2
      obtain ⟨x5_1, rfl, HA, HK1, ⟨m1, rfl⟩⟩ := hrel
      cases gk with
      | zero => exact absurd HA.out (by simp [emulsionbook_SameInts.l0])
      | succ k1 =>
        have H := HA.out
        clear HA
        simp only [emulsionbook_SameInts.l0] at H
        by_cases c4 : x5_1 < (l0.length : Int)
        · rw [if_pos c4] at H
          have c4b0 : decide (x5_1 < (l0.length : Int)) = true := decide_eq_true c4
          clear c4
          by_cases c5 : 0 ≤ x5_1
          · rw [if_pos c5] at H
            have c5b0 : decide (0 ≤ x5_1) = true := decide_eq_true c5
            clear c5
            by_cases c6 : x5_1 < (l1.length : Int)
            · rw [if_pos c6] at H
              have c6b0 : decide (x5_1 < (l1.length : Int)) = true := decide_eq_true c6
              clear c6
              by_cases c7 : ((rd l0 x5_1) = (rd l1 x5_1))
              · rw [if_pos c7] at H
                have c7b0 : ((rd l0 x5_1) == (rd l1 x5_1)) = true := beq_iff_eq.mpr c7
                have c7b1 : ((rd l0 x5_1) != (rd l1 x5_1)) = false := bne_eq_false_iff_eq.mpr c7
                clear c7
                have H' := Aside0.mk H
                clear H
                have p194 : 0 ≤ (x5_1 : Int) := of_decide_eq_true (by first | (with_reducible assumption) | assumption)
                have q194 : x5_1 < (l0.length : Int) := of_decide_eq_true (by first | (with_reducible assumption) | assumption)
                obtain ⟨ad194, e194, hx194_0⟩ := Kd.at_int HR0.out x5_1 p194 q194
                cases e194
                replace p194 := eq_true p194
                replace q194 := eq_true q194
                have p195 : 0 ≤ (x5_1 : Int) := of_decide_eq_true (by first | (with_reducible assumption) | assumption)
                have q195 : x5_1 < (l1.length : Int) := of_decide_eq_true (by first | (with_reducible assumption) | assumption)
                obtain ⟨ad195, e195, hx195_0⟩ := Kd.at_int HR1.out x5_1 p195 q195
                cases e195
                replace p195 := eq_true p195
                replace q195 := eq_true q195
                go_wp2
                repeat (go_quiet (fail); try go_wp2)
                go_roundg k1
                case measure => have := HK1.out; omega
                case rel => exact ⟨(wrap64 (x5_1 + 1)), (by first | rfl | (simp; done) | (simp [*]; done)), H', ⟨by have := HK1.out; omega⟩, by repeat (first | exact Drawn0.refl _ | apply Drawn0.step)⟩
              · rw [if_neg c7] at H
                have c7b0 : ((rd l0 x5_1) == (rd l1 x5_1)) = false := beq_eq_false_iff_ne.mpr c7
                have c7b1 : ((rd l0 x5_1) != (rd l1 x5_1)) = true := bne_iff_ne.mpr c7
                obtain rfl := Option.some.inj H
                have p194 : 0 ≤ (x5_1 : Int) := of_decide_eq_true (by first | (with_reducible assumption) | assumption)
                have q194 : x5_1 < (l0.length : Int) := of_decide_eq_true (by first | (with_reducible assumption) | assumption)
                obtain ⟨ad194, e194, hx194_0⟩ := Kd.at_int HR0.out x5_1 p194 q194
                cases e194
                replace p194 := eq_true p194
                replace q194 := eq_true q194
                have p195 : 0 ≤ (x5_1 : Int) := of_decide_eq_true (by first | (with_reducible assumption) | assumption)
                have q195 : x5_1 < (l1.length : Int) := of_decide_eq_true (by first | (with_reducible assumption) | assumption)
                obtain ⟨ad195, e195, hx195_0⟩ := Kd.at_int HR1.out x5_1 p195 q195
                cases e195
                replace p195 := eq_true p195
                replace q195 := eq_true q195
                go_wp2
                repeat (go_quiet (fail); try go_wp2)
                go_ret
                exact ⟨by first | rfl | (simp; done) | (simp [*]; done), by repeat (first | exact Drawn0.refl _ | apply Drawn0.step)⟩
            · rw [if_neg c6] at H
              exact absurd H (by simp)
          · rw [if_neg c5] at H
            exact absurd H (by simp)
        · rw [if_neg c4] at H
          have c4b0 : decide (x5_1 < (l0.length : Int)) = false := decide_eq_false c4
          clear c4
          obtain rfl := Option.some.inj H
          go_wp2
          repeat (go_quiet (fail); try go_wp2)
          go_ret
          exact ⟨by first | rfl | (simp; done) | (simp [*]; done), by repeat (first | exact Drawn0.refl _ | apply Drawn0.step)⟩
  · rw [if_neg c3] at H
    have c3b0 : ((l0.length : Int) == (l1.length : Int)) = false := beq_eq_false_iff_ne.mpr c3
    have c3b1 : ((l0.length : Int) != (l1.length : Int)) = true := bne_iff_ne.mpr c3
    have c3b2 : (l0.length == l1.length) = false := by first | simpa using c3 | (simp at c3 ⊢; omega)
    obtain rfl := Option.some.inj H
    go_enter Try.func78, Try.ntmps78
    go_wp2
    repeat (go_quiet (fail); try go_wp2)
    go_ret
    exact ⟨by first | rfl | (simp; done) | (simp [*]; done), by repeat (first | exact Drawn0.refl _ | apply Drawn0.step)⟩
def emulsionbook_markInts.l0 : Nat → Int → Int → Int → List Int → Int → Option (List Int)
  | 0, _, _, _, _, _ => none
  | k + 1, x0, x1, x2, x7, x8 => if x8 < (wrap64 (x1 + x2)) then (if x7.length < 17592186044416 then (emulsionbook_markInts.l0 k x0 x1 x2 (x7 ++ [wrap64 ((wrap64 ((wrap64 ((-1000000) * x0)) - x8)) - 7)]) (wrap64 (x8 + 1))) else (none)) else (some x7)
def emulsionbook_markInts.f (k : Nat) (a0 : Int) (a1 : Int) (a2 : Int) : Option (List Int) := emulsionbook_markInts.l0 k a0 a1 a2 ([] : List Int) a1
theorem emulsionbook_markInts.mono_l : ∀ k, (∀ y0 y1 y2 y3 y4, LeO (emulsionbook_markInts.l0 k y0 y1 y2 y3 y4) (emulsionbook_markInts.l0 (k + 1) y0 y1 y2 y3 y4))
  | 0 => fun _ _ _ _ _ r h => by simp [emulsionbook_markInts.l0] at h
  | k + 1 => by
    have ih0 := emulsionbook_markInts.mono_l k
    · intro y0 y1 y2 y3 y4
      unfold emulsionbook_markInts.l0
      repeat' first
      | (with_reducible exact ih0 _ _ _ _ _)
      | (with_reducible exact LeO.refl _)
      | (with_reducible exact LeO.none _)
      | (with_reducible refine LeO.ite ?_ ?_)
      | (with_reducible refine LeO.bind ?_ (fun _ => ?_))
      | exact ih0 _ _ _ _ _
      | exact LeO.none _
      | refine LeO.ite ?_ ?_
      | refine LeO.bind ?_ (fun _ => ?_)
theorem emulsionbook_markInts.mono : ∀ a0 a1 a2 k, LeO (emulsionbook_markInts.f k a0 a1 a2) (emulsionbook_markInts.f (k + 1) a0 a1 a2) := by
  intro a0 a1 a2 k
  have ih0 := emulsionbook_markInts.mono_l k
  unfold emulsionbook_markInts.f
  repeat' first
      | (with_reducible exact ih0 _ _ _ _ _)
      | (with_reducible exact LeO.refl _)
      | (with_reducible exact LeO.none _)
      | (with_reducible refine LeO.ite ?_ ?_)
      | (with_reducible refine LeO.bind ?_ (fun _ => ?_))
      | exact ih0 _ _ _ _ _
      | exact LeO.none _
      | refine LeO.ite ?_ ?_
      | refine LeO.bind ?_ (fun _ => ?_)
set_option maxHeartbeats 8000000 in
set_option maxRecDepth 100000 in
theorem emulsionbook_markInts.calls (k : Nat) (a0 : Int) (a1 : Int) (a2 : Int) (r : List Int) (w : World) (h : emulsionbook_markInts.f k a0 a1 a2 = some r) :
    Calls Try.prog 85 #[.int .i64 a0, .int .i64 a1, .int .i64 a2] w fun e w' => ∃ v0_ : Value, e = .returned (v0_) ∧ Kd.R (Kd.int .i64) 3 w' w.heap.size (fun _ => True) v0_ r ∧ Below w.heap.size w w' := by
  have HB := Aside0.mk (Below.refl w.heap.size w)
  have H : (emulsionbook_markInts.l0 k a0 a1 a2 ([] : List Int) a1) = some r := h
  clear h
  have H' := Aside0.mk H
  clear H
  go_enter Try.func85, Try.ntmps85
  go_wp2
  go_loopg [7, 8] k (fun kq v7 v8 w' => ∃ (x7_1 : List Int) (x8_1 : Int), v8 = .int .i64 x8_1 ∧ Aside0 (emulsionbook_markInts.l0 kq a0 a1 a2 x7_1 x8_1 = some r) ∧ Aside0 (kq ≤ k) ∧ Aside0 (Kd.R (Kd.int .i64) 3 w' w.heap.size (fun _ => True) v7 x7_1) ∧ Aside0 (Below w.heap.size w w'))
  case atStart => exact ⟨(([] : List Int)), (a1), (by first | rfl | (simp; done) | (simp [*]; done)), H', ⟨Nat.le_refl _⟩, ⟨by first | exact Kd.R_nil _ _ _ _ _ | exact Kd.N_nil _ _ _ _ _ | exact Kd.V_nil _ _ _ _ _ | exact Kd.Q_nil _ _ _ _ _ | exact Kd.S_nil _ _ _ _ _⟩, ⟨by repeat (first | (with_reducible first | exact HB.out | apply below_alloc | apply pw_below_drewN | apply below_drew1) | exact HB.out)⟩⟩
  case round =>
    clear H'
    try clear p2
    obtain ⟨x7_1, x8_1, rfl, HA, HK1, HO_7, HB⟩ := hrel
    cases gk with
    | zero => exact absurd HA.out (by simp [emulsionbook_markInts.l0])
    | succ k1 =>
      have H := HA.out
      clear HA
      simp only [emulsionbook_markInts.l0] at H
      by_cases c4 : x8_1 < (wrap64 (a1 + a2))
      · rw [if_pos c4] at H
        have c4b0 : decide (x8_1 < (wrap64 (a1 + a2))) = true := decide_eq_true c4
        clear c4
        by_cases c5 : x7_1.length < 17592186044416
        · rw [if_pos c5] at H
          have LMc5 := Aside0.mk c5
          clear c5
          obtain ⟨y196, hy196⟩ : ∃ y_ : List Int, y_ = (x7_1 ++ [wrap64 ((wrap64 ((wrap64 ((-1000000) * a0)) - x8_1)) - 7)]) := ⟨_, rfl⟩
          replace H : (emulsionbook_markInts.l0 k1 a0 a1 a2 y196 (wrap64 (x8_1 + 1))) = some r := by first | (rw [hy196]; with_reducible exact H) | (have H2_ := (Option.bind_some _ _).symm.trans H; rw [hy196]; with_reducible exact H2_) | (have H2_ := (Option.bind_some _ _).symm.trans H; with_reducible exact H2_) | with_reducible exact H | (rw [hy196]; exact H) | exact H
          have Ny196 := Aside0.mk hy196
          clear hy196
          have H' := Aside0.mk H
          clear H
          go_wp2_with (first | ((with_reducible refine gate_builtin (b := .append) (xs := #[.tmp 17, .tmp 23]) rfl ?_); at_builtin; refine Kd.R_append (Kd.int .i64) (w0 := w) w.heap.size rfl (.tmp 17) (.tmp 23) 91 3 (.int .i64 0) 8 rfl Try.underlying91 info3 rfl (by decide) (by omega) u7 x7_1 (wrap64 ((wrap64 ((wrap64 ((-1000000) * a0)) - x8_1)) - 7)) [.int .i64 (wrap64 ((wrap64 ((wrap64 ((-1000000) * a0)) - x8_1)) - 7))] (fun _ => True) (fun _ => False) rfl rfl ?aP (fun _ hk => hk.elim) ?aF ?aO ?aB ?aS ?aL ?_; (case aP => exact rfl); (case aB => exact (by repeat (first | (with_reducible first | exact HB.out | apply below_alloc | apply pw_below_drewN | apply below_drew1) | exact HB.out))); (case aF => exact (fun _ _ => trivial)); (case aO => exact (by (with_reducible repeat (first | apply Kd.R_alloc | apply Kd.R_drewN | apply Kd.R_drew)); exact HO_7.out)); (case aS => exact (below_size (by repeat (first | (with_reducible first | exact HB.out | apply below_alloc | apply pw_below_drewN | apply below_drew1) | exact HB.out)))); (case aL => have := LMc5.out; omega); intro v197 w6 ho hb hg hat; rw [← Ny196.out] at ho; have n0_ := Aside0.mk (hb); have n1_ := Aside0.mk (ho); clear HB; clear HO_7; have HB := n0_; have HO198 := n1_; clear n0_ n1_; clear ho hb hg hat))
          go_roundg k1
          case measure => have := HK1.out; omega
          case rel => exact ⟨(y196), (wrap64 (x8_1 + 1)), (by first | rfl | (simp; done) | (simp [*]; done)), H', ⟨by have := HK1.out; omega⟩, ⟨by (with_reducible repeat (first | apply Kd.R_alloc | apply Kd.R_drewN | apply Kd.R_drew)); exact HO198.out⟩, ⟨by repeat (first | (with_reducible first | exact HB.out | apply below_alloc | apply pw_below_drewN | apply below_drew1) | exact HB.out)⟩⟩
        · rw [if_neg c5] at H
          exact absurd H (by simp)
      · rw [if_neg c4] at H
        have c4b0 : decide (x8_1 < (wrap64 (a1 + a2))) = false := decide_eq_false c4
        clear c4
        obtain rfl := Option.some.inj H
        go_wp2
        go_ret
        exact ⟨_, by first | rfl | (simp [errW_none, errW_some] <;> rfl) | (simp [*, errW_none, errW_some] <;> rfl), by (with_reducible repeat (first | apply Kd.R_alloc | apply Kd.R_drewN | apply Kd.R_drew)); exact HO_7.out, by repeat (first | (with_reducible first | exact HB.out | apply below_alloc | apply pw_below_drewN | apply below_drew1) | exact HB.out)⟩
end Go.Proofs.Ytjbimnicnehnaaa.A
end
section
namespace Go.Proofs.Ytjbimnicnehnaaa.A
open Go.RowKit Go.Proofs.YtjbimnicnehnaaaW.PrintWords Go.Proofs.YtjbimnicnehnaaaW.PrintLast Go.Proofs.YtjbimnicnehnaaaW.PrintMore
attribute [local go_sem] max2_int min2_int max_two min_two max_three min_three max_four min_four   -- for this text's walks alone
set_option linter.unusedVariables false
set_option linter.unusedSimpArgs false
def emulsionbook_markedInts.l0 : Nat → List (List Int) → Int → Option (Bool)
  | 0, _, _ => none
  | k + 1, x0, x3 => if x3 < (x0.length : Int) then (if 0 ≤ x3 then ((emulsionbook_markInts.f k x3 0 ((rd_L5 x0 x3).length : Int)).bind fun t201 => ((emulsionbook_SameInts.f k (rd_L5 x0 x3) t201).bind fun t204 => (if t204 = true then (emulsionbook_markedInts.l0 k x0 (wrap64 (x3 + 1))) else (some false)))) else (none)) else (some true)
def emulsionbook_markedInts.f (k : Nat) (l0 : List (List Int)) : Option (Bool) := emulsionbook_markedInts.l0 k l0 0
theorem emulsionbook_markedInts.mono_l : ∀ k, (∀ y0 y1, LeO (emulsionbook_markedInts.l0 k y0 y1) (emulsionbook_markedInts.l0 (k + 1) y0 y1))
  | 0 => fun _ _ r h => by simp [emulsionbook_markedInts.l0] at h
  | k + 1 => by
    have ih0 := emulsionbook_markedInts.mono_l k
    · intro y0 y1
      unfold emulsionbook_markedInts.l0
      repeat' first
      | (with_reducible exact ih0 _ _)
      | (with_reducible exact emulsionbook_SameInts.mono _ _ _)
      | (with_reducible exact emulsionbook_markInts.mono _ _ _ _)
      | (with_reducible exact LeO.refl _)
      | (with_reducible exact LeO.none _)
      | (with_reducible refine LeO.ite ?_ ?_)
      | (with_reducible refine LeO.bind ?_ (fun _ => ?_))
      | exact ih0 _ _
      | exact emulsionbook_SameInts.mono _ _ _
      | exact emulsionbook_markInts.mono _ _ _ _
      | exact LeO.none _
      | refine LeO.ite ?_ ?_
      | refine LeO.bind ?_ (fun _ => ?_)
theorem emulsionbook_markedInts.mono : ∀ a0 k, LeO (emulsionbook_markedInts.f k a0) (emulsionbook_markedInts.f (k + 1) a0) := by
  intro a0 k
  have ih0 := emulsionbook_markedInts.mono_l k
  unfold emulsionbook_markedInts.f
  repeat' first
      | (with_reducible exact ih0 _ _)
      | (with_reducible exact emulsionbook_SameInts.mono _ _ _)
      | (with_reducible exact emulsionbook_markInts.mono _ _ _ _)
      | (with_reducible exact LeO.refl _)
      | (with_reducible exact LeO.none _)
      | (with_reducible refine LeO.ite ?_ ?_)
      | (with_reducible refine LeO.bind ?_ (fun _ => ?_))
      | exact ih0 _ _
      | exact emulsionbook_SameInts.mono _ _ _
      | exact emulsionbook_markInts.mono _ _ _ _
      | exact LeO.none _
      | refine LeO.ite ?_ ?_
      | refine LeO.bind ?_ (fun _ => ?_)
def emulsionbook_markedInts.T4 : Bool × List (List Nat × List Nat) := (true, [([], []), ([], []), ([0, 1], [0, 1]), ([2], [2]), ([], []), ([], []), ([], []), ([5, 6], [5, 6]), ([7], [7]), ([8], [8]), ([4, 9], [4, 9]), ([3, 10, 10], [3, 10]), ([11], [11])])
def emulsionbook_markedInts.B4 : List Nat := [0, 0, 3, 7, 0, 0, 0, 96, 224, 480, 1008, 2047, 4095]
theorem emulsionbook_markedInts.tab4 : rtab .any (opsOf Try.f68 4) = emulsionbook_markedInts.T4 := by kernel_rfl
theorem emulsionbook_markedInts.bits4 : waitsOk emulsionbook_markedInts.T4.2 emulsionbook_markedInts.B4 = true := by kernel_rfl
set_option maxHeartbeats 8000000 in
set_option maxRecDepth 100000 in
theorem emulsionbook_markedInts.calls (k : Nat) (A0 : Option Addr) (c0 : Nat) (l0 : List (List Int)) (r : Bool) (w : World) (hr0 : Kd.C (Kd.slice 3 (Kd.int .i64)) w A0 l0.length l0) (hc0 : l0.length ≤ c0) (h : emulsionbook_markedInts.f k l0 = some r) :
    Calls Try.prog 68 #[.slice A0 l0.length c0] w fun e w' => e = .returned (.bool r) ∧ Below w.heap.size w w' := by
  have HR0 := Aside0.mk hr0
  have HC0 := Aside0.mk hc0
  clear hr0 hc0
  have HB := Aside0.mk (Below.refl w.heap.size w)
  have H : (emulsionbook_markedInts.l0 k l0 0) = some r := h
  clear h
  have H' := Aside0.mk H
  clear H
  go_enter Try.func68, Try.ntmps68
  go_wp2
  go_loopg [3] k (fun kq v3 w' => ∃ (x3_1 : Int), v3 = .int .i64 x3_1 ∧ Aside0 (emulsionbook_markedInts.l0 kq l0 x3_1 = some r) ∧ Aside0 (kq ≤ k) ∧ Aside0 (Below w.heap.size w w'))
  case atStart => exact ⟨(0), (by first | rfl | (simp; done) | (simp [*]; done)), H', ⟨Nat.le_refl _⟩, ⟨by repeat (first | (with_reducible first | exact HB.out | apply below_alloc | apply pw_below_drewN | apply below_drew1) | exact HB.out)⟩⟩
  case round =>
    clear H'
    obtain ⟨x3_1, rfl, HA, HK1, HB⟩ := hrel
    cases gk with
    | zero => exact absurd HA.out (by simp [emulsionbook_markedInts.l0])
    | succ k1 =>
      have H := HA.out
      clear HA
      simp only [emulsionbook_markedInts.l0] at H
      by_cases c2 : x3_1 < (l0.length : Int)
      · rw [if_pos c2] at H
        have c2b0 : decide (x3_1 < (l0.length : Int)) = true := decide_eq_true c2
        clear c2
        by_cases c3 : 0 ≤ x3_1
        · rw [if_pos c3] at H
          have c3b0 : decide (0 ≤ x3_1) = true := decide_eq_true c3
          clear c3
          replace H := Option.bind_eq_some_iff.mp H
          obtain ⟨t201, A40, H⟩ := H
          replace H : ((emulsionbook_SameInts.f k1 (rd_L5 l0 x3_1) t201).bind fun t204 => (if t204 = true then (emulsionbook_markedInts.l0 k1 l0 (wrap64 (x3_1 + 1))) else (some false))) = some r := H
          have A4 := Aside0.mk A40
          clear A40
          replace H := Option.bind_eq_some_iff.mp H
          obtain ⟨t204, A50, H⟩ := H
          replace H : (if t204 = true then (emulsionbook_markedInts.l0 k1 l0 (wrap64 (x3_1 + 1))) else (some false)) = some r := H
          have A5 := Aside0.mk A50
          clear A50
          by_cases c6 : t204 = true
          · subst c6
            have H1 : (emulsionbook_markedInts.l0 k1 l0 (wrap64 (x3_1 + 1))) = some r := by rw [if_pos rfl] at H; exact H
            clear H
            have H := H1
            clear H1
            have H' := Aside0.mk H
            clear H
            try go_wp2
            have n0_ := Aside0.mk (below_drew1 HB.out)
            clear HB
            have HB := n0_
            clear n0_
            have p199 : 0 ≤ (x3_1 : Int) := of_decide_eq_true (by first | (with_reducible assumption) | assumption)
            have q199 : x3_1 < (l0.length : Int) := of_decide_eq_true (by first | (with_reducible assumption) | assumption)
            obtain ⟨ad199, A199_0, c199_0, e199, hx199_0, hl199_0, hi199_0⟩ := at_L5 HR0.out x3_1 p199 q199
            have hw199_0 := hx199_0
            cases e199
            replace hx199_0 := (HB.out.cell (World.block_lt_of_cell? w _ hx199_0)).trans hx199_0
            have HR199_0 := Aside0.mk hi199_0
            have HC199_0 := Aside0.mk hl199_0
            clear hi199_0 hl199_0
            replace p199 := eq_true p199
            replace q199 := eq_true q199
            have p200 : 0 ≤ (x3_1 : Int) := of_decide_eq_true (by first | (with_reducible assumption) | assumption)
            have q200 : x3_1 < (l0.length : Int) := of_decide_eq_true (by first | (with_reducible assumption) | assumption)
            obtain ⟨ad200, A200_0, c200_0, e200, hx200_0, hl200_0, hi200_0⟩ := at_L5 HR0.out x3_1 p200 q200
            have hw200_0 := hx200_0
            obtain rfl : ad199 = ad200 := (by injection e200)
            replace hx200_0 := (HB.out.cell (World.block_lt_of_cell? w _ hx200_0)).trans hx200_0
            have HR200_0 := Aside0.mk hi200_0
            have HC200_0 := Aside0.mk hl200_0
            clear hi200_0 hl200_0
            replace p200 := eq_true p200
            replace q200 := eq_true q200
            have ea_ := Option.some.inj (hx199_0.symm.trans hx200_0)
            injection ea_ with ea_ en_ ec_
            subst ea_
            subst ec_
            clear en_
            refine start_ (n := 13) (S := fun w' => w'.cell? (ad199.add (x3_1).toNat) = some (.slice A199_0 (rd_L5 l0 x3_1).length c199_0) ∧ w'.cell? (ad199.add (x3_1).toNat) = some (.slice A199_0 (rd_L5 l0 x3_1).length c199_0)) (ds := []) #[false, false, false, false, false, false, false, false, false, false, false, false, false] (by kernel_rfl) rfl rfl ⟨((HB.out.cell (World.block_lt_of_cell? w _ hw199_0)).trans hw199_0), ((HB.out.cell (World.block_lt_of_cell? w _ hw200_0)).trans hw200_0)⟩ (fun hHeld => ?_); refine with_tabW emulsionbook_markedInts.tab4 emulsionbook_markedInts.bits4 (fun HT_ HW_ => ?_)
            generalize wr.drew = w7 at HB HR199_0 HR200_0 hx199_0 hx200_0 hHeld ⊢
            refine pure_ (i := 0) (N := some 10) (v := ?_) (a' := ?_) #[true, false, false, false, false, false, false, false, false, false, false, false, false] rfl rfl (any_of HT_.out (by kernel_rfl)) (fun _ _ _ h => h) (Or.inl ⟨by rfl, ?_⟩) ?_ ?_
            rotate_left
            · intro w'
              go_simp
              with_reducible rfl
            rotate_left
            · simp only [Act.put, List.setIfInBounds_toArray, List.set_cons_zero, List.set_cons_succ, i64_w, i32_w]
              rfl
            refine pure_ (i := 1) (N := some 11) (v := ?_) (a' := ?_) #[true, true, false, false, false, false, false, false, false, false, false, false, false] rfl rfl (any_of HT_.out (by kernel_rfl)) (fun _ _ _ h => h) (Or.inl ⟨by rfl, ?_⟩) ?_ ?_
            rotate_left
            · intro w'
              go_simp
              with_reducible rfl
            rotate_left
            · simp only [Act.put, List.setIfInBounds_toArray, List.set_cons_zero, List.set_cons_succ, i64_w, i32_w]
              rfl
            refine pure_ (i := 2) (N := some 12) (v := ?_) (a' := ?_) #[true, true, true, false, false, false, false, false, false, false, false, false, false] rfl rfl (any_of HT_.out (by kernel_rfl)) (fun _ _ _ h => h) (Or.inl ⟨by rfl, ?_⟩) ?_ ?_
            rotate_left
            · intro w'
              go_simp
              with_reducible rfl
            rotate_left
            · simp only [Act.put, List.setIfInBounds_toArray, List.set_cons_zero, List.set_cons_succ, i64_w, i32_w]
              rfl
            refine pure_ (i := 4) (N := some 14) (v := ?_) (a' := ?_) #[true, true, true, false, true, false, false, false, false, false, false, false, false] rfl rfl (any_of HT_.out (by kernel_rfl)) (fun _ _ _ h => h) (Or.inl ⟨by rfl, ?_⟩) ?_ ?_
            rotate_left
            · intro w'
              go_simp
              with_reducible rfl
            rotate_left
            · simp only [Act.put, List.setIfInBounds_toArray, List.set_cons_zero, List.set_cons_succ, i64_w, i32_w]
              rfl
            refine pure_ (i := 5) (N := some 15) (v := ?_) (a' := ?_) #[true, true, true, false, true, true, false, false, false, false, false, false, false] rfl rfl (any_of HT_.out (by kernel_rfl)) (fun _ _ _ h => h) (Or.inl ⟨by rfl, ?_⟩) ?_ ?_
            rotate_left
            · intro w'
              go_simp
              with_reducible rfl
            rotate_left
            · simp only [Act.put, List.setIfInBounds_toArray, List.set_cons_zero, List.set_cons_succ, i64_w, i32_w]
              rfl
            refine pure_ (i := 6) (N := some 16) (v := ?_) (a' := ?_) #[true, true, true, false, true, true, true, false, false, false, false, false, false] rfl rfl (any_of HT_.out (by kernel_rfl)) (fun _ _ _ h => h) (Or.inl ⟨by rfl, ?_⟩) ?_ ?_
            rotate_left
            · intro w'
              go_simp
              with_reducible rfl
            rotate_left
            · simp only [Act.put, List.setIfInBounds_toArray, List.set_cons_zero, List.set_cons_succ, i64_w, i32_w]
              rfl
            refine pure_ (i := 7) (N := some 17) (v := ?_) (a' := ?_) #[true, true, true, false, true, true, true, true, false, false, false, false, false] rfl rfl (any_of HT_.out (by kernel_rfl)) (fun _ _ _ h => h) (Or.inl ⟨by rfl, ?_⟩) ?_ ?_
            rotate_left
            · intro w'
              go_simp
              with_reducible rfl
            rotate_left
            · simp only [Act.put, List.setIfInBounds_toArray, List.set_cons_zero, List.set_cons_succ, i64_w, i32_w]
              rfl
            refine take_ (i := 3) (N := some 13) (v := ?_) (a' := ?_) #[true, true, true, true, true, true, true, true, false, false, false, false, false] rfl rfl (take_ofW HT_.out HW_.out (by kernel_rfl)) (fun _ _ _ h => h) (Or.inl ⟨by rfl, ?_⟩) hHeld ?_ ?_
            rotate_left
            · rintro w' ⟨s0, s1⟩
              go_simp
              with_reducible rfl
            rotate_left
            · simp only [Act.put, List.setIfInBounds_toArray, List.set_cons_zero, List.set_cons_succ, i64_w, i32_w]
              rfl
            refine take_ (i := 8) (N := some 18) (v := ?_) (a' := ?_) #[true, true, true, true, true, true, true, true, true, false, false, false, false] rfl rfl (take_ofW HT_.out HW_.out (by kernel_rfl)) (fun _ _ _ h => h) (Or.inl ⟨by rfl, ?_⟩) hHeld ?_ ?_
            rotate_left
            · rintro w' ⟨s0, s1⟩
              go_simp
              with_reducible rfl
            rotate_left
            · simp only [Act.put, List.setIfInBounds_toArray, List.set_cons_zero, List.set_cons_succ, i64_w, i32_w]
              rfl
            refine pure_ (i := 9) (N := some 19) (v := ?_) (a' := ?_) #[true, true, true, true, true, true, true, true, true, true, false, false, false] rfl rfl (any_of HT_.out (by kernel_rfl)) (fun _ _ _ h => h) (Or.inl ⟨by rfl, ?_⟩) ?_ ?_
            rotate_left
            · intro w'
              go_simp
              with_reducible rfl
            rotate_left
            · simp only [Act.put, List.setIfInBounds_toArray, List.set_cons_zero, List.set_cons_succ, i64_w, i32_w]
              rfl
            refine one_ (i := 10) (N := some 20) #[true, true, true, true, true, true, true, true, true, true, true, false, false] rfl rfl (one_of HT_.out (by kernel_rfl)) (by decide) (fun K hK => ?_)
            refine goes_ Try.func85 (by kernel_rfl) rfl #[.int .i64 x3_1, .int .i64 0, .int .i64 ((rd_L5 l0 x3_1).length : Int)] (by rfl) rfl rfl (by (try simp only [List.map_toArray, List.map_cons, List.map_nil]); first | done | rfl | (simp only [List.length_drop, List.length_take]; rfl)) ?_
            with_reducible refine (emulsionbook_markInts.calls k1 x3_1 0 ((rd_L5 l0 x3_1).length : Int) t201 _ A4.out).mono ?_
            rintro e w8 ⟨v202, rfl, ho0, hb⟩
            refine ⟨_, rfl, ?_⟩
            have n0_ := Aside0.mk (Kd.R_lower ho0 (below_size (by repeat (first | (with_reducible first | exact HB.out | apply below_alloc | apply pw_below_drewN | apply below_drew1) | exact HB.out))))
            have n1_ := Aside0.mk (below_step (by repeat (first | (with_reducible first | exact HB.out | apply below_alloc | apply pw_below_drewN | apply below_drew1) | exact HB.out)) hb)
            clear HB
            have HO203 := n0_
            have HB := n1_
            clear n0_ n1_
            (try clear hb)
            (try clear hb2)
            (try clear hk)
            (try clear hi)
            (try clear ho0)
            obtain ⟨Ao9, co9, eo9⟩ := Kd.R_slice HO203.out
            (first | subst eo9 | (injection eo9 with f1_ f2_ f3_; have f4_ := f1_.symm; have f5_ := f3_.symm; clear f1_ f2_ f3_; subst f4_; subst f5_))
            refine hK.out _ _ ⟨((HB.out.cell (World.block_lt_of_cell? w _ hw199_0)).trans hw199_0), ((HB.out.cell (World.block_lt_of_cell? w _ hw200_0)).trans hw200_0)⟩ (fun hHeld => ?_)
            clear hK K
            refine norm_ (a' := ?_) ?_ ?_
            rotate_left
            · show Act.put _ (some 20) _ = _
              simp only [Act.put, List.setIfInBounds_toArray, List.set_cons_zero, List.set_cons_succ, i64_w, i32_w]
              rfl
            refine one_ (i := 11) (N := some 21) #[true, true, true, true, true, true, true, true, true, true, true, true, false] rfl rfl (one_of HT_.out (by kernel_rfl)) (by decide) (fun K hK => ?_)
            refine goes_ Try.func78 (by kernel_rfl) rfl #[.slice A199_0 (rd_L5 l0 x3_1).length c199_0, .slice Ao9 t201.length co9] (by rfl) rfl rfl (by (try simp only [List.map_toArray, List.map_cons, List.map_nil]); first | done | rfl | (simp only [List.length_drop, List.length_take]; rfl)) ?_
            with_reducible refine (emulsionbook_SameInts.calls k1 _ _ (rd_L5 l0 x3_1) _ _ t201 true _ ?side1 ?side2 ?side3 ?side4 A5.out).mono ?_
            (case side1 => repeat (first | exact (Kd.C_below HR199_0.out HB.out) | (with_reducible refine Kd.C_alloc ?_ _) | (with_reducible refine Kd.C_drewN ?_ _) | (with_reducible refine Kd.C_drew ?_)))
            (case side2 => exact HC199_0.out)
            (case side3 => repeat (first | exact (Kd.R_reads' HO203.out).2.2 | (with_reducible refine Kd.C_alloc ?_ _) | (with_reducible refine Kd.C_drewN ?_ _) | (with_reducible refine Kd.C_drew ?_)))
            (case side4 => exact (Kd.R_reads' HO203.out).2.1)
            rintro e w' ⟨rfl, ⟨nd, rfl⟩⟩
            refine ⟨_, rfl, ?_⟩
            refine hK.out _ _ ⟨((HB.out.cell (World.block_lt_of_cell? w _ hw199_0)).trans hw199_0), ((HB.out.cell (World.block_lt_of_cell? w _ hw200_0)).trans hw200_0)⟩ (fun hHeld => ?_)
            clear hK K
            refine norm_ (a' := ?_) ?_ ?_
            rotate_left
            · show Act.put _ (some 21) _ = _
              simp only [Act.put, List.setIfInBounds_toArray, List.set_cons_zero, List.set_cons_succ, i64_w, i32_w]
              rfl
            refine pure_ (i := 12) (N := some 22) (v := ?_) (a' := ?_) #[true, true, true, true, true, true, true, true, true, true, true, true, true] rfl rfl (any_of HT_.out (by kernel_rfl)) (fun _ _ _ h => h) (Or.inl ⟨by rfl, ?_⟩) ?_ ?_
            rotate_left
            · intro w'
              go_simp
              with_reducible rfl
            rotate_left
            · simp only [Act.put, List.setIfInBounds_toArray, List.set_cons_zero, List.set_cons_succ, i64_w, i32_w]
              rfl
            refine done_ (done_of HT_.out (by kernel_rfl)) ?_
            try go_wp2
            go_roundg k1
            case measure => have := HK1.out; omega
            case rel => exact ⟨(wrap64 (x3_1 + 1)), (by first | rfl | (simp; done) | (simp [*]; done)), H', ⟨by have := HK1.out; omega⟩, ⟨by repeat (first | (with_reducible first | exact HB.out | apply below_alloc | apply pw_below_drewN | apply below_drew1) | exact HB.out)⟩⟩
          · replace c6 := Bool.eq_false_iff.mpr c6
            subst c6
            have H1 : (some false) = some r := by rw [if_neg (show ¬ (false = true) by decide)] at H; exact H
            clear H
            have H := H1
            clear H1
            obtain rfl := Option.some.inj H
            try go_wp2
            have n0_ := Aside0.mk (below_drew1 HB.out)
            clear HB
            have HB := n0_
            clear n0_
            have p199 : 0 ≤ (x3_1 : Int) := of_decide_eq_true (by first | (with_reducible assumption) | assumption)
            have q199 : x3_1 < (l0.length : Int) := of_decide_eq_true (by first | (with_reducible assumption) | assumption)
            obtain ⟨ad199, A199_0, c199_0, e199, hx199_0, hl199_0, hi199_0⟩ := at_L5 HR0.out x3_1 p199 q199
            have hw199_0 := hx199_0
            cases e199
            replace hx199_0 := (HB.out.cell (World.block_lt_of_cell? w _ hx199_0)).trans hx199_0
            have HR199_0 := Aside0.mk hi199_0
            have HC199_0 := Aside0.mk hl199_0
            clear hi199_0 hl199_0
            replace p199 := eq_true p199
            replace q199 := eq_true q199
            have p200 : 0 ≤ (x3_1 : Int) := of_decide_eq_true (by first | (with_reducible assumption) | assumption)
            have q200 : x3_1 < (l0.length : Int) := of_decide_eq_true (by first | (with_reducible assumption) | assumption)
            obtain ⟨ad200, A200_0, c200_0, e200, hx200_0, hl200_0, hi200_0⟩ := at_L5 HR0.out x3_1 p200 q200
            have hw200_0 := hx200_0
            obtain rfl : ad199 = ad200 := (by injection e200)
            replace hx200_0 := (HB.out.cell (World.block_lt_of_cell? w _ hx200_0)).trans hx200_0
            have HR200_0 := Aside0.mk hi200_0
            have HC200_0 := Aside0.mk hl200_0
            clear hi200_0 hl200_0
            replace p200 := eq_true p200
            replace q200 := eq_true q200
            have ea_ := Option.some.inj (hx199_0.symm.trans hx200_0)
            injection ea_ with ea_ en_ ec_
            subst ea_
            subst ec_
            clear en_
            refine start_ (n := 13) (S := fun w' => w'.cell? (ad199.add (x3_1).toNat) = some (.slice A199_0 (rd_L5 l0 x3_1).length c199_0) ∧ w'.cell? (ad199.add (x3_1).toNat) = some (.slice A199_0 (rd_L5 l0 x3_1).length c199_0)) (ds := []) #[false, false, false, false, false, false, false, false, false, false, false, false, false] (by kernel_rfl) rfl rfl ⟨((HB.out.cell (World.block_lt_of_cell? w _ hw199_0)).trans hw199_0), ((HB.out.cell (World.block_lt_of_cell? w _ hw200_0)).trans hw200_0)⟩ (fun hHeld => ?_); refine with_tabW emulsionbook_markedInts.tab4 emulsionbook_markedInts.bits4 (fun HT_ HW_ => ?_)
            generalize wr.drew = w10 at HB HR199_0 HR200_0 hx199_0 hx200_0 hHeld ⊢
            refine pure_ (i := 0) (N := some 10) (v := ?_) (a' := ?_) #[true, false, false, false, false, false, false, false, false, false, false, false, false] rfl rfl (any_of HT_.out (by kernel_rfl)) (fun _ _ _ h => h) (Or.inl ⟨by rfl, ?_⟩) ?_ ?_
            rotate_left
            · intro w'
              go_simp
              with_reducible rfl
            rotate_left
            · simp only [Act.put, List.setIfInBounds_toArray, List.set_cons_zero, List.set_cons_succ, i64_w, i32_w]
              rfl
            refine pure_ (i := 1) (N := some 11) (v := ?_) (a' := ?_) #[true, true, false, false, false, false, false, false, false, false, false, false, false] rfl rfl (any_of HT_.out (by kernel_rfl)) (fun _ _ _ h => h) (Or.inl ⟨by rfl, ?_⟩) ?_ ?_
            rotate_left
            · intro w'
              go_simp
              with_reducible rfl
            rotate_left
            · simp only [Act.put, List.setIfInBounds_toArray, List.set_cons_zero, List.set_cons_succ, i64_w, i32_w]
              rfl
            refine pure_ (i := 2) (N := some 12) (v := ?_) (a' := ?_) #[true, true, true, false, false, false, false, false, false, false, false, false, false] rfl rfl (any_of HT_.out (by kernel_rfl)) (fun _ _ _ h => h) (Or.inl ⟨by rfl, ?_⟩) ?_ ?_
            rotate_left
            · intro w'
              go_simp
              with_reducible rfl
            rotate_left
            · simp only [Act.put, List.setIfInBounds_toArray, List.set_cons_zero, List.set_cons_succ, i64_w, i32_w]
              rfl
            refine pure_ (i := 4) (N := some 14) (v := ?_) (a' := ?_) #[true, true, true, false, true, false, false, false, false, false, false, false, false] rfl rfl (any_of HT_.out (by kernel_rfl)) (fun _ _ _ h => h) (Or.inl ⟨by rfl, ?_⟩) ?_ ?_
            rotate_left
            · intro w'
              go_simp
              with_reducible rfl
            rotate_left
            · simp only [Act.put, List.setIfInBounds_toArray, List.set_cons_zero, List.set_cons_succ, i64_w, i32_w]
              rfl
            refine pure_ (i := 5) (N := some 15) (v := ?_) (a' := ?_) #[true, true, true, false, true, true, false, false, false, false, false, false, false] rfl rfl (any_of HT_.out (by kernel_rfl)) (fun _ _ _ h => h) (Or.inl ⟨by rfl, ?_⟩) ?_ ?_
            rotate_left
            · intro w'
              go_simp
              with_reducible rfl
            rotate_left
            · simp only [Act.put, List.setIfInBounds_toArray, List.set_cons_zero, List.set_cons_succ, i64_w, i32_w]
              rfl
            refine pure_ (i := 6) (N := some 16) (v := ?_) (a' := ?_) #[true, true, true, false, true, true, true, false, false, false, false, false, false] rfl rfl (any_of HT_.out (by kernel_rfl)) (fun _ _ _ h => h) (Or.inl ⟨by rfl, ?_⟩) ?_ ?_
            rotate_left
            · intro w'
              go_simp
              with_reducible rfl
            rotate_left
            · simp only [Act.put, List.setIfInBounds_toArray, List.set_cons_zero, List.set_cons_succ, i64_w, i32_w]
              rfl
            refine pure_ (i := 7) (N := some 17) (v := ?_) (a' := ?_) #[true, true, true, false, true, true, true, true, false, false, false, false, false] rfl rfl (any_of HT_.out (by kernel_rfl)) (fun _ _ _ h => h) (Or.inl ⟨by rfl, ?_⟩) ?_ ?_
            rotate_left
            · intro w'
              go_simp
              with_reducible rfl
            rotate_left
            · simp only [Act.put, List.setIfInBounds_toArray, List.set_cons_zero, List.set_cons_succ, i64_w, i32_w]
              rfl
            refine take_ (i := 3) (N := some 13) (v := ?_) (a' := ?_) #[true, true, true, true, true, true, true, true, false, false, false, false, false] rfl rfl (take_ofW HT_.out HW_.out (by kernel_rfl)) (fun _ _ _ h => h) (Or.inl ⟨by rfl, ?_⟩) hHeld ?_ ?_
            rotate_left
            · rintro w' ⟨s0, s1⟩
              go_simp
              with_reducible rfl
            rotate_left
            · simp only [Act.put, List.setIfInBounds_toArray, List.set_cons_zero, List.set_cons_succ, i64_w, i32_w]
              rfl
            refine take_ (i := 8) (N := some 18) (v := ?_) (a' := ?_) #[true, true, true, true, true, true, true, true, true, false, false, false, false] rfl rfl (take_ofW HT_.out HW_.out (by kernel_rfl)) (fun _ _ _ h => h) (Or.inl ⟨by rfl, ?_⟩) hHeld ?_ ?_
            rotate_left
            · rintro w' ⟨s0, s1⟩
              go_simp
              with_reducible rfl
            rotate_left
            · simp only [Act.put, List.setIfInBounds_toArray, List.set_cons_zero, List.set_cons_succ, i64_w, i32_w]
              rfl
            refine pure_ (i := 9) (N := some 19) (v := ?_) (a' := ?_) #[true, true, true, true, true, true, true, true, true, true, false, false, false] rfl rfl (any_of HT_.out (by kernel_rfl)) (fun _ _ _ h => h) (Or.inl ⟨by rfl, ?_⟩) ?_ ?_
            rotate_left
            · intro w'
              go_simp
              with_reducible rfl
            rotate_left
            · simp only [Act.put, List.setIfInBounds_toArray, List.set_cons_zero, List.set_cons_succ, i64_w, i32_w]
              rfl
            refine one_ (i := 10) (N := some 20) #[true, true, true, true, true, true, true, true, true, true, true, false, false] rfl rfl (one_of HT_.out (by kernel_rfl)) (by decide) (fun K hK => ?_)
            refine goes_ Try.func85 (by kernel_rfl) rfl #[.int .i64 x3_1, .int .i64 0, .int .i64 ((rd_L5 l0 x3_1).length : Int)] (by rfl) rfl rfl (by (try simp only [List.map_toArray, List.map_cons, List.map_nil]); first | done | rfl | (simp only [List.length_drop, List.length_take]; rfl)) ?_
            with_reducible refine (emulsionbook_markInts.calls k1 x3_1 0 ((rd_L5 l0 x3_1).length : Int) t201 _ A4.out).mono ?_
            rintro e w11 ⟨v202, rfl, ho0, hb⟩
            refine ⟨_, rfl, ?_⟩
            have n0_ := Aside0.mk (Kd.R_lower ho0 (below_size (by repeat (first | (with_reducible first | exact HB.out | apply below_alloc | apply pw_below_drewN | apply below_drew1) | exact HB.out))))
            have n1_ := Aside0.mk (below_step (by repeat (first | (with_reducible first | exact HB.out | apply below_alloc | apply pw_below_drewN | apply below_drew1) | exact HB.out)) hb)
            clear HB
            have HO203 := n0_
            have HB := n1_
            clear n0_ n1_
            (try clear hb)
            (try clear hb2)
            (try clear hk)
            (try clear hi)
            (try clear ho0)
            obtain ⟨Ao12, co12, eo12⟩ := Kd.R_slice HO203.out
            (first | subst eo12 | (injection eo12 with f1_ f2_ f3_; have f4_ := f1_.symm; have f5_ := f3_.symm; clear f1_ f2_ f3_; subst f4_; subst f5_))
            refine hK.out _ _ ⟨((HB.out.cell (World.block_lt_of_cell? w _ hw199_0)).trans hw199_0), ((HB.out.cell (World.block_lt_of_cell? w _ hw200_0)).trans hw200_0)⟩ (fun hHeld => ?_)
            clear hK K
            refine norm_ (a' := ?_) ?_ ?_
            rotate_left
            · show Act.put _ (some 20) _ = _
              simp only [Act.put, List.setIfInBounds_toArray, List.set_cons_zero, List.set_cons_succ, i64_w, i32_w]
              rfl
            refine one_ (i := 11) (N := some 21) #[true, true, true, true, true, true, true, true, true, true, true, true, false] rfl rfl (one_of HT_.out (by kernel_rfl)) (by decide) (fun K hK => ?_)
            refine goes_ Try.func78 (by kernel_rfl) rfl #[.slice A199_0 (rd_L5 l0 x3_1).length c199_0, .slice Ao12 t201.length co12] (by rfl) rfl rfl (by (try simp only [List.map_toArray, List.map_cons, List.map_nil]); first | done | rfl | (simp only [List.length_drop, List.length_take]; rfl)) ?_
            with_reducible refine (emulsionbook_SameInts.calls k1 _ _ (rd_L5 l0 x3_1) _ _ t201 false _ ?side1 ?side2 ?side3 ?side4 A5.out).mono ?_
            (case side1 => repeat (first | exact (Kd.C_below HR199_0.out HB.out) | (with_reducible refine Kd.C_alloc ?_ _) | (with_reducible refine Kd.C_drewN ?_ _) | (with_reducible refine Kd.C_drew ?_)))
            (case side2 => exact HC199_0.out)
            (case side3 => repeat (first | exact (Kd.R_reads' HO203.out).2.2 | (with_reducible refine Kd.C_alloc ?_ _) | (with_reducible refine Kd.C_drewN ?_ _) | (with_reducible refine Kd.C_drew ?_)))
            (case side4 => exact (Kd.R_reads' HO203.out).2.1)
            rintro e w' ⟨rfl, ⟨nd, rfl⟩⟩
            refine ⟨_, rfl, ?_⟩
            refine hK.out _ _ ⟨((HB.out.cell (World.block_lt_of_cell? w _ hw199_0)).trans hw199_0), ((HB.out.cell (World.block_lt_of_cell? w _ hw200_0)).trans hw200_0)⟩ (fun hHeld => ?_)
            clear hK K
            refine norm_ (a' := ?_) ?_ ?_
            rotate_left
            · show Act.put _ (some 21) _ = _
              simp only [Act.put, List.setIfInBounds_toArray, List.set_cons_zero, List.set_cons_succ, i64_w, i32_w]
              rfl
            refine pure_ (i := 12) (N := some 22) (v := ?_) (a' := ?_) #[true, true, true, true, true, true, true, true, true, true, true, true, true] rfl rfl (any_of HT_.out (by kernel_rfl)) (fun _ _ _ h => h) (Or.inl ⟨by rfl, ?_⟩) ?_ ?_
            rotate_left
            · intro w'
              go_simp
              with_reducible rfl
            rotate_left
            · simp only [Act.put, List.setIfInBounds_toArray, List.set_cons_zero, List.set_cons_succ, i64_w, i32_w]
              rfl
            refine done_ (done_of HT_.out (by kernel_rfl)) ?_
            try go_wp2
            go_ret
            exact ⟨by first | rfl | (simp [errW_none, errW_some] <;> rfl) | (simp [*, errW_none, errW_some] <;> rfl), by repeat (first | (with_reducible first | exact HB.out | apply below_alloc | apply pw_below_drewN | apply below_drew1) | exact HB.out)⟩
        · rw [if_neg c3] at H
          exact absurd H (by simp)
      · rw [if_neg c2] at H
        have c2b0 : decide (x3_1 < (l0.length : Int)) = false := decide_eq_false c2
        clear c2
        obtain rfl := Option.some.inj H
        go_wp2
        go_ret
        exact ⟨by first | rfl | (simp [errW_none, errW_some] <;> rfl) | (simp [*, errW_none, errW_some] <;> rfl), by repeat (first | (with_reducible first | exact HB.out | apply below_alloc | apply pw_below_drewN | apply below_drew1) | exact HB.out)⟩
end Go.Proofs.Ytjbimnicnehnaaa.A
end
