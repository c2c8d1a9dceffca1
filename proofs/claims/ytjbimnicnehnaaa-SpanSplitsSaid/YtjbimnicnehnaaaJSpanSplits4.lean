/- Parts of the proof for SpanSplits: Tidy, SetsB, Row, Ax9, Ax10, SpanT, Runs, Ax12, SetEq, Abs, SetSp, BookG, BookF, BookS, Ax16, Ax17, Ax18, Ax19, Ax2, Ax20, Ax21, BookL, BookT, BookN, BookP, BookR, BookW. -/
import Derived.ChangeKeysEq
import Derived.Test.YtjbimnicnehnaaaJSpanSplits3
import Derived.Test.YtjbimnicnehnaaaJSpanSplits2
section
namespace Go.Proofs.Ytjbimnicnehnaaa.Hand
open Go.RowKit Go.Proofs.YtjbimnicnehnaaaW.PrintWords Go.Proofs.Ytjbimnicnehnaaa.A
set_option linter.unusedVariables false
set_option linter.unusedSimpArgs false
instance decS : DecidableEq S24 := fun a b => decidable_of_iff (a.f0 = b.f0 ∧ a.f1 = b.f1) ⟨fun h => by cases a; cases b; simp_all, fun h => by rw [h]; exact ⟨rfl, rfl⟩⟩
/-- Blocks that a list of spans has. -/
def inSp (x : S24) (k : Int) : Prop := x.f0 ≤ k ∧ k < x.f0 + x.f1
def mem (l : List S24) (k : Int) : Prop := ∃ x ∈ l, inSp x k
/-- As few spans as may be, rising, from a place on. -/
def Tidy : Int → List S24 → Prop
  | _, [] => True
  | lo, x :: l => lo ≤ x.f0 ∧ 1 ≤ x.f1 ∧ x.f0 + x.f1 ≤ 64 ∧ Tidy (x.f0 + x.f1 + 1) l
theorem mem_nil (k : Int) : ¬ mem [] k := fun ⟨_, h, _⟩ => by simp at h
theorem mem_cons (x : S24) (l : List S24) (k : Int) : mem (x :: l) k ↔ inSp x k ∨ mem l k := by
  unfold mem; simp
theorem mem_append (a b : List S24) (k : Int) : mem (a ++ b) k ↔ mem a k ∨ mem b k := by
  unfold mem
  constructor
  · rintro ⟨x, h, hk⟩
    rcases List.mem_append.1 h with h | h
    · exact .inl ⟨x, h, hk⟩
    · exact .inr ⟨x, h, hk⟩
  · rintro (⟨x, h, hk⟩ | ⟨x, h, hk⟩)
    · exact ⟨x, List.mem_append.2 (.inl h), hk⟩
    · exact ⟨x, List.mem_append.2 (.inr h), hk⟩
theorem Tidy.lo : ∀ {l : List S24} {lo lo' : Int}, Tidy lo l → lo' ≤ lo → Tidy lo' l
  | [], _, _, _, _ => trivial
  | _ :: _, _, _, ⟨h1, h2, h3, h4⟩, h => ⟨by omega, h2, h3, h4⟩
theorem Tidy.ge : ∀ {l : List S24} {lo k : Int}, Tidy lo l → mem l k → lo ≤ k ∧ k < 64
  | [], _, k, _, h => absurd h (mem_nil k)
  | x :: l, lo, k, ⟨h1, h2, h3, h4⟩, h => by
    rcases (mem_cons x l k).1 h with h | h
    · unfold inSp at h; omega
    · have := h4.ge h; omega
theorem Tidy.ext : ∀ {l l' : List S24} {lo lo' : Int}, Tidy lo l → Tidy lo' l' → (∀ k, mem l k ↔ mem l' k) → l = l'
  | [], [], _, _, _, _, _ => rfl
  | [], y :: l', _, _, _, ⟨_, h2, _, _⟩, h => absurd ((h y.f0).2 ((mem_cons y l' _).2 (.inl ⟨by omega, by omega⟩))) (mem_nil _)
  | x :: l, [], _, _, ⟨_, h2, _, _⟩, _, h => absurd ((h x.f0).1 ((mem_cons x l _).2 (.inl ⟨by omega, by omega⟩))) (mem_nil _)
  | x :: l, y :: l', lo, lo', ⟨_, h2, h3, h4⟩, ⟨_, g2, g3, g4⟩, h => by
    have lox : ∀ k, mem (x :: l) k → x.f0 ≤ k := fun k hk => by
      rcases (mem_cons x l k).1 hk with hk | hk
      · exact hk.1
      · have := h4.ge hk; omega
    have loy : ∀ k, mem (y :: l') k → y.f0 ≤ k := fun k hk => by
      rcases (mem_cons y l' k).1 hk with hk | hk
      · exact hk.1
      · have := g4.ge hk; omega
    have e0 : x.f0 = y.f0 := by
      have a := loy _ ((h x.f0).1 ((mem_cons x l _).2 (.inl ⟨by omega, by omega⟩)))
      have b := lox _ ((h y.f0).2 ((mem_cons y l' _).2 (.inl ⟨by omega, by omega⟩)))
      omega
    have nx : ¬ mem (x :: l) (x.f0 + x.f1) := fun hk => by
      rcases (mem_cons x l _).1 hk with hk | hk
      · unfold inSp at hk; omega
      · have := h4.ge hk; omega
    have ny : ¬ mem (y :: l') (y.f0 + y.f1) := fun hk => by
      rcases (mem_cons y l' _).1 hk with hk | hk
      · unfold inSp at hk; omega
      · have := g4.ge hk; omega
    have e1 : x.f1 = y.f1 := by
      rcases Int.lt_trichotomy x.f1 y.f1 with hlt | he | hgt
      · exact absurd ((h (x.f0 + x.f1)).2 ((mem_cons y l' _).2 (.inl ⟨by omega, by omega⟩))) nx
      · exact he
      · exact absurd ((h (y.f0 + y.f1)).1 ((mem_cons x l _).2 (.inl ⟨by omega, by omega⟩))) ny
    have e : x = y := by cases x; cases y; simp_all
    subst e
    have hl : l = l' := Tidy.ext h4 g4 (fun k => by
      constructor
      · intro hk
        have hge := h4.ge hk
        rcases (mem_cons x l' k).1 ((h k).1 ((mem_cons x l k).2 (.inr hk))) with hh | hh
        · unfold inSp at hh; omega
        · exact hh
      · intro hk
        have hge := g4.ge hk
        rcases (mem_cons x l k).1 ((h k).2 ((mem_cons x l' k).2 (.inr hk))) with hh | hh
        · unfold inSp at hh; omega
        · exact hh)
    rw [hl]
/-- A tidy list whose blocks all end ahead of a place, and more behind it. -/
def Ends (l : List S24) (p : Int) : Prop := ∀ x ∈ l, x.f0 + x.f1 ≤ p
theorem Tidy.snoc : ∀ {l : List S24} {lo : Int} {s : S24}, Tidy lo l → lo ≤ s.f0 → 1 ≤ s.f1 → s.f0 + s.f1 ≤ 64 → Ends l (s.f0 - 1) → Tidy lo (l ++ [s])
  | [], _, _, _, h0, h1, h2, _ => ⟨h0, h1, h2, trivial⟩
  | x :: l, lo, s, ⟨g1, g2, g3, g4⟩, h0, h1, h2, he => ⟨g1, g2, g3, g4.snoc (by have := he x (by simp); omega) h1 h2 (fun y hy => he y (by simp [hy]))⟩
theorem Ends.snoc {l : List S24} {p q : Int} {s : S24} (h : Ends l p) (hq : p ≤ q) (hs : s.f0 + s.f1 ≤ q) : Ends (l ++ [s]) q := by
  intro x hx
  rcases List.mem_append.1 hx with hx | hx
  · have := h x hx; omega
  · have : x = s := by simpa using hx
    subst this; exact hs
theorem Ends.mono {l : List S24} {p q : Int} (h : Ends l p) (hq : p ≤ q) : Ends l q := fun x hx => by have := h x hx; omega
/-- The state of add's loop: the span, whether it has been put, what has been put. -/
def joined (x s : S24) : S24 := ⟨min x.f0 s.f0, max (x.f0 + x.f1) (s.f0 + s.f1) - min x.f0 s.f0⟩
def addStep (t : S24 × Bool × List S24) (x : S24) : S24 × Bool × List S24 :=
  if touches x.f0 x.f1 t.1.f0 t.1.f1 then (joined x t.1, t.2.1, t.2.2)
  else if t.2.1 = false ∧ t.1.f0 < x.f0 then (t.1, true, t.2.2 ++ [t.1] ++ [x])
  else (t.1, t.2.1, t.2.2 ++ [x])
/-- What holds behind some of the list: p is where it ended. -/
def AddInv (M : Int → Prop) (p : Int) (t : S24 × Bool × List S24) : Prop :=
  Tidy 0 t.2.2 ∧ Ends t.2.2 p ∧ wh t.1.f0 t.1.f1 ∧
  ((t.2.1 = false ∧ Ends t.2.2 (t.1.f0 - 1) ∧ ∀ k, (mem t.2.2 k ∨ inSp t.1 k) ↔ M k) ∨
   (t.2.1 = true ∧ t.1.f0 + t.1.f1 ≤ p ∧ ∀ k, mem t.2.2 k ↔ M k))
theorem AddInv.step {M : Int → Prop} {p : Int} {t : S24 × Bool × List S24} {x : S24} (h : AddInv M p t) (hx0 : p + 1 ≤ x.f0 ∨ (p = -1 ∧ 0 ≤ x.f0)) (hx1 : 1 ≤ x.f1) (hx2 : x.f0 + x.f1 ≤ 64) (hp : -1 ≤ p) :
    AddInv (fun k => M k ∨ inSp x k) (x.f0 + x.f1) (addStep t x) := by
  obtain ⟨s, d, o⟩ := t
  obtain ⟨h1, h2, h3, h4⟩ := h
  simp only at h1 h2 h3 h4
  have hx0' : 0 ≤ x.f0 := by omega
  have hpx : p + 1 ≤ x.f0 := by omega
  unfold addStep
  simp only
  by_cases ht : touches x.f0 x.f1 s.f0 s.f1
  · rw [if_pos ht]
    have ht' := ht
    unfold touches wh at ht'
    refine ⟨h1, h2.mono (by omega), by unfold wh joined; simp only; omega, ?_⟩
    rcases h4 with ⟨hd, he, hm⟩ | ⟨hd, he, hm⟩
    · refine .inl ⟨hd, fun y hy => ?_, fun k => ?_⟩
      · have a := he y hy
        have b := h2 y hy
        unfold joined; simp only; omega
      · have hmk := hm k
        simp only at hmk ⊢
        rw [← hmk]
        unfold joined inSp
        simp only
        constructor
        · rintro (h | h)
          · exact .inl (.inl h)
          · by_cases hk : s.f0 ≤ k ∧ k < s.f0 + s.f1
            · exact .inl (.inr hk)
            · exact .inr (by omega)
        · rintro ((h | h) | h)
          · exact .inl h
          · exact .inr (by omega)
          · exact .inr (by omega)
    · omega
  · rw [if_neg ht]
    unfold touches wh at ht
    unfold wh at h3
    by_cases hb : d = false ∧ s.f0 < x.f0
    · rw [if_pos hb]
      rcases h4 with ⟨hd, he, hm⟩ | ⟨hd, he, hm⟩
      · have hsx : s.f0 + s.f1 < x.f0 := by omega
        refine ⟨(h1.snoc h3.1 h3.2.1 h3.2.2 he).snoc hx0' hx1 hx2 (he.snoc (by omega) (by omega)), (he.snoc (q := x.f0 + x.f1) (by omega) (by omega)).snoc (Int.le_refl _) (Int.le_refl _), h3, .inr ⟨rfl, by simp only; omega, fun k => ?_⟩⟩
        have hmk := hm k
        simp only at hmk ⊢
        rw [mem_append, mem_append, mem_cons, mem_cons, ← hmk]
        have := mem_nil k
        simp only [this, or_false]
      · rw [hb.1] at hd; cases hd
    · rw [if_neg hb]
      rcases h4 with ⟨hd, he, hm⟩ | ⟨hd, he, hm⟩
      · have hsx : x.f0 + x.f1 < s.f0 := by
          have : ¬ s.f0 < x.f0 := fun z => hb ⟨hd, z⟩
          omega
        refine ⟨h1.snoc hx0' hx1 hx2 (h2.mono (by omega)), h2.snoc (by omega) (Int.le_refl _), h3, .inl ⟨hd, ?_, fun k => ?_⟩⟩
        · show Ends (o ++ [x]) (s.f0 - 1)
          exact (h2.mono (q := s.f0 - 1) (by omega)).snoc (Int.le_refl _) (by omega)
        · have hmk := hm k
          simp only at hmk ⊢
          rw [mem_append, mem_cons, ← hmk]
          have := mem_nil k
          simp only [this, or_false]
          constructor
          · rintro ((h | h) | h)
            · exact .inl (.inl h)
            · exact .inr h
            · exact .inl (.inr h)
          · rintro ((h | h) | h)
            · exact .inl (.inl h)
            · exact .inr h
            · exact .inl (.inr h)
      · refine ⟨h1.snoc hx0' hx1 hx2 (h2.mono (by omega)), h2.snoc (by omega) (Int.le_refl _), h3, .inr ⟨hd, by simp only; omega, fun k => ?_⟩⟩
        have hmk := hm k
        show mem (o ++ [x]) k ↔ M k ∨ inSp x k
        rw [← hmk, mem_append, mem_cons]
        have := mem_nil k
        simp only [this, or_false]
/-- How many blocks. -/
def sumN (l : List S24) : Int := (l.map (·.f1)).sum
theorem sumN_cons (x : S24) (l : List S24) : sumN (x :: l) = x.f1 + sumN l := by unfold sumN; simp
theorem sumN_append (a b : List S24) : sumN (a ++ b) = sumN a + sumN b := by unfold sumN; simp
theorem Tidy.sum : ∀ {l : List S24} {lo : Int}, lo ≤ 65 → Tidy lo l → 0 ≤ sumN l ∧ sumN l ≤ 65 - lo
  | [], lo, h, _ => by simp [sumN]; omega
  | x :: l, lo, h, ⟨h1, h2, h3, h4⟩ => by have := h4.sum (by omega); rw [sumN_cons]; omega
theorem Tidy.length : ∀ {l : List S24} {lo : Int}, lo ≤ 65 → Tidy lo l → (l.length : Int) ≤ 65 - lo
  | [], lo, h, _ => by simp; omega
  | x :: l, lo, h, ⟨h1, h2, h3, h4⟩ => by have := h4.length (by omega); rw [List.length_cons]; omega
theorem Tidy.whole : ∀ {l : List S24} {lo : Int}, 0 ≤ lo → Tidy lo l → ∀ x ∈ l, wh x.f0 x.f1
  | [], _, _, _, x, hx => by simp at hx
  | y :: l, lo, h, ⟨h1, h2, h3, h4⟩, x, hx => by
    rcases List.mem_cons.1 hx with rfl | hx
    · unfold wh; omega
    · exact h4.whole (by omega) x hx
theorem Tidy.take : ∀ {l : List S24} {lo : Int} (n : Nat), Tidy lo l → Tidy lo (l.take n)
  | [], _, _, _ => by simp [Tidy]
  | x :: l, _, 0, _ => trivial
  | x :: l, _, n + 1, ⟨h1, h2, h3, h4⟩ => ⟨h1, h2, h3, h4.take n⟩
/-- A set of blocks, as a list of bools, as spans. -/
def spansFrom (s : List Bool) : Nat → Nat → List S24
  | _, 0 => []
  | k, n + 1 => if s.getD k false then
      match spansFrom s (k + 1) n with
      | y :: r => if y.f0 = ((k + 1 : Nat) : Int) then ⟨(k : Int), y.f1 + 1⟩ :: r else ⟨(k : Int), 1⟩ :: y :: r
      | [] => [⟨(k : Int), 1⟩]
    else spansFrom s (k + 1) n
theorem spansFrom_spec (s : List Bool) : ∀ (n k : Nat), k + n ≤ 64 → Tidy (k : Int) (spansFrom s k n) ∧ ∀ j : Int, mem (spansFrom s k n) j ↔ (k : Int) ≤ j ∧ j < k + n ∧ s.getD j.toNat false = true
  | 0, k, _ => ⟨trivial, fun j => by simp only [spansFrom, mem_nil, false_iff]; omega⟩
  | n + 1, k, h => by
    obtain ⟨g1, g2⟩ := spansFrom_spec s n (k + 1) (by omega)
    unfold spansFrom
    by_cases c : s.getD k false = true
    · rw [if_pos c]
      cases hl : spansFrom s (k + 1) n with
      | nil =>
        rw [hl] at g2
        refine ⟨⟨Int.le_refl _, by simp only; omega, by simp only; omega, trivial⟩, fun j => ?_⟩
        have := g2 j
        rw [mem_cons]
        have hn := mem_nil j
        simp only [hn, or_false, false_iff] at this ⊢
        unfold inSp
        simp only
        constructor
        · intro hj
          obtain rfl : j = k := by omega
          exact ⟨by omega, by omega, by simpa using c⟩
        · rintro ⟨a, b, d⟩
          by_cases hj : j = k
          · omega
          · exact absurd ⟨by omega, by omega, d⟩ this
      | cons y r =>
        rw [hl] at g1 g2
        obtain ⟨t1, t2, t3, t4⟩ := g1
        have key : ∀ j : Int, (mem (y :: r) j ∨ j = k) ↔ (k : Int) ≤ j ∧ j < k + (n + 1 : Nat) ∧ s.getD j.toNat false = true := by
          intro j
          rw [g2 j]
          constructor
          · rintro (⟨a, b, d⟩ | rfl)
            · exact ⟨by omega, by omega, d⟩
            · exact ⟨by omega, by omega, by simpa using c⟩
          · rintro ⟨a, b, d⟩
            by_cases hj : j = k
            · exact .inr hj
            · exact .inl ⟨by omega, by omega, d⟩
        simp only
        by_cases e : y.f0 = ((k + 1 : Nat) : Int)
        · rw [if_pos e]
          refine ⟨⟨Int.le_refl _, by simp only; omega, by simp only; omega, t4.lo (by simp only; omega)⟩, fun j => ?_⟩
          rw [← key j, mem_cons, mem_cons]
          unfold inSp
          simp only
          constructor
          · rintro (a | a)
            · by_cases hj : j = k
              · exact .inr hj
              · exact .inl (.inl (by omega))
            · exact .inl (.inr a)
          · rintro ((a | a) | a)
            · exact .inl (by omega)
            · exact .inr a
            · exact .inl (by omega)
        · rw [if_neg e]
          refine ⟨⟨Int.le_refl _, by simp only; omega, by simp only; omega, ?_, t2, t3, t4⟩, fun j => ?_⟩
          · simp only; omega
          · rw [← key j, mem_cons]
            unfold inSp
            simp only
            constructor
            · rintro (a | a)
              · exact .inr (by omega)
              · exact .inl a
            · rintro (a | a)
              · exact .inr a
              · exact .inl (by omega)
    · rw [if_neg c]
      refine ⟨g1.lo (by omega), fun j => ?_⟩
      rw [g2 j]
      constructor
      · rintro ⟨a, b, d⟩
        exact ⟨by omega, by omega, d⟩
      · rintro ⟨a, b, d⟩
        by_cases hj : j = k
        · subst hj; simp at d; simp [d] at c
        · exact ⟨by omega, by omega, d⟩
def spansOf (s : List Bool) : List S24 := spansFrom s 0 64
theorem spansOf_tidy (s : List Bool) : Tidy 0 (spansOf s) := (spansFrom_spec s 64 0 (by decide)).1
theorem spansOf_mem (s : List Bool) (j : Int) : mem (spansOf s) j ↔ 0 ≤ j ∧ j < 64 ∧ s.getD j.toNat false = true := by
  have := (spansFrom_spec s 64 0 (by decide)).2 j
  rw [spansOf, this]; simp
/-- A tidy list is the set that has its blocks. -/
theorem tidy_eq {l : List S24} {s : List Bool} (h : Tidy 0 l) (hm : ∀ k : Nat, k < 64 → (mem l k ↔ s.getD k false = true)) : l = spansOf s :=
  h.ext (spansOf_tidy s) (fun j => by
    rw [spansOf_mem]
    constructor
    · intro hj
      have := h.ge hj
      obtain ⟨q, rfl⟩ := Int.eq_ofNat_of_zero_le this.1
      exact ⟨by omega, by omega, by rw [Int.toNat_natCast]; exact (hm q (by omega)).1 hj⟩
    · rintro ⟨a, b, c⟩
      obtain ⟨q, rfl⟩ := Int.eq_ofNat_of_zero_le a
      exact (hm q (by omega)).2 (by rwa [Int.toNat_natCast] at c))
end Go.Proofs.Ytjbimnicnehnaaa.Hand
end
section
namespace Go.Proofs.Ytjbimnicnehnaaa.Hand
open Go.RowKit Go.Proofs.YtjbimnicnehnaaaW.PrintWords Go.Proofs.Ytjbimnicnehnaaa.A
set_option linter.unusedVariables false
theorem setN_get (s : List Bool) (f : Nat) (on : Bool) (k : Nat) : ∀ m, f + m ≤ s.length → (setN s f on m).getD k false = if f ≤ k ∧ k < f + m then on else s.getD k false
  | 0, _ => by rw [if_neg (by omega)]; rfl
  | m + 1, h => by
    have ih := setN_get s f on k m (by omega)
    have hl := setN_length s f on m
    show ((setN s f on m).set (f + m) on).getD k false = _
    rw [List.getD_eq_getElem?_getD, List.getElem?_set]
    by_cases hk : f + m = k
    · rw [if_pos hk, if_pos (by omega), if_pos (by omega)]; rfl
    · rw [if_neg hk, ← List.getD_eq_getElem?_getD, ih]
      by_cases h2 : f ≤ k ∧ k < f + m
      · rw [if_pos h2, if_pos (by omega)]
      · rw [if_neg h2, if_neg (by omega)]
theorem putOne_get (s : List Bool) (x : S24) (on : Bool) (k : Nat) (hs : s.length = 64) : (putOne s x on).getD k false = if wh x.f0 x.f1 ∧ x.f0 ≤ k ∧ (k : Int) < x.f0 + x.f1 then on else s.getD k false := by
  unfold putOne
  by_cases h : wh x.f0 x.f1
  · have h' := h
    unfold wh at h'
    rw [if_pos h, setN_get _ _ _ _ _ (by omega)]
    by_cases h2 : x.f0 ≤ k ∧ (k : Int) < x.f0 + x.f1
    · rw [if_pos (by omega), if_pos ⟨h, h2⟩]
    · rw [if_neg (by omega), if_neg (fun z => h2 z.2)]
  · rw [if_neg h, if_neg (fun z => h z.1)]
abbrev none64 : List Bool := List.replicate 64 false
theorem none64_get (k : Nat) : none64.getD k false = false := by
  rw [List.getD_eq_getElem?_getD, List.getElem?_replicate]; split <;> rfl
end Go.Proofs.Ytjbimnicnehnaaa.Hand
end
section
namespace Go.Proofs.Ytjbimnicnehnaaa.Hand
open Go.RowKit Go.Proofs.YtjbimnicnehnaaaW.PrintWords Go.Proofs.YtjbimnicnehnaaaW.PrintLast Go.Proofs.YtjbimnicnehnaaaW.PrintMore Go.Proofs.Ytjbimnicnehnaaa.A
set_option linter.unusedVariables false
set_option linter.unusedSimpArgs false
/-- The cells of spans. -/
def flat (l : List S24) : List Value := l.flatMap fun x => [.int .i64 x.f0, .int .i64 x.f1]
theorem flat_cons (x : S24) (l : List S24) : flat (x :: l) = .int .i64 x.f0 :: .int .i64 x.f1 :: flat l := rfl
theorem flat_append (a b : List S24) : flat (a ++ b) = flat a ++ flat b := by unfold flat; rw [List.flatMap_append]
theorem flat_length : ∀ l : List S24, (flat l).length = l.length * 2
  | [] => rfl
  | x :: l => by rw [flat_cons, List.length_cons, List.length_cons, flat_length l, List.length_cons]; omega
theorem flat_get : ∀ (l : List S24) (i : Nat) (x : S24), l[i]? = some x → (flat l)[i * 2]? = some (.int .i64 x.f0) ∧ (flat l)[i * 2 + 1]? = some (.int .i64 x.f1)
  | [], i, x, h => by simp at h
  | y :: l, 0, x, h => by
    injection h with h; subst h
    exact ⟨rfl, rfl⟩
  | y :: l, i + 1, x, h => by
    have := flat_get l i x (by simpa using h)
    rw [flat_cons, show (i + 1) * 2 = i * 2 + 1 + 1 by omega]
    exact this
/-- A row of spans of one's own, from a block on. -/
abbrev ORow (w : World) (base : Nat) (v : Value) (l : List S24) : Prop := w.ownsRow base 24 2 v l.length (flat l)
theorem ORow.nil (w : World) (base : Nat) : ORow w base (.slice none 0 0) [] := World.ownsRow_nil w base _ 2
theorem ORow.reads {w : World} {base : Nat} {v : Value} {l : List S24} (h : ORow w base v l) : ∃ A c, v = .slice A l.length c ∧ l.length ≤ c ∧ Kd.C k24 w A l.length l ∧ v.ownBlock = A.map (·.block) := by
  rcases h.2 with ⟨rfl, h0⟩ | ⟨g, cap, cur, rfl, hb, hh, hn, hm, hs, ht⟩
  · obtain rfl : l = [] := List.eq_nil_of_length_eq_zero h0
    exact ⟨none, 0, rfl, Nat.le_refl _, ⟨rfl, by decide, fun h => by simp at h⟩, rfl⟩
  · refine ⟨some ⟨g, 0, none⟩, cap, rfl, hn, ⟨rfl, Nat.le_trans hn hm, fun _ => ⟨_, rfl, fun j x hj => ⟨[.int .i64 x.f0, .int .i64 x.f1], rfl, k24_mk w x, fun q u hq => ?_⟩⟩⟩, rfl⟩
    have hc := h.cells (g := g) rfl
    obtain ⟨g0, g1⟩ := flat_get l j x hj
    match q, hq with
    | 0, hq => injection hq with hq; subst hq; exact hc _ _ g0
    | 1, hq => injection hq with hq; subst hq; exact hc _ _ g1
    | q + 2, hq => simp at hq
theorem ORow.opened {w : World} {base : Nat} {v : Value} {l : List S24} (h : ORow w base v l) (h0 : 0 < l.length) : ∃ g c, v = .slice (some ⟨g, 0, none⟩) l.length c ∧ l.length ≤ c ∧ base ≤ g ∧ g < w.heap.size ∧ (∀ i x, l[i]? = some x → w.cell? ⟨g, i * 2, none⟩ = some (.int .i64 x.f0) ∧ w.cell? ⟨g, i * 2 + 1, none⟩ = some (.int .i64 x.f1)) ∧ ∀ i, w.frozen? ⟨g, i, none⟩ = false := by
  rcases h.2 with ⟨_, h1⟩ | ⟨g, cap, cur, rfl, hb, hh, hn, hm, hs, ht⟩
  · omega
  · refine ⟨g, cap, rfl, hn, hb, (Array.getElem?_eq_some_iff.1 hh).1, fun i x hx => ?_, fun i => frozen_of_row w g i cur _ hh⟩
    have hil : i < l.length := by
      rcases Nat.lt_or_ge i l.length with h | h
      · exact h
      · rw [List.getElem?_eq_none h] at hx; cases hx
    obtain ⟨g0, g1⟩ := flat_get l i x hx
    exact ⟨(World.ownsRow.cellAt h (i * 2) (by omega)).trans g0, (World.ownsRow.cellAt h (i * 2 + 1) (by omega)).trans g1⟩
theorem ORow.below {w w1 : World} {base : Nat} {v : Value} {l : List S24} (h : ORow w base v l) (hb : Below w.heap.size w w1) : ORow w1 base v l := own_move h (fun k hk => hb.block k (own_lt h k hk))
theorem ORow.only {w w1 : World} {base g : Nat} {v : Value} {l : List S24} (h : ORow w base v l) (ho : Only w w1 g) (hne : v.ownBlock ≠ some g) : ORow w1 base v l :=
  own_move h (fun k hk => ho.block k (own_lt h k hk) (fun e => hne (by rw [hk]; exact e)))
theorem ORow.far {w : World} {base : Nat} {v : Value} {l : List S24} (h : ORow w base v l) {p : Addr} (hne : v.ownBlock ≠ some p.block) (u : Value) : ORow (w.setCell p u) base v l :=
  own_move h (fun k hk => Below.heap_setCell w p u k (fun e => hne (by rw [hk, e])))
/-- By types: a block of another type is not the row's. -/
theorem ORow.ne {w : World} {base g t : Nat} {v : Value} {l : List S24} {cs : Array Value} (h : ORow w base v l) (hb : Blk w g t cs) (ht : 24 ≠ t) : v.ownBlock ≠ some g := fun e => own_ne h hb.hd ht e.symm
theorem reps_flat : ∀ (l : List S24) (inner : List Value) (w : World) (base : Nat) (ok : Nat → Prop), Reps (k24.M w base ok) 2 l inner → inner = flat l := by
  intro l inner w base ok h
  apply List.ext_getElem?
  intro j
  have hl : inner.length = l.length * 2 := h.1
  by_cases hj : j < l.length * 2
  · obtain ⟨i, hi⟩ : ∃ i, j = i * 2 ∨ j = i * 2 + 1 := ⟨j / 2, by omega⟩
    have hil : i < l.length := by omega
    have hx : l[i]? = some l[i] := List.getElem?_eq_getElem hil
    have hm := k24_openM (h.2 i l[i] hx)
    obtain ⟨g0, g1⟩ := flat_get l i l[i] hx
    have e : ∀ q, q < 2 → inner[i * 2 + q]? = (((inner.drop (i * 2)).take 2))[q]? := by
      intro q hq
      rw [List.getElem?_take, if_pos hq, List.getElem?_drop]
    rcases hi with rfl | rfl
    · rw [g0, show i * 2 = i * 2 + 0 by omega, e 0 (by omega), hm]; rfl
    · rw [g1, e 1 (by omega), hm]; rfl
  · rw [List.getElem?_eq_none (by omega), List.getElem?_eq_none (by rw [flat_length]; omega)]
theorem flat_reps (w : World) (base : Nat) (ok : Nat → Prop) : ∀ l : List S24, Reps (k24.M w base ok) 2 l (flat l)
  | [] => Reps.none _ _
  | x :: l => by
    have ih := flat_reps w base ok l
    refine ⟨flat_length _, fun j p hj => ?_⟩
    cases j with
    | zero => injection hj with hj; subst hj; exact k24_mkM _ _ _ _
    | succ j =>
      have := ih.2 j p (by simpa using hj)
      rw [flat_cons, show (j + 1) * 2 = j * 2 + 1 + 1 by omega]
      exact this
theorem ORow.to_R {w : World} {base : Nat} {v : Value} {l : List S24} (h : ORow w base v l) : Kd.R k24 24 w base (fun _ => True) v l :=
  ⟨fun _ _ => trivial, flat l, h, flat_reps _ _ _ l⟩
theorem ORow.of_R {w : World} {base : Nat} {ok : Nat → Prop} {v : Value} {l : List S24} (h : Kd.R k24 24 w base ok v l) : ORow w base v l := by
  obtain ⟨_, inner, ho, hr⟩ := h
  have := reps_flat l inner _ _ _ hr
  subst this
  exact ho
theorem Blk.grown {w w1 : World} {g t : Nat} {cs : Array Value} {row : Option Nat} (h : Blk w g t cs) (hg : w.grownBy w1 row) (hne : row ≠ some g) : Blk w1 g t cs := (hg.block g h.lt (fun e => hne e.symm)).trans h
theorem ORow.snoc {w : World} {base : Nat} {v : Value} {l : List S24} {p q : Int} (h : w.ownsRow base 24 2 v (l.length + 1) (flat l ++ [.int .i64 p, .int .i64 q])) : ORow w base v (l ++ [⟨p, q⟩]) := by
  unfold ORow; rw [flat_append, List.length_append]; exact h
theorem info24' : (Try.prog.info? 24).map (fun i => (i.zero, i.size, i.bytes)) = some (some (.agg #[.int .i64 0, .int .i64 0]), 2, 16) := by kernel_rfl
end Go.Proofs.Ytjbimnicnehnaaa.Hand
end
section
namespace Go.Proofs.Ytjbimnicnehnaaa.A
open Go.RowKit Go.Proofs.YtjbimnicnehnaaaW.PrintWords Go.Proofs.YtjbimnicnehnaaaW.PrintLast Go.Proofs.YtjbimnicnehnaaaW.PrintMore
attribute [local go_sem] max2_int min2_int max_two min_two max_three min_three max_four min_four   -- for this text's walks alone
set_option linter.unusedVariables false
set_option linter.unusedSimpArgs false
def span_Join.T3 : Bool × List (List Nat × List Nat) := (true, [([], []), ([0], [0]), ([], []), ([2], [2]), ([1, 3], [1, 3]), ([], []), ([5], [5]), ([], []), ([7, 6], [7]), ([6, 8], [6, 8]), ([4, 9, 8], [4, 9]), ([10], [10]), ([10], [10]), ([11, 10, 0, 1, 2, 3, 4, 5, 6, 7, 8, 9, 10, 11, 12], [11]), ([12, 13, 0, 1, 2, 3, 4, 5, 6, 7, 8, 9, 10, 11, 12, 13], [12])])
def span_Join.B3 : List Nat := [0, 1, 0, 4, 15, 0, 32, 0, 224, 480, 1023, 2047, 2047, 8191, 16383]
theorem span_Join.tab3 : rtab .any (opsOf Try.f21 3) = span_Join.T3 := by kernel_rfl
theorem span_Join.bits3 : waitsOk span_Join.T3.2 span_Join.B3 = true := by kernel_rfl
end Go.Proofs.Ytjbimnicnehnaaa.A
end
section
namespace Go.Proofs.Ytjbimnicnehnaaa.Hand
open Go.RowKit Go.Proofs.YtjbimnicnehnaaaW.PrintWords Go.Proofs.YtjbimnicnehnaaaW.PrintLast Go.Proofs.YtjbimnicnehnaaaW.PrintMore Go.Proofs.Ytjbimnicnehnaaa.A
set_option linter.unusedVariables false
set_option linter.unusedSimpArgs false
attribute [local go_sem] max2_int min2_int max_two min_two max_three min_three max_four min_four
/-- A set of blocks that is there: its spans. -/
def RunsAt (w : World) (base g : Nat) (l : List S24) : Prop := ∃ v, Blk w g 86 #[v] ∧ ORow w base v l
section
variable {w w1 : World} {base g : Nat} {l : List S24}
theorem RunsAt.lt (h : RunsAt w base g l) : g < w.heap.size := by obtain ⟨v, hb, _⟩ := h; exact hb.lt
theorem RunsAt.keep (h : RunsAt w base g l) (hB : Below w.heap.size w w1) : RunsAt w1 base g l := by
  obtain ⟨v, hb, ho⟩ := h
  exact ⟨v, hb.keep hB, ho.below hB⟩
theorem RunsAt.only {g' t : Nat} {cs : Array Value} (h : RunsAt w base g l) (ho : Only w w1 g') (hne : g ≠ g') (hb : Blk w g' t cs) (ht : 24 ≠ t) : RunsAt w1 base g l := by
  obtain ⟨v, hk, hr⟩ := h
  exact ⟨v, hk.only ho hne, hr.only ho (hr.ne hb ht)⟩
end
theorem rd_get (l : List S24) (i : Nat) (h : i < l.length) : rd_T24 l (i : Int) = l[i] := by
  show l.getD (i : Int).toNat z24 = l[i]
  rw [Int.toNat_natCast, List.getD_eq_getElem?_getD, List.getElem?_eq_getElem h]; rfl
end Go.Proofs.Ytjbimnicnehnaaa.Hand
end
section
namespace Go.Proofs.Ytjbimnicnehnaaa.A
open Go.RowKit Go.Proofs.YtjbimnicnehnaaaW.PrintWords Go.Proofs.YtjbimnicnehnaaaW.PrintLast Go.Proofs.YtjbimnicnehnaaaW.PrintMore
attribute [local go_sem] max2_int min2_int max_two min_two max_three min_three max_four min_four   -- for this text's walks alone
set_option linter.unusedVariables false
set_option linter.unusedSimpArgs false
attribute [local go_sem high] eqA24
def api_Span_74.l0 : Nat → List (S24) → List (S24) → Int → Int → Option (Bool)
  | 0, _, _, _, _ => none
  | k + 1, x0, x1, x12, x13 => if x13 < x12 then (if 0 ≤ x13 then (if x13 < (x0.length : Int) then (if x13 < (x1.length : Int) then (if (!(((rd_T24 x0 x13).f0) == ((rd_T24 x1 x13).f0)) || (!(((rd_T24 x0 x13).f1) == ((rd_T24 x1 x13).f1)))) = true then (some false) else (api_Span_74.l0 k x0 x1 x12 (wrap64 (x13 + 1)))) else (none)) else (none)) else (none)) else (some true)
def api_Span_74.f (k : Nat) (l0 : List (S24)) (l1 : List (S24)) : Option (Bool) := if (l0.length : Int) = (l1.length : Int) then (api_Span_74.l0 k l0 l1 (l0.length : Int) 0) else (some false)
theorem api_Span_74.mono_l : ∀ k, (∀ y0 y1 y2 y3, LeO (api_Span_74.l0 k y0 y1 y2 y3) (api_Span_74.l0 (k + 1) y0 y1 y2 y3))
  | 0 => fun _ _ _ _ r h => by simp [api_Span_74.l0] at h
  | k + 1 => by
    have ih0 := api_Span_74.mono_l k
    · intro y0 y1 y2 y3
      unfold api_Span_74.l0
      repeat' first
      | (with_reducible exact ih0 _ _ _ _)
      | (with_reducible exact LeO.refl _)
      | (with_reducible exact LeO.none _)
      | (with_reducible refine LeO.ite ?_ ?_)
      | (with_reducible refine LeO.bind ?_ (fun _ => ?_))
      | exact ih0 _ _ _ _
      | exact LeO.none _
      | refine LeO.ite ?_ ?_
      | refine LeO.bind ?_ (fun _ => ?_)
theorem api_Span_74.mono : ∀ a0 a1 k, LeO (api_Span_74.f k a0 a1) (api_Span_74.f (k + 1) a0 a1) := by
  intro a0 a1 k
  have ih0 := api_Span_74.mono_l k
  unfold api_Span_74.f
  repeat' first
      | (with_reducible exact ih0 _ _ _ _)
      | (with_reducible exact LeO.refl _)
      | (with_reducible exact LeO.none _)
      | (with_reducible refine LeO.ite ?_ ?_)
      | (with_reducible refine LeO.bind ?_ (fun _ => ?_))
      | exact ih0 _ _ _ _
      | exact LeO.none _
      | refine LeO.ite ?_ ?_
      | refine LeO.bind ?_ (fun _ => ?_)
end Go.Proofs.Ytjbimnicnehnaaa.A
end
section
namespace Go.Proofs.Ytjbimnicnehnaaa.Hand
open Go.RowKit Go.Proofs.YtjbimnicnehnaaaW.PrintWords Go.Proofs.YtjbimnicnehnaaaW.PrintLast Go.Proofs.YtjbimnicnehnaaaW.PrintMore Go.Proofs.Ytjbimnicnehnaaa.A
set_option linter.unusedVariables false
set_option linter.unusedSimpArgs false
theorem eqItems_set (d : Nat) (s u : List Bool) (h : s.length = u.length) (w : World) : ∀ (n i : Nat), i + n = s.length →
    (Op.eqItems (d + 1) 4 1 (setArr s) (setArr u) (List.range' i n)).run Try.prog w = .ok (s.drop i == u.drop i) w
  | 0, i, hi => by
    rw [List.drop_of_length_le (by omega), List.drop_of_length_le (by omega)]
    simp [Op.eqItems]
  | n + 1, i, hi => by
    have h1 : i < s.length := by omega
    have h2 : i < u.length := by omega
    have ih := eqItems_set d s u h w n (i + 1) (by omega)
    have g1 : (setArr s)[i * 1]? = some (.bool s[i]) := by
      rw [Nat.mul_one, setArr_get s i h1, List.getD_eq_getElem?_getD, List.getElem?_eq_getElem h1]; rfl
    have g2 : (setArr u)[i * 1]? = some (.bool u[i]) := by
      rw [Nat.mul_one, setArr_get u i h2, List.getD_eq_getElem?_getD, List.getElem?_eq_getElem h2]; rfl
    have a := run_part_plain (P := Try.prog) w (e := 4) (by kernel_rfl) g1
    have b := run_part_plain (P := Try.prog) w (e := 4) (by kernel_rfl) g2
    have c := run_equalIn_bool' (P := Try.prog) w d 4 s[i] u[i] Try.underlying4
    rw [List.range'_succ, List.drop_eq_getElem_cons h1, List.drop_eq_getElem_cons h2]
    simp only [Op.eqItems, Sem.run_bind, a, b, c, Result.andThen_ok]
    have hc : (s[i] :: s.drop (i + 1) == u[i] :: u.drop (i + 1)) = (s[i] == u[i] && s.drop (i + 1) == u.drop (i + 1)) := rfl
    rw [hc]
    generalize (s[i] == u[i]) = q
    cases q
    · simp
    · simp only [Bool.not_true, Bool.false_eq_true, if_false, Bool.true_and]
      exact ih
theorem cells_bool : Try.prog.cellsOf 4 = 1 := by kernel_rfl
theorem eqSet (d : Nat) (s u : List Bool) (hs : s.length = 64) (hu : u.length = 64) (w : World) :
    (Op.equalIn (d + 2) 30 (.agg (setArr s)) (.agg (setArr u))).run Try.prog w = .ok (s == u) w := by
  obtain ⟨i, hi⟩ := info_of_underlying (P := Try.prog) Try.underlying4
  rw [run_equalIn_array (P := Try.prog) w (d + 1) (setArr s) (setArr u) Try.underlying30 hi, cells_bool, List.range_eq_range']
  simpa using eqItems_set d s u (by omega) w 64 0 (by omega)
theorem eqB (s u : List Bool) : (s == u) = decide (s = u) := by
  by_cases h : s = u
  · subst h; simp
  · rw [decide_eq_false h]; simpa using h
end Go.Proofs.Ytjbimnicnehnaaa.Hand
end
section
namespace Go.Proofs.Ytjbimnicnehnaaa.Hand
open Go.RowKit Go.Proofs.YtjbimnicnehnaaaW.PrintWords
theorem calls_abs {P : Program} {f : FuncId} {args : Array Value} {w : World} {Q : Ending → World → Prop} (F : World → Prop) (h : F w) (k : ∀ W, F W → Calls P f args W Q) : Calls P f args w Q := k w h
theorem code_abs {P : Program} {c : Code} {Q : Exit → Act → World → Prop} {a : Act} {w : World} (F : World → Prop) (h : F w) (k : ∀ W, F W → Code.wp P c Q a W) : Code.wp P c Q a w := k w h
theorem row_yields {P : Program} {o : Oper} {a : Act} {w : World} (ty : TypeId) (x : Operand) (ho : o.op = .load ty x)
    (g : Nat) (hx : a.eval x = .pointer (some ⟨g, 0, none⟩)) (t : TypeId) (cs : Array Value) (fr : Nat × Nat) (d : TypeDesc) (hg : w.heap[g]? = some (.cells cs t fr))
    (hu : P.underlying ty = some d) (hd : (match d with | .struct _ | .array _ _ => true | _ => false) = true) (hi : (P.info? ty).map (·.size) = some cs.size) :
    (execOp a.eval o).run P w = .ok (.value (.agg cs)) w := by
  unfold execOp
  simp only [ho, hx, Instr.loadAt, Instr.sureAddr, Sem.run_bind, Sem.run_pure, Result.andThen_ok, run_loadVar_row w g t ty cs fr d hg hu hd hi]
theorem Blk.row {w : World} {g t : Nat} {cs : Array Value} (h : Blk w g t cs) (cs' : Array Value) : Blk (w.setRow g cs') g t cs' := setRow_heap _ _ _ _ _ _ h.hd
theorem Blk.rowFar {w : World} {g g' t : Nat} {cs : Array Value} (h : Blk w g t cs) (hne : g ≠ g') (cs' : Array Value) : Blk (w.setRow g' cs') g t cs := (setRow_other _ _ _ _ hne).trans h
theorem Blk.new2 (w : World) (o : Obj) (t : TypeId) (cs : Array Value) : Blk ((w.alloc o).alloc (.cells cs t)) (w.heap.size + 1) t cs := heap_alloc2_new w o _
end Go.Proofs.Ytjbimnicnehnaaa.Hand
end
section
namespace Go.Proofs.Ytjbimnicnehnaaa.Hand
open Go.RowKit Go.Proofs.YtjbimnicnehnaaaW.PrintWords Go.Proofs.YtjbimnicnehnaaaW.PrintLast Go.Proofs.YtjbimnicnehnaaaW.PrintMore Go.Proofs.Ytjbimnicnehnaaa.A
set_option linter.unusedVariables false
set_option linter.unusedSimpArgs false
attribute [local go_sem] max2_int min2_int max_two min_two max_three min_three max_four min_four
abbrev SPN := S24
theorem tidy_snoc : ∀ {T : List SPN} {lo : Int} {x : SPN}, Tidy lo T → lo ≤ x.f0 → 1 ≤ x.f1 → x.f0 + x.f1 ≤ 64 → (∀ j, mem T j → j + 1 < x.f0) → Tidy lo (T ++ [x])
  | [], _, x, _, h1, h2, h3, _ => ⟨h1, h2, h3, trivial⟩
  | y :: l, lo, x, ⟨g1, g2, g3, g4⟩, h1, h2, h3, h => ⟨g1, g2, g3, tidy_snoc g4 (by have := h (y.f0 + y.f1 - 1) ((mem_cons y l _).2 (.inl ⟨by omega, by omega⟩)); omega) h2 h3 (fun j hj => h j ((mem_cons y l j).2 (.inr hj)))⟩
theorem tidy_split : ∀ {T : List SPN} {lo : Int} {x : SPN}, Tidy lo (T ++ [x]) → Tidy lo T ∧ lo ≤ x.f0 ∧ 1 ≤ x.f1 ∧ x.f0 + x.f1 ≤ 64 ∧ ∀ j, mem T j → j + 1 < x.f0
  | [], _, x, ⟨h1, h2, h3, _⟩ => ⟨trivial, h1, h2, h3, fun j hj => absurd hj (mem_nil j)⟩
  | y :: l, lo, x, ⟨g1, g2, g3, g4⟩ => by
    obtain ⟨a, b, c, d, e⟩ := tidy_split g4
    refine ⟨⟨g1, g2, g3, a⟩, by omega, c, d, fun j hj => ?_⟩
    rcases (mem_cons y l j).1 hj with hj | hj
    · unfold inSp at hj; omega
    · exact e j hj
/-- What is told of the blocks below one. -/
def SpT (s : List Bool) (k : Nat) (T : List SPN) : Prop := Tidy 0 T ∧ (∀ j, mem T j ↔ 0 ≤ j ∧ j < k ∧ s.getD j.toNat false = true) ∧ T.length ≤ k
theorem SpT.zero (s : List Bool) : SpT s 0 [] := ⟨trivial, fun j => ⟨fun h => absurd h (mem_nil j), fun h => by omega⟩, Nat.le_refl _⟩
theorem SpT.no {s : List Bool} {k : Nat} {T : List SPN} (h : SpT s k T) (hk : s.getD k false = false) : SpT s (k + 1) T := by
  refine ⟨h.1, fun j => (h.2.1 j).trans ⟨fun ⟨a, b, c⟩ => ⟨a, by omega, c⟩, fun ⟨a, b, c⟩ => ⟨a, ?_, c⟩⟩, by have := h.2.2; omega⟩
  rcases Int.lt_or_le j k with hj | hj
  · exact hj
  · have : j.toNat = k := by omega
    rw [this, hk] at c
    cases c
theorem SpT.new {s : List Bool} {k : Nat} {T : List SPN} (h : SpT s k T) (h64 : k < 64) (hk : s.getD k false = true) (hp : k = 0 ∨ s.getD (k - 1) false = false) : SpT s (k + 1) (T ++ [⟨(k : Int), 1⟩]) := by
  refine ⟨tidy_snoc h.1 (by simp only; omega) (by simp only; omega) (by simp only; omega) (fun j hj => ?_), fun j => ?_, by have := h.2.2; rw [List.length_append, List.length_singleton]; omega⟩
  · obtain ⟨a, b, c⟩ := (h.2.1 j).1 hj
    rcases hp with hp | hp
    · omega
    · simp only
      rcases Int.lt_or_le (j + 1) k with hh | hh
      · exact hh
      · have : j.toNat = k - 1 := by omega
        rw [this, hp] at c; cases c
  · rw [mem_append, h.2.1]
    have hone : mem [(⟨(k : Int), 1⟩ : SPN)] j ↔ j = k := by
      unfold mem inSp
      simp only [List.mem_singleton, exists_eq_left]
      omega
    rw [hone]
    constructor
    · rintro (⟨a, b, c⟩ | rfl)
      · exact ⟨a, by omega, c⟩
      · exact ⟨by omega, by omega, by rw [Int.toNat_natCast]; exact hk⟩
    · rintro ⟨a, b, c⟩
      by_cases hj : j = k
      · exact .inr hj
      · exact .inl ⟨a, by omega, c⟩
theorem SpT.more {s : List Bool} {k : Nat} {T : List SPN} (h : SpT s k T) (h64 : k < 64) (hk : s.getD k false = true) (h0 : 0 < k) (hp : s.getD (k - 1) false = true) : ∃ T' x, T = T' ++ [x] ∧ x.f0 + x.f1 = (k : Int) ∧ 0 ≤ x.f0 ∧ 1 ≤ x.f1 ∧ SpT s (k + 1) (T' ++ [⟨x.f0, x.f1 + 1⟩]) := by
  have hm : mem T ((k - 1 : Nat) : Int) := (h.2.1 _).2 ⟨by omega, by omega, by rw [Int.toNat_natCast]; exact hp⟩
  rcases List.eq_nil_or_concat T with rfl | ⟨T', x, rfl⟩
  · exact absurd hm (mem_nil _)
  · rw [List.concat_eq_append] at h hm ⊢
    obtain ⟨t1, t2, t3, t4, t5⟩ := tidy_split h.1
    have hone : ∀ (y : SPN) (j : Int), mem [y] j ↔ y.f0 ≤ j ∧ j < y.f0 + y.f1 := fun y j => by
      unfold mem inSp
      simp only [List.mem_singleton, exists_eq_left]
    have hl := ((h.2.1 (x.f0 + x.f1 - 1)).1 ((mem_append _ _ _).2 (.inr ((hone x _).2 ⟨by omega, by omega⟩)))).2.1
    have he : x.f0 + x.f1 = (k : Int) := by
      rcases (mem_append _ _ _).1 hm with hm | hm
      · have := t5 _ hm; omega
      · have := (hone x _).1 hm; omega
    refine ⟨T', x, rfl, he, t2, t3, tidy_snoc t1 t2 (by simp only; omega) (by simp only; omega) t5, fun j => ?_, by have := h.2.2; simp only [List.length_append, List.length_singleton] at this ⊢; omega⟩
    have hj := h.2.1 j
    rw [mem_append, hone] at hj ⊢
    simp only
    constructor
    · rintro (a | a)
      · obtain ⟨b, c, d⟩ := hj.1 (.inl a); exact ⟨b, by omega, d⟩
      · by_cases hjk : j = k
        · subst hjk
          exact ⟨by omega, by omega, by rw [Int.toNat_natCast]; exact hk⟩
        · obtain ⟨b, c, d⟩ := hj.1 (.inr ⟨a.1, by omega⟩); exact ⟨b, by omega, d⟩
    · rintro ⟨a, b, c⟩
      by_cases hjk : j = k
      · exact .inr ⟨by omega, by omega⟩
      · rcases hj.2 ⟨a, by omega, c⟩ with d | d
        · exact .inl d
        · exact .inr ⟨d.1, by omega⟩
theorem SpT.all {s : List Bool} {T : List SPN} (h : SpT s 64 T) : T = spansOf s :=
  tidy_eq h.1 (fun k hk => (h.2.1 k).trans ⟨fun ⟨_, _, c⟩ => by rwa [Int.toNat_natCast] at c, fun c => ⟨by omega, by omega, by rw [Int.toNat_natCast]; exact c⟩⟩)
/-- The last span's length is written. -/
theorem ORow.last {w : World} {base g c : Nat} {T' : List SPN} {x : SPN} (h : ORow w base (.slice (some ⟨g, 0, none⟩) (T'.length + 1) c) (T' ++ [x])) (q : Int) : ORow (w.setCell ⟨g, T'.length * 2 + 1, none⟩ (.int .i64 q)) base (.slice (some ⟨g, 0, none⟩) (T'.length + 1) c) (T' ++ [⟨x.f0, q⟩]) := by
  have hr := h.to_R
  obtain ⟨gg, cc, he, _, _, _, hcell, _⟩ := h.opened (by simp)
  injection he with q1 q2 q3
  injection q1 with q1; injection q1 with q1
  subst q1
  obtain ⟨x0, x1⟩ := hcell T'.length x (by rw [List.getElem?_append_right (Nat.le_refl _), Nat.sub_self]; rfl)
  have hs := (Kd.R_seg (j := 1) (seg := [.int .i64 q]) (x' := (⟨x.f0, q⟩ : SPN)) (c := [.int .i64 x.f0, .int .i64 x.f1]) (okp := fun _ => False) hr ((T'.length : Nat) : Int) (by omega) (by omega) rfl (fun j u hu => by
    rw [Int.toNat_natCast]
    match j, hu with
    | 0, hu => injection hu with hu; subst hu; exact x0
    | 1, hu => injection hu with hu; subst hu; exact x1
    | j + 2, hu => simp at hu) (Nat.le_refl 2) (k24_mkM _ _ _ _) (fun _ h => h.elim)).1
  rw [Int.toNat_natCast, List.set_append_right _ _ (Nat.le_refl _), Nat.sub_self] at hs
  exact ORow.of_R hs
end Go.Proofs.Ytjbimnicnehnaaa.Hand
end
section
namespace Go.Proofs.Ytjbimnicnehnaaa.Hand
open Go.RowKit Go.Proofs.YtjbimnicnehnaaaW.PrintWords Go.Proofs.YtjbimnicnehnaaaW.PrintLast Go.Proofs.YtjbimnicnehnaaaW.PrintMore
set_option linter.unusedVariables false
set_option linter.unusedSimpArgs false
section
variable {α : Type} {d : Kd α} {e eL : Nat} {w w1 : World} {base b : Nat} {vs us : List Value} {L : List (List α)} {v u V U : Value} {l : List α}
/-- The rows of some lists, by their values. -/
def Vals (d : Kd α) (e : Nat) (w : World) (base : Nat) (vs : List Value) (L : List (List α)) : Prop :=
  vs.length = L.length ∧ ∀ (i : Nat) v l, vs[i]? = some v → L[i]? = some l → d.R e w base (fun _ => True) v l
theorem R_moved (hE : d.E = []) (h : d.R e w base (fun _ => True) v l) (hm : ∀ k, v.ownBlock = some k → w1.heap[k]? = w.heap[k]?) : d.R e w1 base (fun _ => True) v l :=
  Kd.R_mono (Kd.R_move (Kd.R_tight hE h) (fun k hk => hm k hk.symm)) (fun _ _ => trivial)
theorem Vals.nil (d : Kd α) (e : Nat) (w : World) (base : Nat) : Vals d e w base [] [] := ⟨rfl, fun i v l h => by simp at h⟩
theorem Vals.get (h : Vals d e w base vs L) {i : Nat} (hi : i < L.length) : ∃ v, vs[i]? = some v ∧ v ∈ vs ∧ d.R e w base (fun _ => True) v L[i] := by
  have hv : i < vs.length := by rw [h.1]; exact hi
  exact ⟨vs[i], List.getElem?_eq_getElem hv, List.getElem_mem hv, h.2 i _ _ (List.getElem?_eq_getElem hv) (List.getElem?_eq_getElem hi)⟩
theorem Vals.mem (h : Vals d e w base vs L) (hv : v ∈ vs) : ∃ l, d.R e w base (fun _ => True) v l := by
  obtain ⟨i, hi, rfl⟩ := List.mem_iff_getElem.1 hv
  exact ⟨_, h.2 i _ _ (List.getElem?_eq_getElem hi) (List.getElem?_eq_getElem (by rw [← h.1]; exact hi))⟩
theorem Vals.lt (h : Vals d e w base vs L) (hv : v ∈ vs) {k : Nat} (hk : v.ownBlock = some k) : base ≤ k ∧ k < w.heap.size := by
  obtain ⟨l, hl⟩ := h.mem hv
  exact ⟨Kd.R_base hl k hk, Kd.R_lt hl k hk⟩
theorem Vals.typed (h : Vals d e w base vs L) (hv : v ∈ vs) {k : Nat} (hk : v.ownBlock = some k) : ∃ cells, w.heap[k]? = some (.cells cells e (0, 0)) := by
  obtain ⟨l, hl⟩ := h.mem hv
  exact Kd.R_typed hl k hk
theorem Vals.move (hE : d.E = []) (h : Vals d e w base vs L) (hm : ∀ v, v ∈ vs → ∀ k, v.ownBlock = some k → w1.heap[k]? = w.heap[k]?) : Vals d e w1 base vs L :=
  ⟨h.1, fun i v l hv hl => R_moved hE (h.2 i v l hv hl) (hm v (List.mem_of_getElem? hv))⟩
theorem Vals.below (h : Vals d e w base vs L) (hb : Below w.heap.size w w1) : Vals d e w1 base vs L := ⟨h.1, fun i v l hv hl => Kd.R_below (h.2 i v l hv hl) hb⟩
theorem Vals.snoc (h : Vals d e w base vs L) (hv : d.R e w base (fun _ => True) v l) : Vals d e w base (vs ++ [v]) (L ++ [l]) := by
  refine ⟨by rw [List.length_append, List.length_append, h.1]; rfl, fun i x y hx hy => ?_⟩
  by_cases hi : i < L.length
  · rw [List.getElem?_append_left (by rw [h.1]; exact hi)] at hx
    rw [List.getElem?_append_left hi] at hy
    exact h.2 i x y hx hy
  · rw [List.getElem?_append_right (by rw [h.1]; omega)] at hx
    rw [List.getElem?_append_right (by omega)] at hy
    rw [h.1] at hx
    have h0 : i - L.length = 0 := by
      rcases Nat.eq_zero_or_pos (i - L.length) with h0 | h0
      · exact h0
      · rw [List.getElem?_eq_none (by simp; omega)] at hx; cases hx
    rw [h0] at hx hy
    injection hx with hx; injection hy with hy
    subst hx; subst hy
    exact hv
/-- One of them is written. -/
theorem Vals.set (hE : d.E = []) (h : Vals d e w base vs L) (hp : vs.Pairwise NeRow) {i : Nat} (hi : i < L.length) {l' : List α} (hv : vs[i]? = some v) (hr : d.R e w1 base (fun _ => True) v l') (hg : w.grownBy w1 v.ownBlock) : Vals d e w1 base vs (L.set i l') := by
  refine ⟨by rw [List.length_set]; exact h.1, fun j x y hx hy => ?_⟩
  by_cases hj : j = i
  · subst hj
    rw [hv] at hx
    injection hx with hx
    rw [List.getElem?_set_self hi] at hy
    injection hy with hy
    subst hx; subst hy
    exact hr
  · rw [List.getElem?_set_ne (fun q => hj q.symm)] at hy
    have hold := h.2 j x y hx hy
    refine R_moved hE hold (fun k hk => hg.block k (Kd.R_lt hold k hk) (fun q => ?_))
    have hne : NeRow v x ∨ NeRow x v := by
      rw [List.pairwise_iff_getElem] at hp
      obtain ⟨hj', rfl⟩ := List.getElem?_eq_some_iff.1 hx
      obtain ⟨hi', rfl⟩ := List.getElem?_eq_some_iff.1 hv
      rcases Nat.lt_or_ge i j with h1 | h1
      · exact .inl (hp i j hi' hj' h1)
      · exact .inr (hp j i hj' hi' (by omega))
    rcases hne with hne | hne
    · exact hne k q.symm hk
    · exact hne k hk q.symm
/-- A row of lists that is read. -/
theorem lists_C {n c : Nat} {A : Option Addr} (hV : w.ownsRow base eL 1 (.slice A n c) L.length vs) (hr : ∀ (i : Nat) v l, vs[i]? = some v → L[i]? = some l → ∃ A c, v = .slice A l.length c ∧ l.length ≤ c ∧ d.C w A l.length l) :
    n = L.length ∧ L.length ≤ c ∧ Kd.C (Kd.slice e d) w A L.length L := by
  have hvl : vs.length = L.length := by have := hV.1; omega
  rcases hV.2 with ⟨he, h0⟩ | ⟨g, cap, cur, he, hb, hh, hn, hm, hs, ht⟩
  · injection he with h1 h2 h3
    subst h1; subst h2; subst h3
    have : L = [] := List.eq_nil_of_length_eq_zero h0
    subst this
    exact ⟨rfl, Nat.le_refl _, rfl, by simp, fun h => by simp at h⟩
  · injection he with h1 h2 h3
    subst h1; subst h2; subst h3
    refine ⟨rfl, hn, rfl, by unfold maxLen at hm; omega, fun _ => ⟨_, rfl, fun j p hj => ?_⟩⟩
    have hjl : j < L.length := (List.getElem?_eq_some_iff.1 hj).1
    obtain ⟨A', c', hv, hle, hC⟩ := hr j _ p (List.getElem?_eq_getElem (by omega)) hj
    refine ⟨[.slice A' p.length c'], rfl, ⟨A', c', rfl, hle, hC⟩, fun i u hu => ?_⟩
    match i, hu with
    | 0, hu =>
      injection hu with hu
      subst hu
      have hc := hV.cells (g := g) rfl j vs[j] (List.getElem?_eq_getElem (by omega))
      rw [← hv]
      simpa [show (Kd.slice e d).sz = 1 from rfl] using hc
    | i + 1, hu => simp at hu
theorem Vals.reads (h : Vals d e w base vs L) : ∀ (i : Nat) v l, vs[i]? = some v → L[i]? = some l → ∃ A c, v = .slice A l.length c ∧ l.length ≤ c ∧ d.C w A l.length l := fun i v l hv hl => Kd.R_reads (h.2 i v l hv hl)
/-- Lists, and copies of them; no two rows are one. -/
structure Pile (d : Kd α) (e eL : Nat) (w : World) (base : Nat) (V U : Value) (vs us : List Value) (L : List (List α)) : Prop where
  hV : w.ownsRow base eL 1 V L.length vs
  hU : w.ownsRow base eL 1 U L.length us
  hVU : NeRow V U
  rv : Vals d e w base vs L
  ru : Vals d e w base us L
  ne : (vs ++ us).Pairwise NeRow
theorem Pile.nil (d : Kd α) (e eL : Nat) (w : World) (base : Nat) : Pile d e eL w base (.slice none 0 0) (.slice none 0 0) [] [] [] :=
  ⟨World.ownsRow_nil w base _ 1, World.ownsRow_nil w base _ 1, ne_nil _, Vals.nil _ _ _ _, Vals.nil _ _ _ _, List.Pairwise.nil⟩
theorem Pile.below (h : Pile d e eL w base V U vs us L) (hb : Below w.heap.size w w1) : Pile d e eL w1 base V U vs us L :=
  ⟨own_move h.hV (fun k hk => hb.block k (own_lt h.hV k hk)), own_move h.hU (fun k hk => hb.block k (own_lt h.hU k hk)), h.hVU, h.rv.below hb, h.ru.below hb, h.ne⟩
/-- One more, and a copy. -/
theorem Pile.snoc {V1 U1 : Value} (hV : w.ownsRow base eL 1 V1 (L.length + 1) (vs ++ [v])) (hU : w.ownsRow base eL 1 U1 (L.length + 1) (us ++ [u])) (hVU : NeRow V1 U1) (rv : Vals d e w base vs L) (ru : Vals d e w base us L)
    (ne : (vs ++ us).Pairwise NeRow) (hv : d.R e w base (fun _ => True) v l) (hu : d.R e w base (fun _ => True) u l) (nv : ∀ x ∈ vs ++ us, NeRow x v) (nu : ∀ x ∈ vs ++ us, NeRow x u) (nvu : NeRow v u) :
    Pile d e eL w base V1 U1 (vs ++ [v]) (us ++ [u]) (L ++ [l]) := by
  refine ⟨by rw [List.length_append]; exact hV, by rw [List.length_append]; exact hU, hVU, rv.snoc hv, ru.snoc hu, ?_⟩
  rw [List.pairwise_append] at ne ⊢
  obtain ⟨n1, n2, n3⟩ := ne
  refine ⟨?_, ?_, ?_⟩
  · rw [List.pairwise_append]
    refine ⟨n1, List.pairwise_singleton _ _, fun a ha b hb => ?_⟩
    rw [List.mem_singleton.1 hb]
    exact nv a (List.mem_append_left _ ha)
  · rw [List.pairwise_append]
    refine ⟨n2, List.pairwise_singleton _ _, fun a ha b hb => ?_⟩
    rw [List.mem_singleton.1 hb]
    exact nu a (List.mem_append_right _ ha)
  · intro a ha b hb
    rcases List.mem_append.1 ha with ha | ha
    · rcases List.mem_append.1 hb with hb | hb
      · exact n3 a ha b hb
      · rw [List.mem_singleton.1 hb]; exact nu a (List.mem_append_left _ ha)
    · rw [List.mem_singleton.1 ha]
      rcases List.mem_append.1 hb with hb | hb
      · exact ne_symm (nv b (List.mem_append_right _ hb))
      · rw [List.mem_singleton.1 hb]; exact nvu
/-- What a book's method leaves: only the book itself and blocks of one type have turned. -/
def BookFx (LT g base : Nat) (w w1 : World) : Prop := Below base w w1 ∧ ∀ k, k < w.heap.size → k ≠ g → (∀ cs, w.heap[k]? ≠ some (.cells cs LT (0, 0))) → w1.heap[k]? = w.heap[k]?
theorem BookFx.blk {LT g t : Nat} {cs : Array Value} {k : Nat} (h : BookFx LT g base w w1) (hb : Blk w k t cs) (ht : t ≠ LT) (hk : k ≠ g) : Blk w1 k t cs :=
  (h.2 k hb.lt hk (fun cs' hc => by rw [hb.hd] at hc; injection hc with hc; injection hc with _ hc; exact ht hc)).trans hb
/-- A row of lists, opened: its cells. -/
theorem row_cells {n : Nat} {xs : List Value} (h : w.ownsRow base eL 1 V n xs) (hn : 0 < n) : ∃ g c, V = .slice (some ⟨g, 0, none⟩) n c ∧ n ≤ c ∧ base ≤ g ∧ g < w.heap.size ∧ ∀ i u, xs[i]? = some u → w.cell? ⟨g, i, none⟩ = some u := by
  have hx := h.1
  rcases h.2 with ⟨_, h0⟩ | ⟨g, cap, cur, rfl, hb, hh, hnc, hm, hs, ht⟩
  · omega
  · refine ⟨g, cap, rfl, hnc, hb, (Array.getElem?_eq_some_iff.1 hh).1, fun i u hu => ?_⟩
    have hi : i < xs.length := (List.getElem?_eq_some_iff.1 hu).1
    exact (World.ownsRow.cellAt h i (by omega)).trans hu
theorem C_of_R {B : Nat} {ok : Nat → Prop} {A : Option Addr} {n c : Nat} (h : d.R e w B ok (.slice A n c) l) : d.C w A l.length l ∧ n = l.length := by
  obtain ⟨A', c', q, _, hC⟩ := Kd.R_reads h
  injection q with q1 q2 q3
  subst q1
  exact ⟨hC, q2⟩
end
end Go.Proofs.Ytjbimnicnehnaaa.Hand
end
section
namespace Go.Proofs.Ytjbimnicnehnaaa.Hand
open Go.RowKit Go.Proofs.YtjbimnicnehnaaaW.PrintWords Go.Proofs.YtjbimnicnehnaaaW.PrintLast Go.Proofs.YtjbimnicnehnaaaW.PrintMore
set_option linter.unusedVariables false
set_option linter.unusedSimpArgs false
section
variable {α : Type} {d : Kd α} {e eL T B : Nat} {w w1 w2 : World} {base b : Nat} {vs us os : List Value} {L : List (List α)} {v u V U O : Value} {l : List α} {F F' G : Nat → List α → List α}
/-- Only blocks of one type have turned. -/
def FxT (T base : Nat) (w w1 : World) : Prop := Below base w w1 ∧ ∀ k, k < w.heap.size → (∀ cs, w.heap[k]? ≠ some (.cells cs T (0, 0))) → w1.heap[k]? = w.heap[k]?
theorem FxT.refl (T base : Nat) (w : World) : FxT T base w w := ⟨Below.refl _ _, fun _ _ _ => rfl⟩
theorem FxT.trans (h : FxT T base w w1) (k : FxT T base w1 w2) : FxT T base w w2 :=
  ⟨h.1.trans k.1, fun i hi hc => (k.2 i (Nat.lt_of_lt_of_le hi h.1.size) (fun cs => by rw [h.2 i hi hc]; exact hc cs)).trans (h.2 i hi hc)⟩
theorem FxT.of_below (hb : Below w.heap.size w w1) (hbase : base ≤ w.heap.size) : FxT T base w w1 := ⟨⟨hb.os, hb.tape, hb.output, hb.size, fun k hk => hb.block k (by omega)⟩, fun k hk _ => hb.block k hk⟩
theorem FxT.below (h : FxT T base w w1) (hb : Below w1.heap.size w1 w2) (hbase : base ≤ w.heap.size) : FxT T base w w2 := h.trans (FxT.of_below hb (Nat.le_trans hbase h.1.size))
theorem FxT.drew (h : FxT T base w w1) : FxT T base w w1.drew := ⟨below_drew h.1, h.2⟩
theorem FxT.blk {t k : Nat} {cs : Array Value} (h : FxT T base w w1) (hb : Blk w k t cs) (ht : t ≠ T) : Blk w1 k t cs :=
  (h.2 k hb.lt (fun cs' hc => by rw [hb.hd] at hc; injection hc with hc; injection hc with _ hc; exact ht hc)).trans hb
theorem FxT.own {n m : Nat} {xs : List Value} (h : FxT T base w w1) (hV : w.ownsRow b eL m V n xs) (hne : eL ≠ T) : w1.ownsRow b eL m V n xs :=
  own_move hV (fun k hk => h.2 k (own_lt hV k hk) (fun cs hc => by
    obtain ⟨cs', hc'⟩ := own_typed hV k hk
    rw [hc'] at hc; injection hc with hc; injection hc with _ hc; exact hne hc))
theorem FxT.grown (hb : base ≤ w.heap.size) (hg : w.grownBy w1 v.ownBlock) (hv : ∀ k, v.ownBlock = some k → base ≤ k ∧ ∃ cs, w.heap[k]? = some (.cells cs T (0, 0))) : FxT T base w w1 :=
  ⟨⟨hg.os, hg.tape, hg.output, hg.size, fun k hk => hg.block k (by omega) (fun q => by have := (hv k q.symm).1; omega)⟩, fun k hk hc => hg.block k hk (fun q => by obtain ⟨cs, hcs⟩ := (hv k q.symm).2; exact hc cs hcs)⟩
/-- Rows, by their values and what is in them now. -/
def ValsF (d : Kd α) (e : Nat) (w : World) (base : Nat) (vs : List Value) (L : List (List α)) (F : Nat → List α → List α) : Prop :=
  vs.length = L.length ∧ ∀ (i : Nat) v l, vs[i]? = some v → L[i]? = some l → d.R e w base (fun _ => True) v (F i l)
theorem ValsF.congr (h : ValsF d e w base vs L F) (hF : ∀ (i : Nat) l, L[i]? = some l → F' i l = F i l) : ValsF d e w base vs L F' := ⟨h.1, fun i v l hv hl => by rw [hF i l hl]; exact h.2 i v l hv hl⟩
theorem ValsF.below (h : ValsF d e w base vs L F) (hb : Below w.heap.size w w1) : ValsF d e w1 base vs L F := ⟨h.1, fun i v l hv hl => Kd.R_below (h.2 i v l hv hl) hb⟩
theorem ValsF.get (h : ValsF d e w base vs L F) {i : Nat} (hl : L[i]? = some l) : ∃ v, vs[i]? = some v ∧ d.R e w base (fun _ => True) v (F i l) := by
  have hi : i < vs.length := by rw [h.1]; exact (List.getElem?_eq_some_iff.1 hl).1
  exact ⟨vs[i], List.getElem?_eq_getElem hi, h.2 i _ _ (List.getElem?_eq_getElem hi) hl⟩
theorem ne_of_pair {i j : Nat} {x : Value} (hp : vs.Pairwise NeRow) (hv : vs[i]? = some v) (hx : vs[j]? = some x) (hij : j ≠ i) : NeRow v x := by
  rw [List.pairwise_iff_getElem] at hp
  obtain ⟨hj', rfl⟩ := List.getElem?_eq_some_iff.1 hx
  obtain ⟨hi', rfl⟩ := List.getElem?_eq_some_iff.1 hv
  rcases Nat.lt_or_ge i j with h1 | h1
  · exact hp i j hi' hj' h1
  · exact ne_symm (hp j i hj' hi' (by omega))
/-- One of them is written. -/
theorem ValsF.set (hE : d.E = []) (h : ValsF d e w base vs L F) (hp : vs.Pairwise NeRow) {i : Nat} (hl : L[i]? = some l) (hv : vs[i]? = some v) (hr : d.R e w1 base (fun _ => True) v (F' i l)) (hg : w.grownBy w1 v.ownBlock) (hF : ∀ (j : Nat) x, j ≠ i → L[j]? = some x → F' j x = F j x) : ValsF d e w1 base vs L F' := by
  refine ⟨h.1, fun j x y hx hy => ?_⟩
  by_cases hj : j = i
  · subst hj
    rw [hv] at hx; rw [hl] at hy
    injection hx with hx; injection hy with hy
    subst hx; subst hy
    exact hr
  · rw [hF j y hj hy]
    have hold := h.2 j x y hx hy
    exact R_moved hE hold (fun k hk => hg.block k (Kd.R_lt hold k hk) (fun q => ne_of_pair hp hv hx hj k q.symm hk))
/-- A shelf: the row of the lists, the lists. -/
structure Shelf (d : Kd α) (e eL : Nat) (w : World) (base : Nat) (V : Value) (vs : List Value) (L : List (List α)) (F : Nat → List α → List α) : Prop where
  hV : w.ownsRow base eL 1 V L.length vs
  rv : ValsF d e w base vs L F
  ne : vs.Pairwise NeRow
theorem Pile.shelf (h : Pile d e eL w base V U vs us L) : Shelf d e eL w base V vs L (fun _ l => l) := ⟨h.hV, h.rv, (List.pairwise_append.1 h.ne).1⟩
theorem Shelf.below (h : Shelf d e eL w base V vs L F) (hb : Below w.heap.size w w1) : Shelf d e eL w1 base V vs L F := ⟨own_move h.hV (fun k hk => hb.block k (own_lt h.hV k hk)), h.rv.below hb, h.ne⟩
theorem Shelf.congr (h : Shelf d e eL w base V vs L F) (hF : ∀ (i : Nat) l, L[i]? = some l → F' i l = F i l) : Shelf d e eL w base V vs L F' := ⟨h.hV, h.rv.congr hF, h.ne⟩
/-- Blocks of another type have turned. -/
theorem Shelf.fx (hE : d.E = []) (h : Shelf d e eL w base V vs L F) (hx : FxT T b w w1) (h1 : e ≠ T) (h2 : eL ≠ T) : Shelf d e eL w1 base V vs L F :=
  ⟨hx.own h.hV h2, ⟨h.rv.1, fun i v l hv hl => R_moved hE (h.rv.2 i v l hv hl) (fun k hk => by
    have hr := h.rv.2 i v l hv hl
    refine hx.2 k (Kd.R_lt hr k hk) (fun cs hc => ?_)
    obtain ⟨cs', hc'⟩ := Kd.R_typed hr k hk
    rw [hc'] at hc; injection hc with hc; injection hc with _ hc; exact h1 hc)⟩, h.ne⟩
theorem Shelf.grownFx (h : Shelf d e eL w base V vs L F) {i : Nat} (hv : vs[i]? = some v) (hl : L[i]? = some l) (hb : base ≤ w.heap.size) (hg : w.grownBy w1 v.ownBlock) : FxT e base w w1 :=
  FxT.grown hb hg (fun k hk => ⟨Kd.R_base (h.rv.2 i v l hv hl) k hk, Kd.R_typed (h.rv.2 i v l hv hl) k hk⟩)
/-- One of the lists is written. -/
theorem Shelf.set (hE : d.E = []) (hne : eL ≠ e) (h : Shelf d e eL w base V vs L F) (hb : base ≤ w.heap.size) {i : Nat} (hl : L[i]? = some l) (hv : vs[i]? = some v) (hr : d.R e w1 base (fun _ => True) v (F' i l)) (hg : w.grownBy w1 v.ownBlock) (hF : ∀ (j : Nat) x, j ≠ i → L[j]? = some x → F' j x = F j x) : Shelf d e eL w1 base V vs L F' :=
  ⟨(h.grownFx hv hl hb hg).own h.hV hne, h.rv.set hE h.ne hl hv hr hg hF, h.ne⟩
/-- The list at a place: the value in the row's cell. -/
theorem Shelf.at (h : Shelf d e eL w base V vs L F) {i : Nat} (hl : L[i]? = some l) : ∃ g c A cv, V = .slice (some ⟨g, 0, none⟩) L.length c ∧ w.cell? ⟨g, i, none⟩ = some (.slice A (F i l).length cv) ∧ vs[i]? = some (.slice A (F i l).length cv) ∧ d.R e w base (fun _ => True) (.slice A (F i l).length cv) (F i l) ∧ (F i l).length ≤ cv ∧ d.C w A (F i l).length (F i l) := by
  have hi : i < L.length := (List.getElem?_eq_some_iff.1 hl).1
  obtain ⟨g, c, rfl, hnc, hbg, hlt, hcell⟩ := row_cells h.hV (by omega)
  obtain ⟨v, hv, hr⟩ := h.rv.get hl
  obtain ⟨A, cv, rfl, hle, hC⟩ := Kd.R_reads hr
  exact ⟨g, c, A, cv, rfl, hcell i _ hv, hv, hr, hle, hC⟩
end
end Go.Proofs.Ytjbimnicnehnaaa.Hand
end
section
namespace Go.Proofs.Ytjbimnicnehnaaa.Hand
open Go.RowKit Go.Proofs.YtjbimnicnehnaaaW.PrintWords Go.Proofs.YtjbimnicnehnaaaW.PrintLast Go.Proofs.YtjbimnicnehnaaaW.PrintMore
set_option linter.unusedVariables false
set_option linter.unusedSimpArgs false
theorem add_zero0 (g j : Nat) : (⟨g, 0, none⟩ : Addr).add j = ⟨g, j, none⟩ := by unfold Addr.add; split <;> simp_all
section
variable {α : Type} {d : Kd α} {e eL T B : Nat} {w w1 w2 W : World} {base b g n : Nat} {v u V U O : Value} {l M xs : List α}
def Flat (d : Kd α) : Prop := ∀ (w w1 : World) x cs, d.K w x cs → d.K w1 x cs
theorem C_cells (hK : Flat d) (h : d.C w (some ⟨g, 0, none⟩) n M) (hc : ∀ j, j < n * d.sz → w1.cell? ⟨g, j, none⟩ = w.cell? ⟨g, j, none⟩) : d.C w1 (some ⟨g, 0, none⟩) n M := by
  refine ⟨h.1, h.2.1, fun h0 => ?_⟩
  obtain ⟨ad, he, hp⟩ := h.2.2 h0
  injection he with he
  subst he
  refine ⟨_, rfl, fun j p hj => ?_⟩
  obtain ⟨c, hl, hk, hcell⟩ := hp j p hj
  refine ⟨c, hl, hK _ _ _ _ hk, fun i u hu => ?_⟩
  have hjn : j < n := by have := (List.getElem?_eq_some_iff.1 hj).1; have := h.1; omega
  have hi : i < d.sz := by have := (List.getElem?_eq_some_iff.1 hu).1; omega
  have hlt : j * d.sz + i < n * d.sz := Nat.lt_of_lt_of_le (Nat.add_lt_add_left hi _) (by rw [← Nat.succ_mul]; exact Nat.mul_le_mul_right _ hjn)
  have := hcell i u hu
  rw [add_zero0] at this ⊢
  exact (hc _ hlt).trans this
/-- What a list shows, wherever it lies. -/
def Sees (d : Kd α) (e : Nat) (w : World) (v : Value) (M : List α) : Prop := ∃ c, M.length ≤ c ∧ ((v = .slice none M.length c ∧ M = []) ∨ ∃ g, v = .slice (some ⟨g, 0, none⟩) M.length c ∧ (∃ cs, w.heap[g]? = some (.cells cs e (0, 0))) ∧ d.C w (some ⟨g, 0, none⟩) M.length M)
theorem ty_lt {g : Nat} {cs : Array Value} (h : w.heap[g]? = some (.cells cs e (0, 0))) : g < w.heap.size := (Array.getElem?_eq_some_iff.1 h).1
theorem Sees.of_R {ok : Nat → Prop} (h : d.R e w base ok v M) : Sees d e w v M := by
  obtain ⟨A, c, rfl, hc, hC⟩ := Kd.R_reads h
  refine ⟨c, hc, ?_⟩
  rcases Nat.eq_zero_or_pos M.length with h0 | h0
  · obtain ⟨inner, ho⟩ := Kd.R_own h
    rcases ho.2 with ⟨he, _⟩ | ⟨g, cap, cur, he, _, hh, _⟩
    · injection he with h1 h2 h3
      subst h1
      exact .inl ⟨rfl, List.eq_nil_of_length_eq_zero h0⟩
    · injection he with h1 h2 h3
      subst h1
      exact .inr ⟨g, rfl, ⟨_, hh⟩, hC⟩
  · obtain ⟨g, c', he, _, hlt, hC'⟩ := row_at h h0
    injection he with h1 h2 h3
    subst h1
    exact .inr ⟨g, rfl, Kd.R_typed h g rfl, hC⟩
theorem Sees.reads (h : Sees d e w v M) : ∃ A c, v = .slice A M.length c ∧ M.length ≤ c ∧ d.C w A M.length M := by
  obtain ⟨c, hc, ⟨rfl, rfl⟩ | ⟨g, rfl, _, hC⟩⟩ := h
  · exact ⟨_, _, rfl, hc, Kd.C_nil d w⟩
  · exact ⟨_, _, rfl, hc, hC⟩
theorem Sees.move (hK : Flat d) (h : Sees d e w v M) (hm : ∀ k, v.ownBlock = some k → w1.heap[k]? = w.heap[k]?) : Sees d e w1 v M := by
  obtain ⟨c, hc, ⟨rfl, rfl⟩ | ⟨g, rfl, ⟨cs, hcs⟩, hC⟩⟩ := h
  · exact ⟨c, hc, .inl ⟨rfl, rfl⟩⟩
  · refine ⟨c, hc, .inr ⟨g, rfl, ⟨cs, (hm g rfl).trans hcs⟩, C_cells hK hC (fun j _ => ?_)⟩⟩
    have := hm g rfl
    unfold World.cell?
    simp only [this]
theorem Sees.lt (h : Sees d e w v M) {k : Nat} (hk : v.ownBlock = some k) : k < w.heap.size := by
  obtain ⟨c, hc, ⟨rfl, rfl⟩ | ⟨g, rfl, ⟨cs, hcs⟩, hC⟩⟩ := h
  · cases hk
  · injection hk with hk; subst hk; exact ty_lt hcs
theorem Sees.typed (h : Sees d e w v M) {k : Nat} (hk : v.ownBlock = some k) : ∃ cs, w.heap[k]? = some (.cells cs e (0, 0)) := by
  obtain ⟨c, hc, ⟨rfl, rfl⟩ | ⟨g, rfl, hcs, hC⟩⟩ := h
  · cases hk
  · injection hk with hk; subst hk; exact hcs
/-- Blocks of another type have turned. -/
theorem Sees.fx (hK : Flat d) (h : Sees d e w v M) (hx : FxT T B w w1) (hne : e ≠ T) : Sees d e w1 v M := h.move hK (fun k hk => by
  obtain ⟨cs, hcs⟩ := h.typed hk
  exact hx.2 k (ty_lt hcs) (fun cs' hc => by rw [hcs] at hc; injection hc with hc; injection hc with _ hc; exact hne hc))
theorem Sees.below (hK : Flat d) (h : Sees d e w v M) (hb : Below w.heap.size w w1) : Sees d e w1 v M := h.move hK (fun k hk => hb.block k (h.lt hk))
/-- Something is appended to a list: what lay in its cells lies there still. -/
def Kept (e : Nat) (w w1 : World) (v : Value) (m : Nat) : Prop := ∀ g, v.ownBlock = some g → (∀ j, j < m → w1.cell? ⟨g, j, none⟩ = w.cell? ⟨g, j, none⟩) ∧ ∃ cs, w1.heap[g]? = some (.cells cs e (0, 0))
theorem Sees.kept (hK : Flat d) {m : Nat} (h : Sees d e w v M) (hg : w.grownBy w1 u.ownBlock) (hk : Kept e w w1 u m) (hm : M.length * d.sz ≤ m) : Sees d e w1 v M := by
  obtain ⟨c, hc, ⟨rfl, rfl⟩ | ⟨g, rfl, ⟨cs, hcs⟩, hC⟩⟩ := h
  · exact ⟨c, hc, .inl ⟨rfl, rfl⟩⟩
  · by_cases hu : u.ownBlock = some g
    · obtain ⟨h1, h2⟩ := hk g hu
      exact ⟨c, hc, .inr ⟨g, rfl, h2, C_cells hK hC (fun j hj => h1 j (by omega))⟩⟩
    · have hb := hg.block g (ty_lt hcs) (fun q => hu q.symm)
      refine ⟨c, hc, .inr ⟨g, rfl, ⟨cs, hb.trans hcs⟩, C_cells hK hC (fun j hj => ?_)⟩⟩
      unfold World.cell?
      simp only [hb]
end
section
variable {P : Program} {ops : Array Oper} {rest : List Oper} {o : Oper} {a : Act} {Q : Exit → Act → World → Prop} {K : Act → World → Prop} {α : Type}
namespace Kd
end Kd
end
end Go.Proofs.Ytjbimnicnehnaaa.Hand
end
section
namespace Go.Proofs.Ytjbimnicnehnaaa.A
open Go.RowKit Go.Proofs.YtjbimnicnehnaaaW.PrintWords Go.Proofs.YtjbimnicnehnaaaW.PrintLast Go.Proofs.YtjbimnicnehnaaaW.PrintMore
attribute [local go_sem] max2_int min2_int max_two min_two max_three min_three max_four min_four   -- for this text's walks alone
set_option linter.unusedVariables false
set_option linter.unusedSimpArgs false
def emulsionbook_SameInts.l0 : Nat → List Int → List Int → Int → Option (Bool)
  | 0, _, _, _ => none
  | k + 1, x0, x1, x5 => if x5 < (x0.length : Int) then (if 0 ≤ x5 then (if x5 < (x1.length : Int) then (if ((rd x0 x5) = (rd x1 x5)) then (emulsionbook_SameInts.l0 k x0 x1 (wrap64 (x5 + 1))) else (some false)) else (none)) else (none)) else (some true)
def emulsionbook_SameInts.f (k : Nat) (l0 : List Int) (l1 : List Int) : Option (Bool) := if (l0.length : Int) = (l1.length : Int) then (emulsionbook_SameInts.l0 k l0 l1 0) else (some false)
theorem emulsionbook_SameInts.mono_l : ∀ k, (∀ y0 y1 y2, LeO (emulsionbook_SameInts.l0 k y0 y1 y2) (emulsionbook_SameInts.l0 (k + 1) y0 y1 y2))
  | 0 => fun _ _ _ r h => by simp [emulsionbook_SameInts.l0] at h
  | k + 1 => by
    have ih0 := emulsionbook_SameInts.mono_l k
    · intro y0 y1 y2
      unfold emulsionbook_SameInts.l0
      repeat' first
      | (with_reducible exact ih0 _ _ _)
      | (with_reducible exact LeO.refl _)
      | (with_reducible exact LeO.none _)
      | (with_reducible refine LeO.ite ?_ ?_)
      | (with_reducible refine LeO.bind ?_ (fun _ => ?_))
      | exact ih0 _ _ _
      | exact LeO.none _
      | refine LeO.ite ?_ ?_
      | refine LeO.bind ?_ (fun _ => ?_)
theorem emulsionbook_SameInts.mono : ∀ a0 a1 k, LeO (emulsionbook_SameInts.f k a0 a1) (emulsionbook_SameInts.f (k + 1) a0 a1) := by
  intro a0 a1 k
  have ih0 := emulsionbook_SameInts.mono_l k
  unfold emulsionbook_SameInts.f
  repeat' first
      | (with_reducible exact ih0 _ _ _)
      | (with_reducible exact LeO.refl _)
      | (with_reducible exact LeO.none _)
      | (with_reducible refine LeO.ite ?_ ?_)
      | (with_reducible refine LeO.bind ?_ (fun _ => ?_))
      | exact ih0 _ _ _
      | exact LeO.none _
      | refine LeO.ite ?_ ?_
      | refine LeO.bind ?_ (fun _ => ?_)
def emulsionbook_markInts.l0 : Nat → Int → Int → Int → List Int → Int → Option (List Int)
  | 0, _, _, _, _, _ => none
  | k + 1, x0, x1, x2, x7, x8 => if x8 < (wrap64 (x1 + x2)) then (if x7.length < 17592186044416 then (emulsionbook_markInts.l0 k x0 x1 x2 (x7 ++ [wrap64 ((wrap64 ((wrap64 ((-1000000) * x0)) - x8)) - 7)]) (wrap64 (x8 + 1))) else (none)) else (some x7)
def emulsionbook_markInts.f (k : Nat) (a0 : Int) (a1 : Int) (a2 : Int) : Option (List Int) := emulsionbook_markInts.l0 k a0 a1 a2 ([] : List Int) a1
theorem emulsionbook_markInts.mono_l : ∀ k, (∀ y0 y1 y2 y3 y4, LeO (emulsionbook_markInts.l0 k y0 y1 y2 y3 y4) (emulsionbook_markInts.l0 (k + 1) y0 y1 y2 y3 y4))
  | 0 => fun _ _ _ _ _ r h => by simp [emulsionbook_markInts.l0] at h
  | k + 1 => by
    have ih0 := emulsionbook_markInts.mono_l k
    · intro y0 y1 y2 y3 y4
      unfold emulsionbook_markInts.l0
      repeat' first
      | (with_reducible exact ih0 _ _ _ _ _)
      | (with_reducible exact LeO.refl _)
      | (with_reducible exact LeO.none _)
      | (with_reducible refine LeO.ite ?_ ?_)
      | (with_reducible refine LeO.bind ?_ (fun _ => ?_))
      | exact ih0 _ _ _ _ _
      | exact LeO.none _
      | refine LeO.ite ?_ ?_
      | refine LeO.bind ?_ (fun _ => ?_)
theorem emulsionbook_markInts.mono : ∀ a0 a1 a2 k, LeO (emulsionbook_markInts.f k a0 a1 a2) (emulsionbook_markInts.f (k + 1) a0 a1 a2) := by
  intro a0 a1 a2 k
  have ih0 := emulsionbook_markInts.mono_l k
  unfold emulsionbook_markInts.f
  repeat' first
      | (with_reducible exact ih0 _ _ _ _ _)
      | (with_reducible exact LeO.refl _)
      | (with_reducible exact LeO.none _)
      | (with_reducible refine LeO.ite ?_ ?_)
      | (with_reducible refine LeO.bind ?_ (fun _ => ?_))
      | exact ih0 _ _ _ _ _
      | exact LeO.none _
      | refine LeO.ite ?_ ?_
      | refine LeO.bind ?_ (fun _ => ?_)
end Go.Proofs.Ytjbimnicnehnaaa.A
end
section
namespace Go.Proofs.Ytjbimnicnehnaaa.A
open Go.RowKit Go.Proofs.YtjbimnicnehnaaaW.PrintWords Go.Proofs.YtjbimnicnehnaaaW.PrintLast Go.Proofs.YtjbimnicnehnaaaW.PrintMore
attribute [local go_sem] max2_int min2_int max_two min_two max_three min_three max_four min_four   -- for this text's walks alone
set_option linter.unusedVariables false
set_option linter.unusedSimpArgs false
def emulsionbook_markedInts.l0 : Nat → List (List Int) → Int → Option (Bool)
  | 0, _, _ => none
  | k + 1, x0, x3 => if x3 < (x0.length : Int) then (if 0 ≤ x3 then ((emulsionbook_markInts.f k x3 0 ((rd_L5 x0 x3).length : Int)).bind fun t201 => ((emulsionbook_SameInts.f k (rd_L5 x0 x3) t201).bind fun t204 => (if t204 = true then (emulsionbook_markedInts.l0 k x0 (wrap64 (x3 + 1))) else (some false)))) else (none)) else (some true)
def emulsionbook_markedInts.f (k : Nat) (l0 : List (List Int)) : Option (Bool) := emulsionbook_markedInts.l0 k l0 0
theorem emulsionbook_markedInts.mono_l : ∀ k, (∀ y0 y1, LeO (emulsionbook_markedInts.l0 k y0 y1) (emulsionbook_markedInts.l0 (k + 1) y0 y1))
  | 0 => fun _ _ r h => by simp [emulsionbook_markedInts.l0] at h
  | k + 1 => by
    have ih0 := emulsionbook_markedInts.mono_l k
    · intro y0 y1
      unfold emulsionbook_markedInts.l0
      repeat' first
      | (with_reducible exact ih0 _ _)
      | (with_reducible exact emulsionbook_SameInts.mono _ _ _)
      | (with_reducible exact emulsionbook_markInts.mono _ _ _ _)
      | (with_reducible exact LeO.refl _)
      | (with_reducible exact LeO.none _)
      | (with_reducible refine LeO.ite ?_ ?_)
      | (with_reducible refine LeO.bind ?_ (fun _ => ?_))
      | exact ih0 _ _
      | exact emulsionbook_SameInts.mono _ _ _
      | exact emulsionbook_markInts.mono _ _ _ _
      | exact LeO.none _
      | refine LeO.ite ?_ ?_
      | refine LeO.bind ?_ (fun _ => ?_)
theorem emulsionbook_markedInts.mono : ∀ a0 k, LeO (emulsionbook_markedInts.f k a0) (emulsionbook_markedInts.f (k + 1) a0) := by
  intro a0 k
  have ih0 := emulsionbook_markedInts.mono_l k
  unfold emulsionbook_markedInts.f
  repeat' first
      | (with_reducible exact ih0 _ _)
      | (with_reducible exact emulsionbook_SameInts.mono _ _ _)
      | (with_reducible exact emulsionbook_markInts.mono _ _ _ _)
      | (with_reducible exact LeO.refl _)
      | (with_reducible exact LeO.none _)
      | (with_reducible refine LeO.ite ?_ ?_)
      | (with_reducible refine LeO.bind ?_ (fun _ => ?_))
      | exact ih0 _ _
      | exact emulsionbook_SameInts.mono _ _ _
      | exact emulsionbook_markInts.mono _ _ _ _
      | exact LeO.none _
      | refine LeO.ite ?_ ?_
      | refine LeO.bind ?_ (fun _ => ?_)
end Go.Proofs.Ytjbimnicnehnaaa.A
end
section
namespace Go.Proofs.Ytjbimnicnehnaaa.A
open Go.RowKit Go.Proofs.YtjbimnicnehnaaaW.PrintWords Go.Proofs.YtjbimnicnehnaaaW.PrintLast Go.Proofs.YtjbimnicnehnaaaW.PrintMore
attribute [local go_sem] max2_int min2_int max_two min_two max_three min_three max_four min_four   -- for this text's walks alone
set_option linter.unusedVariables false
set_option linter.unusedSimpArgs false
def emulsionbook_markSpans.l0 : Nat → Int → Int → Int → List (S24) → Int → Option ((List (S24)))
  | 0, _, _, _, _, _ => none
  | k + 1, x0, x1, x2, x7, x8 => if x8 < (wrap64 (x1 + x2)) then (if x7.length < 8796093022208 then (emulsionbook_markSpans.l0 k x0 x1 x2 (x7 ++ [(⟨wrap64 ((wrap64 ((wrap64 ((-1000) * x0)) - x8)) - 1), 0⟩ : S24)]) (wrap64 (x8 + 1))) else (none)) else (some x7)
def emulsionbook_markSpans.f (k : Nat) (a0 : Int) (a1 : Int) (a2 : Int) : Option ((List (S24))) := emulsionbook_markSpans.l0 k a0 a1 a2 ([] : List (S24)) a1
theorem emulsionbook_markSpans.mono_l : ∀ k, (∀ y0 y1 y2 y3 y4, LeO (emulsionbook_markSpans.l0 k y0 y1 y2 y3 y4) (emulsionbook_markSpans.l0 (k + 1) y0 y1 y2 y3 y4))
  | 0 => fun _ _ _ _ _ r h => by simp [emulsionbook_markSpans.l0] at h
  | k + 1 => by
    have ih0 := emulsionbook_markSpans.mono_l k
    · intro y0 y1 y2 y3 y4
      unfold emulsionbook_markSpans.l0
      repeat' first
      | (with_reducible exact ih0 _ _ _ _ _)
      | (with_reducible exact LeO.refl _)
      | (with_reducible exact LeO.none _)
      | (with_reducible refine LeO.ite ?_ ?_)
      | (with_reducible refine LeO.bind ?_ (fun _ => ?_))
      | exact ih0 _ _ _ _ _
      | exact LeO.none _
      | refine LeO.ite ?_ ?_
      | refine LeO.bind ?_ (fun _ => ?_)
theorem emulsionbook_markSpans.mono : ∀ a0 a1 a2 k, LeO (emulsionbook_markSpans.f k a0 a1 a2) (emulsionbook_markSpans.f (k + 1) a0 a1 a2) := by
  intro a0 a1 a2 k
  have ih0 := emulsionbook_markSpans.mono_l k
  unfold emulsionbook_markSpans.f
  repeat' first
      | (with_reducible exact ih0 _ _ _ _ _)
      | (with_reducible exact LeO.refl _)
      | (with_reducible exact LeO.none _)
      | (with_reducible refine LeO.ite ?_ ?_)
      | (with_reducible refine LeO.bind ?_ (fun _ => ?_))
      | exact ih0 _ _ _ _ _
      | exact LeO.none _
      | refine LeO.ite ?_ ?_
      | refine LeO.bind ?_ (fun _ => ?_)
end Go.Proofs.Ytjbimnicnehnaaa.A
end
section
namespace Go.Proofs.Ytjbimnicnehnaaa.A
open Go.RowKit Go.Proofs.YtjbimnicnehnaaaW.PrintWords Go.Proofs.YtjbimnicnehnaaaW.PrintLast Go.Proofs.YtjbimnicnehnaaaW.PrintMore
attribute [local go_sem] max2_int min2_int max_two min_two max_three min_three max_four min_four   -- for this text's walks alone
set_option linter.unusedVariables false
set_option linter.unusedSimpArgs false
def emulsionbook_markedSpans.l0 : Nat → List (List (S24)) → Int → Option (Bool)
  | 0, _, _ => none
  | k + 1, x0, x3 => if x3 < (x0.length : Int) then (if 0 ≤ x3 then ((emulsionbook_markSpans.f k x3 0 ((rd_L6 x0 x3).length : Int)).bind fun t210 => ((emulsionbook_SameSpans.f k (rd_L6 x0 x3) t210).bind fun t213 => (if t213 = true then (emulsionbook_markedSpans.l0 k x0 (wrap64 (x3 + 1))) else (some false)))) else (none)) else (some true)
def emulsionbook_markedSpans.f (k : Nat) (l0 : List (List (S24))) : Option (Bool) := emulsionbook_markedSpans.l0 k l0 0
theorem emulsionbook_markedSpans.mono_l : ∀ k, (∀ y0 y1, LeO (emulsionbook_markedSpans.l0 k y0 y1) (emulsionbook_markedSpans.l0 (k + 1) y0 y1))
  | 0 => fun _ _ r h => by simp [emulsionbook_markedSpans.l0] at h
  | k + 1 => by
    have ih0 := emulsionbook_markedSpans.mono_l k
    · intro y0 y1
      unfold emulsionbook_markedSpans.l0
      repeat' first
      | (with_reducible exact ih0 _ _)
      | (with_reducible exact emulsionbook_SameSpans.mono _ _ _)
      | (with_reducible exact emulsionbook_markSpans.mono _ _ _ _)
      | (with_reducible exact LeO.refl _)
      | (with_reducible exact LeO.none _)
      | (with_reducible refine LeO.ite ?_ ?_)
      | (with_reducible refine LeO.bind ?_ (fun _ => ?_))
      | exact ih0 _ _
      | exact emulsionbook_SameSpans.mono _ _ _
      | exact emulsionbook_markSpans.mono _ _ _ _
      | exact LeO.none _
      | refine LeO.ite ?_ ?_
      | refine LeO.bind ?_ (fun _ => ?_)
theorem emulsionbook_markedSpans.mono : ∀ a0 k, LeO (emulsionbook_markedSpans.f k a0) (emulsionbook_markedSpans.f (k + 1) a0) := by
  intro a0 k
  have ih0 := emulsionbook_markedSpans.mono_l k
  unfold emulsionbook_markedSpans.f
  repeat' first
      | (with_reducible exact ih0 _ _)
      | (with_reducible exact emulsionbook_SameSpans.mono _ _ _)
      | (with_reducible exact emulsionbook_markSpans.mono _ _ _ _)
      | (with_reducible exact LeO.refl _)
      | (with_reducible exact LeO.none _)
      | (with_reducible refine LeO.ite ?_ ?_)
      | (with_reducible refine LeO.bind ?_ (fun _ => ?_))
      | exact ih0 _ _
      | exact emulsionbook_SameSpans.mono _ _ _
      | exact emulsionbook_markSpans.mono _ _ _ _
      | exact LeO.none _
      | refine LeO.ite ?_ ?_
      | refine LeO.bind ?_ (fun _ => ?_)
end Go.Proofs.Ytjbimnicnehnaaa.A
end
section
namespace Go.Proofs.Ytjbimnicnehnaaa.A
open Go.RowKit Go.Proofs.YtjbimnicnehnaaaW.PrintWords Go.Proofs.YtjbimnicnehnaaaW.PrintLast Go.Proofs.YtjbimnicnehnaaaW.PrintMore
attribute [local go_sem] max2_int min2_int max_two min_two max_three min_three max_four min_four   -- for this text's walks alone
set_option linter.unusedVariables false
set_option linter.unusedSimpArgs false
theorem eqA108 (d : Nat) (w : World) (x0 y0 : Int) (x1 y1 : Int) (x2 y2 : Int) :
    (Op.equalIn (d + 2) 108 (.agg #[.int .i64 x0, .int .i64 x1, .int .i64 x2]) (.agg #[.int .i64 y0, .int .i64 y1, .int .i64 y2])).run Try.prog w = .ok (x0 == y0 && (x1 == y1 && (x2 == y2))) w := by
  refine eqA_of Try.underlying108 (by kernel_rfl) ?_
  refine eqf_cons (by rfl) (by go_simp; rfl) (by go_simp; rfl) (by go_simp) ?_
  refine eqf_cons (by rfl) (by go_simp; rfl) (by go_simp; rfl) (by go_simp) ?_
  exact eqf_last (by rfl) (by go_simp; rfl) (by go_simp; rfl) (by go_simp)
end Go.Proofs.Ytjbimnicnehnaaa.A
end
section
namespace Go.Proofs.Ytjbimnicnehnaaa.A
open Go.RowKit Go.Proofs.YtjbimnicnehnaaaW.PrintWords Go.Proofs.YtjbimnicnehnaaaW.PrintLast Go.Proofs.YtjbimnicnehnaaaW.PrintMore
attribute [local go_sem] max2_int min2_int max_two min_two max_three min_three max_four min_four   -- for this text's walks alone
set_option linter.unusedVariables false
set_option linter.unusedSimpArgs false
attribute [local go_sem high] eqA108
def emulsionbook_SameExtents.l0 : Nat → List (S108) → List (S108) → Int → Option (Bool)
  | 0, _, _, _ => none
  | k + 1, x0, x1, x5 => if x5 < (x0.length : Int) then (if 0 ≤ x5 then (if x5 < (x1.length : Int) then (if ((((rd_T108 x0 x5).f0) == ((rd_T108 x1 x5).f0) && (((rd_T108 x0 x5).f1) == ((rd_T108 x1 x5).f1) && (((rd_T108 x0 x5).f2) == ((rd_T108 x1 x5).f2)))) = true) then (emulsionbook_SameExtents.l0 k x0 x1 (wrap64 (x5 + 1))) else (some false)) else (none)) else (none)) else (some true)
def emulsionbook_SameExtents.f (k : Nat) (l0 : List (S108)) (l1 : List (S108)) : Option (Bool) := if (l0.length : Int) = (l1.length : Int) then (emulsionbook_SameExtents.l0 k l0 l1 0) else (some false)
theorem emulsionbook_SameExtents.mono_l : ∀ k, (∀ y0 y1 y2, LeO (emulsionbook_SameExtents.l0 k y0 y1 y2) (emulsionbook_SameExtents.l0 (k + 1) y0 y1 y2))
  | 0 => fun _ _ _ r h => by simp [emulsionbook_SameExtents.l0] at h
  | k + 1 => by
    have ih0 := emulsionbook_SameExtents.mono_l k
    · intro y0 y1 y2
      unfold emulsionbook_SameExtents.l0
      repeat' first
      | (with_reducible exact ih0 _ _ _)
      | (with_reducible exact LeO.refl _)
      | (with_reducible exact LeO.none _)
      | (with_reducible refine LeO.ite ?_ ?_)
      | (with_reducible refine LeO.bind ?_ (fun _ => ?_))
      | exact ih0 _ _ _
      | exact LeO.none _
      | refine LeO.ite ?_ ?_
      | refine LeO.bind ?_ (fun _ => ?_)
theorem emulsionbook_SameExtents.mono : ∀ a0 a1 k, LeO (emulsionbook_SameExtents.f k a0 a1) (emulsionbook_SameExtents.f (k + 1) a0 a1) := by
  intro a0 a1 k
  have ih0 := emulsionbook_SameExtents.mono_l k
  unfold emulsionbook_SameExtents.f
  repeat' first
      | (with_reducible exact ih0 _ _ _)
      | (with_reducible exact LeO.refl _)
      | (with_reducible exact LeO.none _)
      | (with_reducible refine LeO.ite ?_ ?_)
      | (with_reducible refine LeO.bind ?_ (fun _ => ?_))
      | exact ih0 _ _ _
      | exact LeO.none _
      | refine LeO.ite ?_ ?_
      | refine LeO.bind ?_ (fun _ => ?_)
def emulsionbook_markExtents.l0 : Nat → Int → Int → Int → List (S108) → Int → Option ((List (S108)))
  | 0, _, _, _, _, _ => none
  | k + 1, x0, x1, x2, x7, x8 => if x8 < (wrap64 (x1 + x2)) then (if x7.length < 5864062014805 then (emulsionbook_markExtents.l0 k x0 x1 x2 (x7 ++ [(⟨wrap64 ((wrap64 ((wrap64 ((-1000) * x0)) - x8)) - 1), 0, 0⟩ : S108)]) (wrap64 (x8 + 1))) else (none)) else (some x7)
def emulsionbook_markExtents.f (k : Nat) (a0 : Int) (a1 : Int) (a2 : Int) : Option ((List (S108))) := emulsionbook_markExtents.l0 k a0 a1 a2 ([] : List (S108)) a1
theorem emulsionbook_markExtents.mono_l : ∀ k, (∀ y0 y1 y2 y3 y4, LeO (emulsionbook_markExtents.l0 k y0 y1 y2 y3 y4) (emulsionbook_markExtents.l0 (k + 1) y0 y1 y2 y3 y4))
  | 0 => fun _ _ _ _ _ r h => by simp [emulsionbook_markExtents.l0] at h
  | k + 1 => by
    have ih0 := emulsionbook_markExtents.mono_l k
    · intro y0 y1 y2 y3 y4
      unfold emulsionbook_markExtents.l0
      repeat' first
      | (with_reducible exact ih0 _ _ _ _ _)
      | (with_reducible exact LeO.refl _)
      | (with_reducible exact LeO.none _)
      | (with_reducible refine LeO.ite ?_ ?_)
      | (with_reducible refine LeO.bind ?_ (fun _ => ?_))
      | exact ih0 _ _ _ _ _
      | exact LeO.none _
      | refine LeO.ite ?_ ?_
      | refine LeO.bind ?_ (fun _ => ?_)
theorem emulsionbook_markExtents.mono : ∀ a0 a1 a2 k, LeO (emulsionbook_markExtents.f k a0 a1 a2) (emulsionbook_markExtents.f (k + 1) a0 a1 a2) := by
  intro a0 a1 a2 k
  have ih0 := emulsionbook_markExtents.mono_l k
  unfold emulsionbook_markExtents.f
  repeat' first
      | (with_reducible exact ih0 _ _ _ _ _)
      | (with_reducible exact LeO.refl _)
      | (with_reducible exact LeO.none _)
      | (with_reducible refine LeO.ite ?_ ?_)
      | (with_reducible refine LeO.bind ?_ (fun _ => ?_))
      | exact ih0 _ _ _ _ _
      | exact LeO.none _
      | refine LeO.ite ?_ ?_
      | refine LeO.bind ?_ (fun _ => ?_)
end Go.Proofs.Ytjbimnicnehnaaa.A
end
section
namespace Go.Proofs.Ytjbimnicnehnaaa.A
open Go.RowKit Go.Proofs.YtjbimnicnehnaaaW.PrintWords Go.Proofs.YtjbimnicnehnaaaW.PrintLast Go.Proofs.YtjbimnicnehnaaaW.PrintMore
attribute [local go_sem] max2_int min2_int max_two min_two max_three min_three max_four min_four   -- for this text's walks alone
set_option linter.unusedVariables false
set_option linter.unusedSimpArgs false
def emulsionbook_markedExtents.l0 : Nat → List (List (S108)) → Int → Option (Bool)
  | 0, _, _ => none
  | k + 1, x0, x3 => if x3 < (x0.length : Int) then (if 0 ≤ x3 then ((emulsionbook_markExtents.f k x3 0 ((rd_L8 x0 x3).length : Int)).bind fun t221 => ((emulsionbook_SameExtents.f k (rd_L8 x0 x3) t221).bind fun t224 => (if t224 = true then (emulsionbook_markedExtents.l0 k x0 (wrap64 (x3 + 1))) else (some false)))) else (none)) else (some true)
def emulsionbook_markedExtents.f (k : Nat) (l0 : List (List (S108))) : Option (Bool) := emulsionbook_markedExtents.l0 k l0 0
theorem emulsionbook_markedExtents.mono_l : ∀ k, (∀ y0 y1, LeO (emulsionbook_markedExtents.l0 k y0 y1) (emulsionbook_markedExtents.l0 (k + 1) y0 y1))
  | 0 => fun _ _ r h => by simp [emulsionbook_markedExtents.l0] at h
  | k + 1 => by
    have ih0 := emulsionbook_markedExtents.mono_l k
    · intro y0 y1
      unfold emulsionbook_markedExtents.l0
      repeat' first
      | (with_reducible exact ih0 _ _)
      | (with_reducible exact emulsionbook_SameExtents.mono _ _ _)
      | (with_reducible exact emulsionbook_markExtents.mono _ _ _ _)
      | (with_reducible exact LeO.refl _)
      | (with_reducible exact LeO.none _)
      | (with_reducible refine LeO.ite ?_ ?_)
      | (with_reducible refine LeO.bind ?_ (fun _ => ?_))
      | exact ih0 _ _
      | exact emulsionbook_SameExtents.mono _ _ _
      | exact emulsionbook_markExtents.mono _ _ _ _
      | exact LeO.none _
      | refine LeO.ite ?_ ?_
      | refine LeO.bind ?_ (fun _ => ?_)
theorem emulsionbook_markedExtents.mono : ∀ a0 k, LeO (emulsionbook_markedExtents.f k a0) (emulsionbook_markedExtents.f (k + 1) a0) := by
  intro a0 k
  have ih0 := emulsionbook_markedExtents.mono_l k
  unfold emulsionbook_markedExtents.f
  repeat' first
      | (with_reducible exact ih0 _ _)
      | (with_reducible exact emulsionbook_SameExtents.mono _ _ _)
      | (with_reducible exact emulsionbook_markExtents.mono _ _ _ _)
      | (with_reducible exact LeO.refl _)
      | (with_reducible exact LeO.none _)
      | (with_reducible refine LeO.ite ?_ ?_)
      | (with_reducible refine LeO.bind ?_ (fun _ => ?_))
      | exact ih0 _ _
      | exact emulsionbook_SameExtents.mono _ _ _
      | exact emulsionbook_markExtents.mono _ _ _ _
      | exact LeO.none _
      | refine LeO.ite ?_ ?_
      | refine LeO.bind ?_ (fun _ => ?_)
end Go.Proofs.Ytjbimnicnehnaaa.A
end
section
namespace Go.Proofs.Ytjbimnicnehnaaa.Hand
open Go.RowKit Go.Proofs.YtjbimnicnehnaaaW.PrintWords Go.Proofs.YtjbimnicnehnaaaW.PrintLast Go.Proofs.YtjbimnicnehnaaaW.PrintMore Go.Proofs.Ytjbimnicnehnaaa.A
set_option linter.unusedVariables false
set_option linter.unusedSimpArgs false
section
variable {α : Type} {d : Kd α} {e eL : Nat} {w0 w1 w w2 : World} {base i : Nat} {vs os : List Value} {L : List (List α)} {v cur cur2 O O2 V : Value} {l M ys : List α} {F G : Nat → List α → List α}
/-- What the lists show: for the law that looks at them. -/
def Shows (d : Kd α) (e eL : Nat) (w : World) (base : Nat) (V : Value) (vs : List Value) (L : List (List α)) (F : Nat → List α → List α) : Prop :=
  w.ownsRow base eL 1 V L.length vs ∧ ∀ (i : Nat) v l, vs[i]? = some v → L[i]? = some l → Sees d e w v (F i l)
theorem Shows.below (hK : Flat d) (h : Shows d e eL w base V vs L F) (hb : Below w.heap.size w w1) : Shows d e eL w1 base V vs L F :=
  ⟨own_move h.1 (fun k hk => hb.block k (own_lt h.1 k hk)), fun i v l hv hl => (h.2 i v l hv hl).below hK hb⟩
theorem Shows.fx {T B : Nat} (hK : Flat d) (h : Shows d e eL w base V vs L F) (hx : FxT T B w w1) (h1 : e ≠ T) (h2 : eL ≠ T) : Shows d e eL w1 base V vs L F :=
  ⟨hx.own h.1 h2, fun i v l hv hl => (h.2 i v l hv hl).fx hK hx h1⟩
theorem Shows.calls {n c : Nat} {A : Option Addr} (h : Shows d e eL w base (.slice A n c) vs L F) : n = (L.mapIdx F).length ∧ (L.mapIdx F).length ≤ c ∧ Kd.C (Kd.slice e d) w A (L.mapIdx F).length (L.mapIdx F) := by
  have hlen : (L.mapIdx F).length = L.length := List.length_mapIdx
  refine lists_C (eL := eL) (base := base) (vs := vs) (by rw [hlen]; exact h.1) (fun i v l hv hl => ?_)
  rw [List.getElem?_mapIdx] at hl
  obtain ⟨l0, hl0, rfl⟩ := Option.map_eq_some_iff.1 hl
  exact (h.2 i v l0 hv hl0).reads
/-- One list is being grown. -/
structure Cur (d : Kd α) (e : Nat) (w1 w : World) (base : Nat) (v cur : Value) (M l : List α) : Prop where
  r : d.R e w base (fun _ => True) cur l
  g : w1.grownBy w v.ownBlock
  at_ : cur.ownBlock = v.ownBlock ∨ ∀ k, cur.ownBlock = some k → w1.heap.size ≤ k
  s : Sees d e w v M
  len : M.length ≤ l.length
theorem Cur.below (hK : Flat d) (h : Cur d e w1 w base v cur M l) (hb : Below w.heap.size w w2) : Cur d e w1 w2 base v cur M l :=
  ⟨Kd.R_below h.r hb, ⟨hb.os.trans h.g.os, hb.tape.trans h.g.tape, hb.output.trans h.g.output, Nat.le_trans h.g.size hb.size, fun k hk hn => (hb.block k (Nat.lt_of_lt_of_le hk h.g.size)).trans (h.g.block k hk hn)⟩, h.at_, h.s.below hK hb, h.len⟩
theorem Cur.more (hK : Flat d) (h : Cur d e w1 w base v cur M l) (hr : d.R e w2 base (fun _ => True) cur2 (l ++ ys)) (hg : w.grownBy w2 cur.ownBlock) (hat : cur2.ownBlock = cur.ownBlock ∨ ∃ b, cur2.ownBlock = some b ∧ w.heap.size ≤ b) (hk : Kept e w w2 cur (l.length * d.sz)) : Cur d e w1 w2 base v cur2 M (l ++ ys) := by
  refine ⟨hr, ⟨hg.os.trans h.g.os, hg.tape.trans h.g.tape, hg.output.trans h.g.output, Nat.le_trans h.g.size hg.size, fun k hk hn => (hg.block k (Nat.lt_of_lt_of_le hk h.g.size) (fun q => ?_)).trans (h.g.block k hk hn)⟩, ?_, h.s.kept hK hg hk (Nat.mul_le_mul_right _ h.len), by have := h.len; rw [List.length_append]; omega⟩
  · rcases h.at_ with ha | ha
    · exact hn (q.trans ha)
    · have := ha k q.symm; omega
  · rcases hat with hat | ⟨b, hb, hle⟩
    · rw [hat]; exact h.at_
    · right
      intro k hk'
      rw [hb] at hk'
      injection hk' with hk'
      have := h.g.size
      omega
/-- So many lists are grown. -/
structure Grown (d : Kd α) (e eL : Nat) (w0 w : World) (base : Nat) (O : Value) (vs os : List Value) (L : List (List α)) (F G : Nat → List α → List α) (i : Nat) : Prop where
  hO : w.ownsRow w0.heap.size eL 1 O i os
  fx : FxT e base w0 w
  lt : ∀ (j : Nat) v k, vs[j]? = some v → v.ownBlock = some k → k < w0.heap.size ∧ base ≤ k ∧ ∃ cs, w0.heap[k]? = some (.cells cs e (0, 0))
  sees : ∀ (j : Nat) v l, vs[j]? = some v → L[j]? = some l → Sees d e w v (F j l)
  rest : ∀ (j : Nat) v l, i ≤ j → vs[j]? = some v → L[j]? = some l → d.R e w base (fun _ => True) v (F j l)
  outs : ∀ (j : Nat) v l, os[j]? = some v → L[j]? = some l → d.R e w base (fun _ => True) v (G j l) ∧ ∀ k, v.ownBlock = some k → w0.heap.size ≤ k ∨ ∃ x, vs[j]? = some x ∧ x.ownBlock = some k
theorem Shelf.grown (h : Shelf d e eL w base V vs L F) : Grown d e eL w w base (.slice none 0 0) vs [] L F G 0 := by
  refine ⟨World.ownsRow_nil w _ _ 1, FxT.refl _ _ _, fun j v k hv hk => ?_, fun j v l hv hl => Sees.of_R (h.rv.2 j v l hv hl), fun j v l _ hv hl => h.rv.2 j v l hv hl, fun j v l hv => by simp at hv⟩
  have hj : j < L.length := by rw [← h.rv.1]; exact (List.getElem?_eq_some_iff.1 hv).1
  have hr := h.rv.2 j v _ hv (List.getElem?_eq_getElem hj)
  exact ⟨Kd.R_lt hr k hk, Kd.R_base hr k hk, Kd.R_typed hr k hk⟩
theorem Grown.shows (hV : w0.ownsRow base eL 1 V L.length vs) (hne : eL ≠ e) (h : Grown d e eL w0 w base O vs os L F G L.length) : Shows d e eL w w0.heap.size O os L G ∧ Shows d e eL w base V vs L F ∧ FxT e base w0 w :=
  ⟨⟨h.hO, fun j v l hv hl => Sees.of_R (h.outs j v l hv hl).1⟩, ⟨h.fx.own hV hne, fun j v l hv hl => h.sees j v l hv hl⟩, h.fx⟩
end
end Go.Proofs.Ytjbimnicnehnaaa.Hand
end
