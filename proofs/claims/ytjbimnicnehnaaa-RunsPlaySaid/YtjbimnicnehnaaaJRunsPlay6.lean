/- Parts of the proof for RunsPlay: Tidy, Row, Ax9, Ax10, SpanT, Runs, Ax12, Sets, SetsB, SetEq, SetSp, Lent, St2. -/
import Derived.ChangeKeysEq
import Derived.Test.YtjbimnicnehnaaaJRunsPlay5
import Derived.Test.YtjbimnicnehnaaaJRunsPlay2
import Derived.Test.YtjbimnicnehnaaaJRunsPlay4
import Derived.Test.YtjbimnicnehnaaaJRunsPlay1
section
namespace Go.Proofs.Ytjbimnicnehnaaa.Hand
open Go.RowKit Go.Proofs.YtjbimnicnehnaaaW.PrintWords Go.Proofs.Ytjbimnicnehnaaa.A
set_option linter.unusedVariables false
set_option linter.unusedSimpArgs false
instance decS : DecidableEq S24 := fun a b => decidable_of_iff (a.f0 = b.f0 ∧ a.f1 = b.f1) ⟨fun h => by cases a; cases b; simp_all, fun h => by rw [h]; exact ⟨rfl, rfl⟩⟩
/-- Blocks that a list of spans has. -/
def inSp (x : S24) (k : Int) : Prop := x.f0 ≤ k ∧ k < x.f0 + x.f1
def mem (l : List S24) (k : Int) : Prop := ∃ x ∈ l, inSp x k
/-- As few spans as may be, rising, from a place on. -/
def Tidy : Int → List S24 → Prop
  | _, [] => True
  | lo, x :: l => lo ≤ x.f0 ∧ 1 ≤ x.f1 ∧ x.f0 + x.f1 ≤ 64 ∧ Tidy (x.f0 + x.f1 + 1) l
theorem mem_nil (k : Int) : ¬ mem [] k := fun ⟨_, h, _⟩ => by simp at h
theorem mem_cons (x : S24) (l : List S24) (k : Int) : mem (x :: l) k ↔ inSp x k ∨ mem l k := by
  unfold mem; simp
theorem mem_append (a b : List S24) (k : Int) : mem (a ++ b) k ↔ mem a k ∨ mem b k := by
  unfold mem
  constructor
  · rintro ⟨x, h, hk⟩
    rcases List.mem_append.1 h with h | h
    · exact .inl ⟨x, h, hk⟩
    · exact .inr ⟨x, h, hk⟩
  · rintro (⟨x, h, hk⟩ | ⟨x, h, hk⟩)
    · exact ⟨x, List.mem_append.2 (.inl h), hk⟩
    · exact ⟨x, List.mem_append.2 (.inr h), hk⟩
theorem Tidy.lo : ∀ {l : List S24} {lo lo' : Int}, Tidy lo l → lo' ≤ lo → Tidy lo' l
  | [], _, _, _, _ => trivial
  | _ :: _, _, _, ⟨h1, h2, h3, h4⟩, h => ⟨by omega, h2, h3, h4⟩
theorem Tidy.ge : ∀ {l : List S24} {lo k : Int}, Tidy lo l → mem l k → lo ≤ k ∧ k < 64
  | [], _, k, _, h => absurd h (mem_nil k)
  | x :: l, lo, k, ⟨h1, h2, h3, h4⟩, h => by
    rcases (mem_cons x l k).1 h with h | h
    · unfold inSp at h; omega
    · have := h4.ge h; omega
theorem Tidy.ext : ∀ {l l' : List S24} {lo lo' : Int}, Tidy lo l → Tidy lo' l' → (∀ k, mem l k ↔ mem l' k) → l = l'
  | [], [], _, _, _, _, _ => rfl
  | [], y :: l', _, _, _, ⟨_, h2, _, _⟩, h => absurd ((h y.f0).2 ((mem_cons y l' _).2 (.inl ⟨by omega, by omega⟩))) (mem_nil _)
  | x :: l, [], _, _, ⟨_, h2, _, _⟩, _, h => absurd ((h x.f0).1 ((mem_cons x l _).2 (.inl ⟨by omega, by omega⟩))) (mem_nil _)
  | x :: l, y :: l', lo, lo', ⟨_, h2, h3, h4⟩, ⟨_, g2, g3, g4⟩, h => by
    have lox : ∀ k, mem (x :: l) k → x.f0 ≤ k := fun k hk => by
      rcases (mem_cons x l k).1 hk with hk | hk
      · exact hk.1
      · have := h4.ge hk; omega
    have loy : ∀ k, mem (y :: l') k → y.f0 ≤ k := fun k hk => by
      rcases (mem_cons y l' k).1 hk with hk | hk
      · exact hk.1
      · have := g4.ge hk; omega
    have e0 : x.f0 = y.f0 := by
      have a := loy _ ((h x.f0).1 ((mem_cons x l _).2 (.inl ⟨by omega, by omega⟩)))
      have b := lox _ ((h y.f0).2 ((mem_cons y l' _).2 (.inl ⟨by omega, by omega⟩)))
      omega
    have nx : ¬ mem (x :: l) (x.f0 + x.f1) := fun hk => by
      rcases (mem_cons x l _).1 hk with hk | hk
      · unfold inSp at hk; omega
      · have := h4.ge hk; omega
    have ny : ¬ mem (y :: l') (y.f0 + y.f1) := fun hk => by
      rcases (mem_cons y l' _).1 hk with hk | hk
      · unfold inSp at hk; omega
      · have := g4.ge hk; omega
    have e1 : x.f1 = y.f1 := by
      rcases Int.lt_trichotomy x.f1 y.f1 with hlt | he | hgt
      · exact absurd ((h (x.f0 + x.f1)).2 ((mem_cons y l' _).2 (.inl ⟨by omega, by omega⟩))) nx
      · exact he
      · exact absurd ((h (y.f0 + y.f1)).1 ((mem_cons x l _).2 (.inl ⟨by omega, by omega⟩))) ny
    have e : x = y := by cases x; cases y; simp_all
    subst e
    have hl : l = l' := Tidy.ext h4 g4 (fun k => by
      constructor
      · intro hk
        have hge := h4.ge hk
        rcases (mem_cons x l' k).1 ((h k).1 ((mem_cons x l k).2 (.inr hk))) with hh | hh
        · unfold inSp at hh; omega
        · exact hh
      · intro hk
        have hge := g4.ge hk
        rcases (mem_cons x l k).1 ((h k).2 ((mem_cons x l' k).2 (.inr hk))) with hh | hh
        · unfold inSp at hh; omega
        · exact hh)
    rw [hl]
/-- A tidy list whose blocks all end ahead of a place, and more behind it. -/
def Ends (l : List S24) (p : Int) : Prop := ∀ x ∈ l, x.f0 + x.f1 ≤ p
theorem Tidy.snoc : ∀ {l : List S24} {lo : Int} {s : S24}, Tidy lo l → lo ≤ s.f0 → 1 ≤ s.f1 → s.f0 + s.f1 ≤ 64 → Ends l (s.f0 - 1) → Tidy lo (l ++ [s])
  | [], _, _, _, h0, h1, h2, _ => ⟨h0, h1, h2, trivial⟩
  | x :: l, lo, s, ⟨g1, g2, g3, g4⟩, h0, h1, h2, he => ⟨g1, g2, g3, g4.snoc (by have := he x (by simp); omega) h1 h2 (fun y hy => he y (by simp [hy]))⟩
theorem Ends.snoc {l : List S24} {p q : Int} {s : S24} (h : Ends l p) (hq : p ≤ q) (hs : s.f0 + s.f1 ≤ q) : Ends (l ++ [s]) q := by
  intro x hx
  rcases List.mem_append.1 hx with hx | hx
  · have := h x hx; omega
  · have : x = s := by simpa using hx
    subst this; exact hs
theorem Ends.mono {l : List S24} {p q : Int} (h : Ends l p) (hq : p ≤ q) : Ends l q := fun x hx => by have := h x hx; omega
/-- The state of add's loop: the span, whether it has been put, what has been put. -/
def joined (x s : S24) : S24 := ⟨min x.f0 s.f0, max (x.f0 + x.f1) (s.f0 + s.f1) - min x.f0 s.f0⟩
def addStep (t : S24 × Bool × List S24) (x : S24) : S24 × Bool × List S24 :=
  if touches x.f0 x.f1 t.1.f0 t.1.f1 then (joined x t.1, t.2.1, t.2.2)
  else if t.2.1 = false ∧ t.1.f0 < x.f0 then (t.1, true, t.2.2 ++ [t.1] ++ [x])
  else (t.1, t.2.1, t.2.2 ++ [x])
def addGo (l : List S24) (s : S24) : S24 × Bool × List S24 := l.foldl addStep (s, false, [])
def addV (l : List S24) (s : S24) : List S24 := if (addGo l s).2.1 then (addGo l s).2.2 else (addGo l s).2.2 ++ [(addGo l s).1]
/-- What holds behind some of the list: p is where it ended. -/
def AddInv (M : Int → Prop) (p : Int) (t : S24 × Bool × List S24) : Prop :=
  Tidy 0 t.2.2 ∧ Ends t.2.2 p ∧ wh t.1.f0 t.1.f1 ∧
  ((t.2.1 = false ∧ Ends t.2.2 (t.1.f0 - 1) ∧ ∀ k, (mem t.2.2 k ∨ inSp t.1 k) ↔ M k) ∨
   (t.2.1 = true ∧ t.1.f0 + t.1.f1 ≤ p ∧ ∀ k, mem t.2.2 k ↔ M k))
theorem AddInv.step {M : Int → Prop} {p : Int} {t : S24 × Bool × List S24} {x : S24} (h : AddInv M p t) (hx0 : p + 1 ≤ x.f0 ∨ (p = -1 ∧ 0 ≤ x.f0)) (hx1 : 1 ≤ x.f1) (hx2 : x.f0 + x.f1 ≤ 64) (hp : -1 ≤ p) :
    AddInv (fun k => M k ∨ inSp x k) (x.f0 + x.f1) (addStep t x) := by
  obtain ⟨s, d, o⟩ := t
  obtain ⟨h1, h2, h3, h4⟩ := h
  simp only at h1 h2 h3 h4
  have hx0' : 0 ≤ x.f0 := by omega
  have hpx : p + 1 ≤ x.f0 := by omega
  unfold addStep
  simp only
  by_cases ht : touches x.f0 x.f1 s.f0 s.f1
  · rw [if_pos ht]
    have ht' := ht
    unfold touches wh at ht'
    refine ⟨h1, h2.mono (by omega), by unfold wh joined; simp only; omega, ?_⟩
    rcases h4 with ⟨hd, he, hm⟩ | ⟨hd, he, hm⟩
    · refine .inl ⟨hd, fun y hy => ?_, fun k => ?_⟩
      · have a := he y hy
        have b := h2 y hy
        unfold joined; simp only; omega
      · have hmk := hm k
        simp only at hmk ⊢
        rw [← hmk]
        unfold joined inSp
        simp only
        constructor
        · rintro (h | h)
          · exact .inl (.inl h)
          · by_cases hk : s.f0 ≤ k ∧ k < s.f0 + s.f1
            · exact .inl (.inr hk)
            · exact .inr (by omega)
        · rintro ((h | h) | h)
          · exact .inl h
          · exact .inr (by omega)
          · exact .inr (by omega)
    · omega
  · rw [if_neg ht]
    unfold touches wh at ht
    unfold wh at h3
    by_cases hb : d = false ∧ s.f0 < x.f0
    · rw [if_pos hb]
      rcases h4 with ⟨hd, he, hm⟩ | ⟨hd, he, hm⟩
      · have hsx : s.f0 + s.f1 < x.f0 := by omega
        refine ⟨(h1.snoc h3.1 h3.2.1 h3.2.2 he).snoc hx0' hx1 hx2 (he.snoc (by omega) (by omega)), (he.snoc (q := x.f0 + x.f1) (by omega) (by omega)).snoc (Int.le_refl _) (Int.le_refl _), h3, .inr ⟨rfl, by simp only; omega, fun k => ?_⟩⟩
        have hmk := hm k
        simp only at hmk ⊢
        rw [mem_append, mem_append, mem_cons, mem_cons, ← hmk]
        have := mem_nil k
        simp only [this, or_false]
      · rw [hb.1] at hd; cases hd
    · rw [if_neg hb]
      rcases h4 with ⟨hd, he, hm⟩ | ⟨hd, he, hm⟩
      · have hsx : x.f0 + x.f1 < s.f0 := by
          have : ¬ s.f0 < x.f0 := fun z => hb ⟨hd, z⟩
          omega
        refine ⟨h1.snoc hx0' hx1 hx2 (h2.mono (by omega)), h2.snoc (by omega) (Int.le_refl _), h3, .inl ⟨hd, ?_, fun k => ?_⟩⟩
        · show Ends (o ++ [x]) (s.f0 - 1)
          exact (h2.mono (q := s.f0 - 1) (by omega)).snoc (Int.le_refl _) (by omega)
        · have hmk := hm k
          simp only at hmk ⊢
          rw [mem_append, mem_cons, ← hmk]
          have := mem_nil k
          simp only [this, or_false]
          constructor
          · rintro ((h | h) | h)
            · exact .inl (.inl h)
            · exact .inr h
            · exact .inl (.inr h)
          · rintro ((h | h) | h)
            · exact .inl (.inl h)
            · exact .inr h
            · exact .inl (.inr h)
      · refine ⟨h1.snoc hx0' hx1 hx2 (h2.mono (by omega)), h2.snoc (by omega) (Int.le_refl _), h3, .inr ⟨hd, by simp only; omega, fun k => ?_⟩⟩
        have hmk := hm k
        show mem (o ++ [x]) k ↔ M k ∨ inSp x k
        rw [← hmk, mem_append, mem_cons]
        have := mem_nil k
        simp only [this, or_false]
theorem addInv_all : ∀ (l : List S24) (M : Int → Prop) (p : Int) (t : S24 × Bool × List S24), -1 ≤ p → AddInv M p t → Tidy (p + 1) l → ∃ q, AddInv (fun k => M k ∨ mem l k) q (l.foldl addStep t)
  | [], M, p, t, _, h, _ => ⟨p, by simpa [mem_nil] using h⟩
  | x :: l, M, p, t, hp, h, ⟨g1, g2, g3, g4⟩ => by
    have h' := h.step (x := x) (.inl g1) g2 g3 hp
    obtain ⟨q, hq⟩ := addInv_all l _ _ _ (by omega) h' g4
    refine ⟨q, ?_⟩
    have e : (fun k => (M k ∨ inSp x k) ∨ mem l k) = fun k => M k ∨ mem (x :: l) k := by
      funext k; rw [mem_cons, or_assoc]
    rw [e] at hq
    exact hq
theorem addV_spec {l : List S24} {s : S24} (h : Tidy 0 l) (hs : wh s.f0 s.f1) : Tidy 0 (addV l s) ∧ ∀ k, mem (addV l s) k ↔ mem l k ∨ inSp s k := by
  have hnil : ∀ p, Ends ([] : List S24) p := fun p x hx => by cases hx
  have h0 : AddInv (inSp s) (-1) (s, false, []) := ⟨trivial, hnil _, hs, .inl ⟨rfl, hnil _, fun k => by simp [mem_nil]⟩⟩
  obtain ⟨q, hq⟩ := addInv_all l _ _ _ (Int.le_refl _) h0 h
  unfold addV addGo
  generalize l.foldl addStep (s, false, []) = t at *
  obtain ⟨g1, g2, g3, g4⟩ := hq
  rcases g4 with ⟨hd, he, hm⟩ | ⟨hd, he, hm⟩
  · rw [hd]
    simp only [Bool.false_eq_true, if_false]
    refine ⟨g1.snoc g3.1 g3.2.1 g3.2.2 he, fun k => ?_⟩
    rw [mem_append, mem_cons]
    have := hm k
    have hn := mem_nil k
    simp only [hn, or_false]
    rw [this, or_comm]
  · rw [hd]
    simp only [if_true]
    exact ⟨g1, fun k => by rw [hm k, or_comm]⟩
def cutV (l : List S24) (s : S24) : List S24 := l.flatMap (fun x => lessV x.f0 x.f1 s.f0 s.f1)
theorem cutV_spec {s : S24} (hs : wh s.f0 s.f1) : ∀ {l : List S24} {lo : Int}, 0 ≤ lo → Tidy lo l → Tidy lo (cutV l s) ∧ ∀ k, mem (cutV l s) k ↔ mem l k ∧ ¬ inSp s k
  | [], lo, _, _ => ⟨trivial, fun k => by simp [cutV, mem_nil]⟩
  | x :: l, lo, h0, ⟨h1, h2, h3, h4⟩ => by
    obtain ⟨g1, g2⟩ := cutV_spec hs (lo := x.f0 + x.f1 + 1) (by omega) h4
    have e : cutV (x :: l) s = lessV x.f0 x.f1 s.f0 s.f1 ++ cutV l s := rfl
    rw [e]
    have hw : wh x.f0 x.f1 := by unfold wh; omega
    unfold wh at hs
    have hn := fun k => mem_nil k
    unfold lessV
    rw [if_pos hw]
    by_cases c : laps x.f0 x.f1 s.f0 s.f1
    · rw [if_pos c]
      unfold laps wh at c
      by_cases c1 : x.f0 < s.f0
      · rw [if_pos c1]
        by_cases c2 : s.f0 + s.f1 < x.f0 + x.f1
        · rw [if_pos c2]
          refine ⟨⟨h1, by simp only; omega, by simp only; omega, by simp only; omega, by simp only; omega, by simp only; omega, g1.lo (by simp only; omega)⟩, fun k => ?_⟩
          simp only [List.cons_append, List.nil_append]
          rw [mem_cons, mem_cons, g2 k, mem_cons]
          unfold inSp; simp only
          constructor
          · rintro (h | h | h)
            · exact ⟨.inl (by omega), by omega⟩
            · exact ⟨.inl (by omega), by omega⟩
            · exact ⟨.inr h.1, h.2⟩
          · rintro ⟨h | h, h'⟩
            · by_cases hk : k < s.f0
              · exact .inl (by omega)
              · exact .inr (.inl (by omega))
            · exact .inr (.inr ⟨h, h'⟩)
        · rw [if_neg c2]
          refine ⟨⟨h1, by simp only; omega, by simp only; omega, g1.lo (by simp only; omega)⟩, fun k => ?_⟩
          simp only [List.cons_append, List.nil_append]
          rw [mem_cons, g2 k, mem_cons]
          unfold inSp; simp only
          constructor
          · rintro (h | h)
            · exact ⟨.inl (by omega), by omega⟩
            · exact ⟨.inr h.1, h.2⟩
          · rintro ⟨h | h, h'⟩
            · exact .inl (by omega)
            · exact .inr ⟨h, h'⟩
      · rw [if_neg c1]
        by_cases c2 : s.f0 + s.f1 < x.f0 + x.f1
        · rw [if_pos c2]
          refine ⟨⟨by simp only; omega, by simp only; omega, by simp only; omega, g1.lo (by simp only; omega)⟩, fun k => ?_⟩
          simp only [List.cons_append, List.nil_append]
          rw [mem_cons, g2 k, mem_cons]
          unfold inSp; simp only
          constructor
          · rintro (h | h)
            · exact ⟨.inl (by omega), by omega⟩
            · exact ⟨.inr h.1, h.2⟩
          · rintro ⟨h | h, h'⟩
            · exact .inl (by omega)
            · exact .inr ⟨h, h'⟩
        · rw [if_neg c2]
          refine ⟨g1.lo (by omega), fun k => ?_⟩
          simp only [List.nil_append]
          rw [g2 k, mem_cons]
          unfold inSp
          constructor
          · rintro ⟨h, h'⟩
            exact ⟨.inr h, h'⟩
          · rintro ⟨h | h, h'⟩
            · omega
            · exact ⟨h, h'⟩
    · rw [if_neg c]
      unfold laps wh at c
      refine ⟨⟨h1, h2, h3, g1⟩, fun k => ?_⟩
      simp only [List.cons_append, List.nil_append]
      rw [mem_cons, g2 k, mem_cons]
      unfold inSp; simp only
      constructor
      · rintro (h | h)
        · exact ⟨.inl h, by omega⟩
        · exact ⟨.inr h.1, h.2⟩
      · rintro ⟨h | h, h'⟩
        · exact .inl h
        · exact .inr ⟨h, h'⟩
/-- How many blocks. -/
def sumN (l : List S24) : Int := (l.map (·.f1)).sum
theorem sumN_cons (x : S24) (l : List S24) : sumN (x :: l) = x.f1 + sumN l := by unfold sumN; simp
theorem sumN_append (a b : List S24) : sumN (a ++ b) = sumN a + sumN b := by unfold sumN; simp
theorem Tidy.sum : ∀ {l : List S24} {lo : Int}, lo ≤ 65 → Tidy lo l → 0 ≤ sumN l ∧ sumN l ≤ 65 - lo
  | [], lo, h, _ => by simp [sumN]; omega
  | x :: l, lo, h, ⟨h1, h2, h3, h4⟩ => by have := h4.sum (by omega); rw [sumN_cons]; omega
theorem Tidy.length : ∀ {l : List S24} {lo : Int}, lo ≤ 65 → Tidy lo l → (l.length : Int) ≤ 65 - lo
  | [], lo, h, _ => by simp; omega
  | x :: l, lo, h, ⟨h1, h2, h3, h4⟩ => by have := h4.length (by omega); rw [List.length_cons]; omega
theorem Tidy.whole : ∀ {l : List S24} {lo : Int}, 0 ≤ lo → Tidy lo l → ∀ x ∈ l, wh x.f0 x.f1
  | [], _, _, _, x, hx => by simp at hx
  | y :: l, lo, h, ⟨h1, h2, h3, h4⟩, x, hx => by
    rcases List.mem_cons.1 hx with rfl | hx
    · unfold wh; omega
    · exact h4.whole (by omega) x hx
theorem Tidy.take : ∀ {l : List S24} {lo : Int} (n : Nat), Tidy lo l → Tidy lo (l.take n)
  | [], _, _, _ => by simp [Tidy]
  | x :: l, _, 0, _ => trivial
  | x :: l, _, n + 1, ⟨h1, h2, h3, h4⟩ => ⟨h1, h2, h3, h4.take n⟩
/-- A set of blocks, as a list of bools, as spans. -/
def spansFrom (s : List Bool) : Nat → Nat → List S24
  | _, 0 => []
  | k, n + 1 => if s.getD k false then
      match spansFrom s (k + 1) n with
      | y :: r => if y.f0 = ((k + 1 : Nat) : Int) then ⟨(k : Int), y.f1 + 1⟩ :: r else ⟨(k : Int), 1⟩ :: y :: r
      | [] => [⟨(k : Int), 1⟩]
    else spansFrom s (k + 1) n
theorem spansFrom_spec (s : List Bool) : ∀ (n k : Nat), k + n ≤ 64 → Tidy (k : Int) (spansFrom s k n) ∧ ∀ j : Int, mem (spansFrom s k n) j ↔ (k : Int) ≤ j ∧ j < k + n ∧ s.getD j.toNat false = true
  | 0, k, _ => ⟨trivial, fun j => by simp only [spansFrom, mem_nil, false_iff]; omega⟩
  | n + 1, k, h => by
    obtain ⟨g1, g2⟩ := spansFrom_spec s n (k + 1) (by omega)
    unfold spansFrom
    by_cases c : s.getD k false = true
    · rw [if_pos c]
      cases hl : spansFrom s (k + 1) n with
      | nil =>
        rw [hl] at g2
        refine ⟨⟨Int.le_refl _, by simp only; omega, by simp only; omega, trivial⟩, fun j => ?_⟩
        have := g2 j
        rw [mem_cons]
        have hn := mem_nil j
        simp only [hn, or_false, false_iff] at this ⊢
        unfold inSp
        simp only
        constructor
        · intro hj
          obtain rfl : j = k := by omega
          exact ⟨by omega, by omega, by simpa using c⟩
        · rintro ⟨a, b, d⟩
          by_cases hj : j = k
          · omega
          · exact absurd ⟨by omega, by omega, d⟩ this
      | cons y r =>
        rw [hl] at g1 g2
        obtain ⟨t1, t2, t3, t4⟩ := g1
        have key : ∀ j : Int, (mem (y :: r) j ∨ j = k) ↔ (k : Int) ≤ j ∧ j < k + (n + 1 : Nat) ∧ s.getD j.toNat false = true := by
          intro j
          rw [g2 j]
          constructor
          · rintro (⟨a, b, d⟩ | rfl)
            · exact ⟨by omega, by omega, d⟩
            · exact ⟨by omega, by omega, by simpa using c⟩
          · rintro ⟨a, b, d⟩
            by_cases hj : j = k
            · exact .inr hj
            · exact .inl ⟨by omega, by omega, d⟩
        simp only
        by_cases e : y.f0 = ((k + 1 : Nat) : Int)
        · rw [if_pos e]
          refine ⟨⟨Int.le_refl _, by simp only; omega, by simp only; omega, t4.lo (by simp only; omega)⟩, fun j => ?_⟩
          rw [← key j, mem_cons, mem_cons]
          unfold inSp
          simp only
          constructor
          · rintro (a | a)
            · by_cases hj : j = k
              · exact .inr hj
              · exact .inl (.inl (by omega))
            · exact .inl (.inr a)
          · rintro ((a | a) | a)
            · exact .inl (by omega)
            · exact .inr a
            · exact .inl (by omega)
        · rw [if_neg e]
          refine ⟨⟨Int.le_refl _, by simp only; omega, by simp only; omega, ?_, t2, t3, t4⟩, fun j => ?_⟩
          · simp only; omega
          · rw [← key j, mem_cons]
            unfold inSp
            simp only
            constructor
            · rintro (a | a)
              · exact .inr (by omega)
              · exact .inl a
            · rintro (a | a)
              · exact .inr a
              · exact .inl (by omega)
    · rw [if_neg c]
      refine ⟨g1.lo (by omega), fun j => ?_⟩
      rw [g2 j]
      constructor
      · rintro ⟨a, b, d⟩
        exact ⟨by omega, by omega, d⟩
      · rintro ⟨a, b, d⟩
        by_cases hj : j = k
        · subst hj; simp at d; simp [d] at c
        · exact ⟨by omega, by omega, d⟩
def spansOf (s : List Bool) : List S24 := spansFrom s 0 64
theorem spansOf_tidy (s : List Bool) : Tidy 0 (spansOf s) := (spansFrom_spec s 64 0 (by decide)).1
theorem spansOf_mem (s : List Bool) (j : Int) : mem (spansOf s) j ↔ 0 ≤ j ∧ j < 64 ∧ s.getD j.toNat false = true := by
  have := (spansFrom_spec s 64 0 (by decide)).2 j
  rw [spansOf, this]; simp
/-- A tidy list is the set that has its blocks. -/
theorem tidy_eq {l : List S24} {s : List Bool} (h : Tidy 0 l) (hm : ∀ k : Nat, k < 64 → (mem l k ↔ s.getD k false = true)) : l = spansOf s :=
  h.ext (spansOf_tidy s) (fun j => by
    rw [spansOf_mem]
    constructor
    · intro hj
      have := h.ge hj
      obtain ⟨q, rfl⟩ := Int.eq_ofNat_of_zero_le this.1
      exact ⟨by omega, by omega, by rw [Int.toNat_natCast]; exact (hm q (by omega)).1 hj⟩
    · rintro ⟨a, b, c⟩
      obtain ⟨q, rfl⟩ := Int.eq_ofNat_of_zero_le a
      exact (hm q (by omega)).2 (by rwa [Int.toNat_natCast] at c))
end Go.Proofs.Ytjbimnicnehnaaa.Hand
end
section
namespace Go.Proofs.Ytjbimnicnehnaaa.Hand
open Go.RowKit Go.Proofs.YtjbimnicnehnaaaW.PrintWords Go.Proofs.YtjbimnicnehnaaaW.PrintLast Go.Proofs.YtjbimnicnehnaaaW.PrintMore Go.Proofs.Ytjbimnicnehnaaa.A
set_option linter.unusedVariables false
set_option linter.unusedSimpArgs false
/-- The cells of spans. -/
def flat (l : List S24) : List Value := l.flatMap fun x => [.int .i64 x.f0, .int .i64 x.f1]
theorem flat_cons (x : S24) (l : List S24) : flat (x :: l) = .int .i64 x.f0 :: .int .i64 x.f1 :: flat l := rfl
theorem flat_append (a b : List S24) : flat (a ++ b) = flat a ++ flat b := by unfold flat; rw [List.flatMap_append]
theorem flat_length : ∀ l : List S24, (flat l).length = l.length * 2
  | [] => rfl
  | x :: l => by rw [flat_cons, List.length_cons, List.length_cons, flat_length l, List.length_cons]; omega
theorem flat_get : ∀ (l : List S24) (i : Nat) (x : S24), l[i]? = some x → (flat l)[i * 2]? = some (.int .i64 x.f0) ∧ (flat l)[i * 2 + 1]? = some (.int .i64 x.f1)
  | [], i, x, h => by simp at h
  | y :: l, 0, x, h => by
    injection h with h; subst h
    exact ⟨rfl, rfl⟩
  | y :: l, i + 1, x, h => by
    have := flat_get l i x (by simpa using h)
    rw [flat_cons, show (i + 1) * 2 = i * 2 + 1 + 1 by omega]
    exact this
/-- A row of spans of one's own, from a block on. -/
abbrev ORow (w : World) (base : Nat) (v : Value) (l : List S24) : Prop := w.ownsRow base 24 2 v l.length (flat l)
theorem ORow.nil (w : World) (base : Nat) : ORow w base (.slice none 0 0) [] := World.ownsRow_nil w base _ 2
theorem ORow.reads {w : World} {base : Nat} {v : Value} {l : List S24} (h : ORow w base v l) : ∃ A c, v = .slice A l.length c ∧ l.length ≤ c ∧ Kd.C k24 w A l.length l ∧ v.ownBlock = A.map (·.block) := by
  rcases h.2 with ⟨rfl, h0⟩ | ⟨g, cap, cur, rfl, hb, hh, hn, hm, hs, ht⟩
  · obtain rfl : l = [] := List.eq_nil_of_length_eq_zero h0
    exact ⟨none, 0, rfl, Nat.le_refl _, ⟨rfl, by decide, fun h => by simp at h⟩, rfl⟩
  · refine ⟨some ⟨g, 0, none⟩, cap, rfl, hn, ⟨rfl, Nat.le_trans hn hm, fun _ => ⟨_, rfl, fun j x hj => ⟨[.int .i64 x.f0, .int .i64 x.f1], rfl, k24_mk w x, fun q u hq => ?_⟩⟩⟩, rfl⟩
    have hc := h.cells (g := g) rfl
    obtain ⟨g0, g1⟩ := flat_get l j x hj
    match q, hq with
    | 0, hq => injection hq with hq; subst hq; exact hc _ _ g0
    | 1, hq => injection hq with hq; subst hq; exact hc _ _ g1
    | q + 2, hq => simp at hq
theorem ORow.opened {w : World} {base : Nat} {v : Value} {l : List S24} (h : ORow w base v l) (h0 : 0 < l.length) : ∃ g c, v = .slice (some ⟨g, 0, none⟩) l.length c ∧ l.length ≤ c ∧ base ≤ g ∧ g < w.heap.size ∧ (∀ i x, l[i]? = some x → w.cell? ⟨g, i * 2, none⟩ = some (.int .i64 x.f0) ∧ w.cell? ⟨g, i * 2 + 1, none⟩ = some (.int .i64 x.f1)) ∧ ∀ i, w.frozen? ⟨g, i, none⟩ = false := by
  rcases h.2 with ⟨_, h1⟩ | ⟨g, cap, cur, rfl, hb, hh, hn, hm, hs, ht⟩
  · omega
  · refine ⟨g, cap, rfl, hn, hb, (Array.getElem?_eq_some_iff.1 hh).1, fun i x hx => ?_, fun i => frozen_of_row w g i cur _ hh⟩
    have hil : i < l.length := by
      rcases Nat.lt_or_ge i l.length with h | h
      · exact h
      · rw [List.getElem?_eq_none h] at hx; cases hx
    obtain ⟨g0, g1⟩ := flat_get l i x hx
    exact ⟨(World.ownsRow.cellAt h (i * 2) (by omega)).trans g0, (World.ownsRow.cellAt h (i * 2 + 1) (by omega)).trans g1⟩
theorem ORow.below {w w1 : World} {base : Nat} {v : Value} {l : List S24} (h : ORow w base v l) (hb : Below w.heap.size w w1) : ORow w1 base v l := own_move h (fun k hk => hb.block k (own_lt h k hk))
theorem ORow.only {w w1 : World} {base g : Nat} {v : Value} {l : List S24} (h : ORow w base v l) (ho : Only w w1 g) (hne : v.ownBlock ≠ some g) : ORow w1 base v l :=
  own_move h (fun k hk => ho.block k (own_lt h k hk) (fun e => hne (by rw [hk]; exact e)))
theorem ORow.far {w : World} {base : Nat} {v : Value} {l : List S24} (h : ORow w base v l) {p : Addr} (hne : v.ownBlock ≠ some p.block) (u : Value) : ORow (w.setCell p u) base v l :=
  own_move h (fun k hk => Below.heap_setCell w p u k (fun e => hne (by rw [hk, e])))
theorem ORow.lower {w : World} {base base' : Nat} {v : Value} {l : List S24} (h : ORow w base v l) (hb : base' ≤ base) : ORow w base' v l := own_weaken h hb
/-- By types: a block of another type is not the row's. -/
theorem ORow.ne {w : World} {base g t : Nat} {v : Value} {l : List S24} {cs : Array Value} (h : ORow w base v l) (hb : Blk w g t cs) (ht : 24 ≠ t) : v.ownBlock ≠ some g := fun e => own_ne h hb.hd ht e.symm
theorem reps_flat : ∀ (l : List S24) (inner : List Value) (w : World) (base : Nat) (ok : Nat → Prop), Reps (k24.M w base ok) 2 l inner → inner = flat l := by
  intro l inner w base ok h
  apply List.ext_getElem?
  intro j
  have hl : inner.length = l.length * 2 := h.1
  by_cases hj : j < l.length * 2
  · obtain ⟨i, hi⟩ : ∃ i, j = i * 2 ∨ j = i * 2 + 1 := ⟨j / 2, by omega⟩
    have hil : i < l.length := by omega
    have hx : l[i]? = some l[i] := List.getElem?_eq_getElem hil
    have hm := k24_openM (h.2 i l[i] hx)
    obtain ⟨g0, g1⟩ := flat_get l i l[i] hx
    have e : ∀ q, q < 2 → inner[i * 2 + q]? = (((inner.drop (i * 2)).take 2))[q]? := by
      intro q hq
      rw [List.getElem?_take, if_pos hq, List.getElem?_drop]
    rcases hi with rfl | rfl
    · rw [g0, show i * 2 = i * 2 + 0 by omega, e 0 (by omega), hm]; rfl
    · rw [g1, e 1 (by omega), hm]; rfl
  · rw [List.getElem?_eq_none (by omega), List.getElem?_eq_none (by rw [flat_length]; omega)]
theorem flat_reps (w : World) (base : Nat) (ok : Nat → Prop) : ∀ l : List S24, Reps (k24.M w base ok) 2 l (flat l)
  | [] => Reps.none _ _
  | x :: l => by
    have ih := flat_reps w base ok l
    refine ⟨flat_length _, fun j p hj => ?_⟩
    cases j with
    | zero => injection hj with hj; subst hj; exact k24_mkM _ _ _ _
    | succ j =>
      have := ih.2 j p (by simpa using hj)
      rw [flat_cons, show (j + 1) * 2 = j * 2 + 1 + 1 by omega]
      exact this
theorem ORow.to_R {w : World} {base : Nat} {v : Value} {l : List S24} (h : ORow w base v l) : Kd.R k24 24 w base (fun _ => True) v l :=
  ⟨fun _ _ => trivial, flat l, h, flat_reps _ _ _ l⟩
theorem ORow.of_R {w : World} {base : Nat} {ok : Nat → Prop} {v : Value} {l : List S24} (h : Kd.R k24 24 w base ok v l) : ORow w base v l := by
  obtain ⟨_, inner, ho, hr⟩ := h
  have := reps_flat l inner _ _ _ hr
  subst this
  exact ho
theorem Blk.grown {w w1 : World} {g t : Nat} {cs : Array Value} {row : Option Nat} (h : Blk w g t cs) (hg : w.grownBy w1 row) (hne : row ≠ some g) : Blk w1 g t cs := (hg.block g h.lt (fun e => hne e.symm)).trans h
theorem app_ne {v v1 : Value} {g n : Nat} (hN : v.ownBlock ≠ some g) (hg : g < n) (hat : v1.ownBlock = v.ownBlock ∨ ∃ b, v1.ownBlock = some b ∧ n ≤ b) : v1.ownBlock ≠ some g := by
  rcases hat with h | ⟨b, h, hb⟩
  · rw [h]; exact hN
  · rw [h]; intro e; injection e; omega
theorem ORow.snoc {w : World} {base : Nat} {v : Value} {l : List S24} {p q : Int} (h : w.ownsRow base 24 2 v (l.length + 1) (flat l ++ [.int .i64 p, .int .i64 q])) : ORow w base v (l ++ [⟨p, q⟩]) := by
  unfold ORow; rw [flat_append, List.length_append]; exact h
theorem ORow.ne_new {w : World} {base n : Nat} {v : Value} {l : List S24} (h : ORow w base v l) (hn : w.heap.size ≤ n) : v.ownBlock ≠ some n := fun e => by have := own_lt h n e; omega
theorem ORow.ne_old {w : World} {base n : Nat} {v : Value} {l : List S24} (h : ORow w base v l) (hn : n < base) : v.ownBlock ≠ some n := fun e => by have := own_base h n e; omega
theorem one_two (p q : Int) : ∀ u ∈ [Value.int .i64 p, Value.int .i64 q], u.oneCell' = true := by
  intro u h
  rcases List.mem_cons.1 h with rfl | h
  · rfl
  · rcases List.mem_cons.1 h with rfl | h
    · rfl
    · cases h
theorem info24' : (Try.prog.info? 24).map (fun i => (i.zero, i.size, i.bytes)) = some (some (.agg #[.int .i64 0, .int .i64 0]), 2, 16) := by kernel_rfl
end Go.Proofs.Ytjbimnicnehnaaa.Hand
end
section
namespace Go.Proofs.Ytjbimnicnehnaaa.A
open Go.RowKit Go.Proofs.YtjbimnicnehnaaaW.PrintWords Go.Proofs.YtjbimnicnehnaaaW.PrintLast Go.Proofs.YtjbimnicnehnaaaW.PrintMore
attribute [local go_sem] max2_int min2_int max_two min_two max_three min_three max_four min_four   -- for this text's walks alone
set_option linter.unusedVariables false
set_option linter.unusedSimpArgs false
def span_Touch.f (a0_0 : Int) (a0_1 : Int) (a1_0 : Int) (a1_1 : Int) : Option (Bool) := (span_whole.f a0_0 a0_1).bind fun t150 => (if t150 = true then ((span_whole.f a1_0 a1_1).bind fun t151 => (if t151 = true then ((span_End.f a0_0 a0_1).bind fun t152 => ((span_End.f a1_0 a1_1).bind fun t153 => (some (decide ((mx a0_0 a1_0) ≤ (mn t152 t153)))))) else (some false))) else (some false))
def span_Touch.T1 : Bool × List (List Nat × List Nat) := (true, [([], []), ([0], [0]), ([1, 1], [1]), ([2], [2]), ([3, 2, 2], [2, 3]), ([2, 4], [2, 4]), ([5, 4], [5]), ([6], [6]), ([7, 6], [6, 7]), ([6], [6]), ([9, 6], [6, 9]), ([8, 10, 6], [6, 8, 10]), ([6], [6]), ([12, 6, 6], [6, 12]), ([6], [6]), ([14, 13, 6], [6, 14]), ([13, 15, 6], [6, 13, 15]), ([11, 16, 6], [6, 11, 16]), ([6, 17], [6, 17]), ([18, 15, 0, 1, 2, 3, 4, 5, 6, 7, 8, 9, 10, 11, 12, 13, 14, 15, 16, 17, 18], [18])])
def span_Touch.B1 : List Nat := [0, 1, 3, 7, 15, 31, 63, 127, 255, 127, 639, 2047, 127, 4223, 127, 28799, 61567, 131071, 262143, 524287]
theorem span_Touch.tab1 : rtab .any (opsOf Try.f22 1) = span_Touch.T1 := by kernel_rfl
theorem span_Touch.bits1 : waitsOk span_Touch.T1.2 span_Touch.B1 = true := by kernel_rfl
set_option maxHeartbeats 8000000 in
set_option maxRecDepth 100000 in
theorem span_Touch.calls (a0_0 : Int) (a0_1 : Int) (a1_0 : Int) (a1_1 : Int) (r : Bool) (w : World) (h : span_Touch.f a0_0 a0_1 a1_0 a1_1 = some r) :
    Calls Try.prog 22 #[.agg #[.int .i64 a0_0, .int .i64 a0_1], .agg #[.int .i64 a1_0, .int .i64 a1_1]] w fun e w' => e = .returned (.bool r) ∧ Below w.heap.size w w' := by
  have hu24 := Try.underlying24
  have HB := Aside0.mk (Below.refl w.heap.size w)
  have H : ((span_whole.f a0_0 a0_1).bind fun t150 => (if t150 = true then ((span_whole.f a1_0 a1_1).bind fun t151 => (if t151 = true then ((span_End.f a0_0 a0_1).bind fun t152 => ((span_End.f a1_0 a1_1).bind fun t153 => (some (decide ((mx a0_0 a1_0) ≤ (mn t152 t153)))))) else (some false))) else (some false))) = some r := h
  clear h
  replace H := Option.bind_eq_some_iff.mp H
  obtain ⟨t150, A30, H⟩ := H
  replace H : (if t150 = true then ((span_whole.f a1_0 a1_1).bind fun t151 => (if t151 = true then ((span_End.f a0_0 a0_1).bind fun t152 => ((span_End.f a1_0 a1_1).bind fun t153 => (some (decide ((mx a0_0 a1_0) ≤ (mn t152 t153)))))) else (some false))) else (some false)) = some r := H
  have A3 := Aside0.mk A30
  clear A30
  by_cases c4 : t150 = true
  · subst c4
    have H1 : ((span_whole.f a1_0 a1_1).bind fun t151 => (if t151 = true then ((span_End.f a0_0 a0_1).bind fun t152 => ((span_End.f a1_0 a1_1).bind fun t153 => (some (decide ((mx a0_0 a1_0) ≤ (mn t152 t153)))))) else (some false))) = some r := by rw [if_pos rfl] at H; exact H
    clear H
    have H := H1
    clear H1
    replace H := Option.bind_eq_some_iff.mp H
    obtain ⟨t151, A50, H⟩ := H
    replace H : (if t151 = true then ((span_End.f a0_0 a0_1).bind fun t152 => ((span_End.f a1_0 a1_1).bind fun t153 => (some (decide ((mx a0_0 a1_0) ≤ (mn t152 t153)))))) else (some false)) = some r := H
    have A5 := Aside0.mk A50
    clear A50
    by_cases c6 : t151 = true
    · subst c6
      have H1 : ((span_End.f a0_0 a0_1).bind fun t152 => ((span_End.f a1_0 a1_1).bind fun t153 => (some (decide ((mx a0_0 a1_0) ≤ (mn t152 t153)))))) = some r := by rw [if_pos rfl] at H; exact H
      clear H
      have H := H1
      clear H1
      obtain ⟨ji7, hji7⟩ : ∃ j_ : Int, (mx a0_0 a1_0) = j_ := ⟨_, rfl⟩
      replace H : ((span_End.f a0_0 a0_1).bind fun t152 => ((span_End.f a1_0 a1_1).bind fun t153 => (some (decide ((ji7) ≤ (mn t152 t153)))))) = some r := by first | (rw [hji7] at H; exact H) | (simp only [hji7] at H ⊢; exact H)
      (try rw [hji7] at A3)
      (try rw [hji7] at A5)
      have hji7_ : (if a0_0 < a1_0 then a1_0 else a0_0) = ji7 := hji7
      replace H := Option.bind_eq_some_iff.mp H
      obtain ⟨t152, A80, H⟩ := H
      replace H : ((span_End.f a1_0 a1_1).bind fun t153 => (some (decide ((ji7) ≤ (mn t152 t153))))) = some r := H
      have A8 := Aside0.mk A80
      clear A80
      replace H := Option.bind_eq_some_iff.mp H
      obtain ⟨t153, A90, H⟩ := H
      replace H : (some (decide ((ji7) ≤ (mn t152 t153)))) = some r := H
      have A9 := Aside0.mk A90
      clear A90
      obtain ⟨ji10, hji10⟩ : ∃ j_ : Int, (mn t152 t153) = j_ := ⟨_, rfl⟩
      replace H : (some (decide ((ji7) ≤ (ji10)))) = some r := by first | (rw [hji10] at H; exact H) | (simp only [hji10] at H ⊢; exact H)
      (try rw [hji10] at A3)
      (try rw [hji10] at A5)
      (try rw [hji10] at A8)
      (try rw [hji10] at A9)
      have hji10_ : (if t153 < t152 then t153 else t152) = ji10 := hji10
      obtain rfl := Option.some.inj H
      go_enter Try.func22, Try.ntmps22
      try go_wp2_with (first | ((with_reducible refine gate_dst (N := 2) rfl ?_); (try (refine gate_guard (by rfl) ?_; dsimp only)); refine box_event ?hg (N := 2) ?hd (cs := #[.int .i64 a0_0, .int .i64 a0_1]) (t := 24) ?hr ?_; (case hd => rfl); (case hg => rfl); (case hr => first | (go_simp; done) | (go_simp; rfl)); intro gb148 hg w11 hbox hb; have n0_ := Aside0.mk (below_step (by repeat (first | (with_reducible first | exact HB.out | apply below_alloc | apply pw_below_drewN | apply below_drew1) | exact HB.out)) hb); have n1_ := Aside0.mk (hbox); have n2_ := Aside0.mk ((by rw [hg]; exact (below_size (by repeat (first | (with_reducible first | exact HB.out | apply below_alloc | apply pw_below_drewN | apply below_drew1) | exact HB.out))) : w.heap.size ≤ gb148)); have n3_ := Aside0.mk ((by rw [hg]; exact (below_size (by repeat (first | (with_reducible first | exact HB.out | apply below_alloc | apply pw_below_drewN | apply below_drew1) | exact HB.out))) : w.heap.size ≤ gb148)); clear HB; have HB := n0_; have BK148 := n1_; have GW148 := n2_; have GE148 := n3_; clear n0_ n1_ n2_ n3_; clear hb hbox hg) | ((with_reducible refine gate_dst (N := 3) rfl ?_); (try (refine gate_guard (by rfl) ?_; dsimp only)); refine box_event ?hg (N := 3) ?hd (cs := #[.int .i64 a1_0, .int .i64 a1_1]) (t := 24) ?hr ?_; (case hd => rfl); (case hg => rfl); (case hr => first | (go_simp; done) | (go_simp; rfl)); intro gb149 hg w12 hbox hb; have n0_ := Aside0.mk (blk_below (g := gb148) (o := .cells #[.int .i64 a0_0, .int .i64 a0_1] 24 (0, 0)) (by (with_reducible repeat (first | refine blk_drewN ?_ _ | refine blk_drew ?_ | refine blk_alloc ?_ _)); exact BK148.out) hb); have n1_ := Aside0.mk (below_step (by repeat (first | (with_reducible first | exact HB.out | apply below_alloc | apply pw_below_drewN | apply below_drew1 | refine below_set ?_ GE148.out) | exact HB.out)) hb); have n2_ := Aside0.mk (hbox); have n3_ := Aside0.mk ((by rw [hg]; exact (below_size (by repeat (first | (with_reducible first | exact HB.out | apply below_alloc | apply pw_below_drewN | apply below_drew1 | refine below_set ?_ GE148.out) | exact HB.out))) : w.heap.size ≤ gb149)); have n4_ := Aside0.mk ((by rw [hg]; exact (below_size (by repeat (first | (with_reducible first | exact HB.out | apply below_alloc | apply pw_below_drewN | apply below_drew1 | refine below_set ?_ GE148.out) | exact HB.out))) : w.heap.size ≤ gb149)); have n5_ := Aside0.mk ((by rw [hg]; exact Nat.ne_of_lt (blk_lt (g := gb148) (o := .cells #[.int .i64 a0_0, .int .i64 a0_1] 24 (0, 0)) (by (with_reducible repeat (first | refine blk_drewN ?_ _ | refine blk_drew ?_ | refine blk_alloc ?_ _)); exact BK148.out)) : gb148 ≠ gb149)); have n6_ := Aside0.mk ((by rw [hg]; exact Nat.ne_of_gt (blk_lt (g := gb148) (o := .cells #[.int .i64 a0_0, .int .i64 a0_1] 24 (0, 0)) (by (with_reducible repeat (first | refine blk_drewN ?_ _ | refine blk_drew ?_ | refine blk_alloc ?_ _)); exact BK148.out)) : gb149 ≠ gb148)); clear BK148; clear HB; have BK148 := n0_; have HB := n1_; have BK149 := n2_; have GW149 := n3_; have GE149 := n4_; have NB148_149 := n5_; have NB149_148 := n6_; clear n0_ n1_ n2_ n3_ n4_ n5_ n6_; clear hb hbox hg))
      have n0_ := Aside0.mk (blk_drew BK148.out)
      have n1_ := Aside0.mk (blk_drew BK149.out)
      have n2_ := Aside0.mk (below_drew1 HB.out)
      clear BK148
      clear BK149
      clear HB
      have BK148 := n0_
      have BK149 := n1_
      have HB := n2_
      clear n0_ n1_ n2_
      refine start_ (n := 20) (S := fun w' => w'.cell? ⟨gb148, 0, none⟩ = some (.int .i64 a0_0) ∧ w'.cell? ⟨gb148, 1, none⟩ = some (.int .i64 a0_1) ∧ w'.cell? ⟨gb149, 0, none⟩ = some (.int .i64 a1_0) ∧ w'.cell? ⟨gb149, 1, none⟩ = some (.int .i64 a1_1)) (ds := []) #[false, false, false, false, false, false, false, false, false, false, false, false, false, false, false, false, false, false, false, false] (by kernel_rfl) rfl rfl ⟨(blk_cell BK148.out 0).trans rfl, (blk_cell BK148.out 1).trans rfl, (blk_cell BK149.out 0).trans rfl, (blk_cell BK149.out 1).trans rfl⟩ (fun hHeld => ?_); refine with_tabW span_Touch.tab1 span_Touch.bits1 (fun HT_ HW_ => ?_)
      generalize w12.drew = w13 at BK148 BK149 HB hHeld ⊢
      refine take_ (i := 0) (N := some 5) (v := ?_) (a' := ?_) #[true, false, false, false, false, false, false, false, false, false, false, false, false, false, false, false, false, false, false, false] rfl rfl (take_ofW HT_.out HW_.out (by kernel_rfl)) (fun _ _ _ h => h) (Or.inl ⟨by rfl, ?_⟩) hHeld ?_ ?_
      rotate_left
      · rintro w' ⟨s0, s1, s2, s3⟩
        go_simp
        with_reducible rfl
      rotate_left
      · simp only [Act.put, List.setIfInBounds_toArray, List.set_cons_zero, List.set_cons_succ, i64_w, i32_w]
        rfl
      refine one_ (i := 1) (N := some 6) #[true, true, false, false, false, false, false, false, false, false, false, false, false, false, false, false, false, false, false, false] rfl rfl (one_of HT_.out (by kernel_rfl)) (by decide) (fun K hK => ?_)
      refine goes_ Try.func44 (by kernel_rfl) rfl #[.agg #[.int .i64 a0_0, .int .i64 a0_1]] (by rfl) rfl rfl (by (try simp only [List.map_toArray, List.map_cons, List.map_nil]); first | done | rfl | (simp only [List.length_drop, List.length_take]; rfl)) ?_
      with_reducible refine (span_whole.calls a0_0 a0_1 true _ A3.out).mono ?_
      rintro e w14 ⟨rfl, hb⟩
      refine ⟨_, rfl, ?_⟩
      have n0_ := Aside0.mk (blk_below (g := gb148) (o := .cells #[.int .i64 a0_0, .int .i64 a0_1] 24 (0, 0)) (by (with_reducible repeat (first | refine blk_drewN ?_ _ | refine blk_drew ?_ | refine blk_alloc ?_ _)); exact BK148.out) hb)
      have n1_ := Aside0.mk (blk_below (g := gb149) (o := .cells #[.int .i64 a1_0, .int .i64 a1_1] 24 (0, 0)) (by (with_reducible repeat (first | refine blk_drewN ?_ _ | refine blk_drew ?_ | refine blk_alloc ?_ _)); exact BK149.out) hb)
      have n2_ := Aside0.mk (below_step (by repeat (first | (with_reducible first | exact HB.out | apply below_alloc | apply pw_below_drewN | apply below_drew1 | refine below_set ?_ GE148.out | refine below_set ?_ GE149.out) | exact HB.out)) hb)
      clear BK148
      clear BK149
      clear HB
      have BK148 := n0_
      have BK149 := n1_
      have HB := n2_
      clear n0_ n1_ n2_
      (try clear hb)
      (try clear hb2)
      (try clear hk)
      (try clear hi)
      refine hK.out _ _ ⟨(blk_cell BK148.out 0).trans rfl, (blk_cell BK148.out 1).trans rfl, (blk_cell BK149.out 0).trans rfl, (blk_cell BK149.out 1).trans rfl⟩ (fun hHeld => ?_)
      clear hK K
      refine norm_ (a' := ?_) ?_ ?_
      rotate_left
      · show Act.put _ (some 6) _ = _
        simp only [Act.put, List.setIfInBounds_toArray, List.set_cons_zero, List.set_cons_succ, i64_w, i32_w]
        rfl
      refine pure_ (i := 2) (N := some 7) (v := ?_) (a' := ?_) #[true, true, true, false, false, false, false, false, false, false, false, false, false, false, false, false, false, false, false, false] rfl rfl (any_of HT_.out (by kernel_rfl)) (fun _ _ _ h => h) (Or.inl ⟨by rfl, ?_⟩) ?_ ?_
      rotate_left
      · intro w'
        go_simp
        with_reducible rfl
      rotate_left
      · simp only [Act.put, List.setIfInBounds_toArray, List.set_cons_zero, List.set_cons_succ, i64_w, i32_w]
        rfl
      refine take_ (i := 3) (N := some 8) (v := ?_) (a' := ?_) #[true, true, true, true, false, false, false, false, false, false, false, false, false, false, false, false, false, false, false, false] rfl rfl (take_ofW HT_.out HW_.out (by kernel_rfl)) (fun _ _ _ h => h) (Or.inl ⟨by rfl, ?_⟩) hHeld ?_ ?_
      rotate_left
      · rintro w' ⟨s0, s1, s2, s3⟩
        go_simp
        with_reducible rfl
      rotate_left
      · simp only [Act.put, List.setIfInBounds_toArray, List.set_cons_zero, List.set_cons_succ, i64_w, i32_w]
        rfl
      refine one_ (i := 4) (N := some 9) #[true, true, true, true, true, false, false, false, false, false, false, false, false, false, false, false, false, false, false, false] rfl rfl (one_of HT_.out (by kernel_rfl)) (by decide) (fun K hK => ?_)
      refine goes_ Try.func44 (by kernel_rfl) rfl #[.agg #[.int .i64 a1_0, .int .i64 a1_1]] (by rfl) rfl rfl (by (try simp only [List.map_toArray, List.map_cons, List.map_nil]); first | done | rfl | (simp only [List.length_drop, List.length_take]; rfl)) ?_
      with_reducible refine (span_whole.calls a1_0 a1_1 true _ A5.out).mono ?_
      rintro e w15 ⟨rfl, hb⟩
      refine ⟨_, rfl, ?_⟩
      have n0_ := Aside0.mk (blk_below (g := gb148) (o := .cells #[.int .i64 a0_0, .int .i64 a0_1] 24 (0, 0)) (by (with_reducible repeat (first | refine blk_drewN ?_ _ | refine blk_drew ?_ | refine blk_alloc ?_ _)); exact BK148.out) hb)
      have n1_ := Aside0.mk (blk_below (g := gb149) (o := .cells #[.int .i64 a1_0, .int .i64 a1_1] 24 (0, 0)) (by (with_reducible repeat (first | refine blk_drewN ?_ _ | refine blk_drew ?_ | refine blk_alloc ?_ _)); exact BK149.out) hb)
      have n2_ := Aside0.mk (below_step (by repeat (first | (with_reducible first | exact HB.out | apply below_alloc | apply pw_below_drewN | apply below_drew1 | refine below_set ?_ GE148.out | refine below_set ?_ GE149.out) | exact HB.out)) hb)
      clear BK148
      clear BK149
      clear HB
      have BK148 := n0_
      have BK149 := n1_
      have HB := n2_
      clear n0_ n1_ n2_
      (try clear hb)
      (try clear hb2)
      (try clear hk)
      (try clear hi)
      refine hK.out _ _ ⟨(blk_cell BK148.out 0).trans rfl, (blk_cell BK148.out 1).trans rfl, (blk_cell BK149.out 0).trans rfl, (blk_cell BK149.out 1).trans rfl⟩ (fun hHeld => ?_)
      clear hK K
      refine norm_ (a' := ?_) ?_ ?_
      rotate_left
      · show Act.put _ (some 9) _ = _
        simp only [Act.put, List.setIfInBounds_toArray, List.set_cons_zero, List.set_cons_succ, i64_w, i32_w]
        rfl
      refine pure_ (i := 5) (N := some 10) (v := ?_) (a' := ?_) #[true, true, true, true, true, true, false, false, false, false, false, false, false, false, false, false, false, false, false, false] rfl rfl (any_of HT_.out (by kernel_rfl)) (fun _ _ _ h => h) (Or.inl ⟨by rfl, ?_⟩) ?_ ?_
      rotate_left
      · intro w'
        go_simp
        with_reducible rfl
      rotate_left
      · simp only [Act.put, List.setIfInBounds_toArray, List.set_cons_zero, List.set_cons_succ, i64_w, i32_w]
        rfl
      refine pure_ (i := 6) (N := some 11) (v := ?_) (a' := ?_) #[true, true, true, true, true, true, true, false, false, false, false, false, false, false, false, false, false, false, false, false] rfl rfl (any_of HT_.out (by kernel_rfl)) (fun _ _ _ h => h) (Or.inl ⟨by rfl, ?_⟩) ?_ ?_
      rotate_left
      · intro w'
        go_simp
        with_reducible rfl
      rotate_left
      · simp only [Act.put, List.setIfInBounds_toArray, List.set_cons_zero, List.set_cons_succ, i64_w, i32_w]
        rfl
      refine pure_ (i := 7) (N := some 12) (v := ?_) (a' := ?_) #[true, true, true, true, true, true, true, true, false, false, false, false, false, false, false, false, false, false, false, false] rfl rfl (any_of HT_.out (by kernel_rfl)) (fun _ _ _ h => h) (Or.inl ⟨by rfl, ?_⟩) ?_ ?_
      rotate_left
      · intro w'
        go_simp
        with_reducible rfl
      rotate_left
      · simp only [Act.put, List.setIfInBounds_toArray, List.set_cons_zero, List.set_cons_succ, i64_w, i32_w]
        rfl
      refine pure_ (i := 9) (N := some 14) (v := ?_) (a' := ?_) #[true, true, true, true, true, true, true, true, false, true, false, false, false, false, false, false, false, false, false, false] rfl rfl (any_of HT_.out (by kernel_rfl)) (fun _ _ _ h => h) (Or.inl ⟨by rfl, ?_⟩) ?_ ?_
      rotate_left
      · intro w'
        go_simp
        with_reducible rfl
      rotate_left
      · simp only [Act.put, List.setIfInBounds_toArray, List.set_cons_zero, List.set_cons_succ, i64_w, i32_w]
        rfl
      refine take_ (i := 8) (N := some 13) (v := ?_) (a' := ?_) #[true, true, true, true, true, true, true, true, true, true, false, false, false, false, false, false, false, false, false, false] rfl rfl (take_ofW HT_.out HW_.out (by kernel_rfl)) (fun _ _ _ h => h) (Or.inl ⟨by rfl, ?_⟩) hHeld ?_ ?_
      rotate_left
      · rintro w' ⟨s0, s1, s2, s3⟩
        go_simp
        with_reducible rfl
      rotate_left
      · simp only [Act.put, List.setIfInBounds_toArray, List.set_cons_zero, List.set_cons_succ, i64_w, i32_w]
        rfl
      refine take_ (i := 10) (N := some 15) (v := ?_) (a' := ?_) #[true, true, true, true, true, true, true, true, true, true, true, false, false, false, false, false, false, false, false, false] rfl rfl (take_ofW HT_.out HW_.out (by kernel_rfl)) (fun _ _ _ h => h) (Or.inl ⟨by rfl, ?_⟩) hHeld ?_ ?_
      rotate_left
      · rintro w' ⟨s0, s1, s2, s3⟩
        go_simp
        with_reducible rfl
      rotate_left
      · simp only [Act.put, List.setIfInBounds_toArray, List.set_cons_zero, List.set_cons_succ, i64_w, i32_w]
        rfl
      refine pure_ (i := 11) (N := some 16) (v := ?_) (a' := ?_) #[true, true, true, true, true, true, true, true, true, true, true, true, false, false, false, false, false, false, false, false] rfl rfl (any_of HT_.out (by kernel_rfl)) (fun _ _ _ h => h) (Or.inl ⟨by rfl, ?_⟩) ?_ ?_
      rotate_left
      · intro w'
        go_simp
        with_reducible rfl
      rotate_left
      · simp only [Act.put, List.setIfInBounds_toArray, List.set_cons_zero, List.set_cons_succ, i64_w, i32_w]
        rfl
      refine take_ (i := 12) (N := some 17) (v := ?_) (a' := ?_) #[true, true, true, true, true, true, true, true, true, true, true, true, true, false, false, false, false, false, false, false] rfl rfl (take_ofW HT_.out HW_.out (by kernel_rfl)) (fun _ _ _ h => h) (Or.inl ⟨by rfl, ?_⟩) hHeld ?_ ?_
      rotate_left
      · rintro w' ⟨s0, s1, s2, s3⟩
        go_simp
        with_reducible rfl
      rotate_left
      · simp only [Act.put, List.setIfInBounds_toArray, List.set_cons_zero, List.set_cons_succ, i64_w, i32_w]
        rfl
      refine take_ (i := 14) (N := some 19) (v := ?_) (a' := ?_) #[true, true, true, true, true, true, true, true, true, true, true, true, true, false, true, false, false, false, false, false] rfl rfl (take_ofW HT_.out HW_.out (by kernel_rfl)) (fun _ _ _ h => h) (Or.inl ⟨by rfl, ?_⟩) hHeld ?_ ?_
      rotate_left
      · rintro w' ⟨s0, s1, s2, s3⟩
        go_simp
        with_reducible rfl
      rotate_left
      · simp only [Act.put, List.setIfInBounds_toArray, List.set_cons_zero, List.set_cons_succ, i64_w, i32_w]
        rfl
      refine one_ (i := 13) (N := some 18) #[true, true, true, true, true, true, true, true, true, true, true, true, true, true, true, false, false, false, false, false] rfl rfl (one_of HT_.out (by kernel_rfl)) (by decide) (fun K hK => ?_)
      refine goes_ Try.func24 (by kernel_rfl) rfl #[.agg #[.int .i64 a0_0, .int .i64 a0_1]] (by rfl) rfl rfl (by (try simp only [List.map_toArray, List.map_cons, List.map_nil]); first | done | rfl | (simp only [List.length_drop, List.length_take]; rfl)) ?_
      with_reducible refine (span_End.calls a0_0 a0_1 t152 _ A8.out).mono ?_
      rintro e w16 ⟨rfl, hb⟩
      refine ⟨_, rfl, ?_⟩
      have n0_ := Aside0.mk (blk_below (g := gb148) (o := .cells #[.int .i64 a0_0, .int .i64 a0_1] 24 (0, 0)) (by (with_reducible repeat (first | refine blk_drewN ?_ _ | refine blk_drew ?_ | refine blk_alloc ?_ _)); exact BK148.out) hb)
      have n1_ := Aside0.mk (blk_below (g := gb149) (o := .cells #[.int .i64 a1_0, .int .i64 a1_1] 24 (0, 0)) (by (with_reducible repeat (first | refine blk_drewN ?_ _ | refine blk_drew ?_ | refine blk_alloc ?_ _)); exact BK149.out) hb)
      have n2_ := Aside0.mk (below_step (by repeat (first | (with_reducible first | exact HB.out | apply below_alloc | apply pw_below_drewN | apply below_drew1 | refine below_set ?_ GE148.out | refine below_set ?_ GE149.out) | exact HB.out)) hb)
      clear BK148
      clear BK149
      clear HB
      have BK148 := n0_
      have BK149 := n1_
      have HB := n2_
      clear n0_ n1_ n2_
      (try clear hb)
      (try clear hb2)
      (try clear hk)
      (try clear hi)
      refine hK.out _ _ ⟨(blk_cell BK148.out 0).trans rfl, (blk_cell BK148.out 1).trans rfl, (blk_cell BK149.out 0).trans rfl, (blk_cell BK149.out 1).trans rfl⟩ (fun hHeld => ?_)
      clear hK K
      refine norm_ (a' := ?_) ?_ ?_
      rotate_left
      · show Act.put _ (some 18) _ = _
        simp only [Act.put, List.setIfInBounds_toArray, List.set_cons_zero, List.set_cons_succ, i64_w, i32_w]
        rfl
      refine one_ (i := 15) (N := some 20) #[true, true, true, true, true, true, true, true, true, true, true, true, true, true, true, true, false, false, false, false] rfl rfl (one_of HT_.out (by kernel_rfl)) (by decide) (fun K hK => ?_)
      refine goes_ Try.func24 (by kernel_rfl) rfl #[.agg #[.int .i64 a1_0, .int .i64 a1_1]] (by rfl) rfl rfl (by (try simp only [List.map_toArray, List.map_cons, List.map_nil]); first | done | rfl | (simp only [List.length_drop, List.length_take]; rfl)) ?_
      with_reducible refine (span_End.calls a1_0 a1_1 t153 _ A9.out).mono ?_
      rintro e w17 ⟨rfl, hb⟩
      refine ⟨_, rfl, ?_⟩
      have n0_ := Aside0.mk (blk_below (g := gb148) (o := .cells #[.int .i64 a0_0, .int .i64 a0_1] 24 (0, 0)) (by (with_reducible repeat (first | refine blk_drewN ?_ _ | refine blk_drew ?_ | refine blk_alloc ?_ _)); exact BK148.out) hb)
      have n1_ := Aside0.mk (blk_below (g := gb149) (o := .cells #[.int .i64 a1_0, .int .i64 a1_1] 24 (0, 0)) (by (with_reducible repeat (first | refine blk_drewN ?_ _ | refine blk_drew ?_ | refine blk_alloc ?_ _)); exact BK149.out) hb)
      have n2_ := Aside0.mk (below_step (by repeat (first | (with_reducible first | exact HB.out | apply below_alloc | apply pw_below_drewN | apply below_drew1 | refine below_set ?_ GE148.out | refine below_set ?_ GE149.out) | exact HB.out)) hb)
      clear BK148
      clear BK149
      clear HB
      have BK148 := n0_
      have BK149 := n1_
      have HB := n2_
      clear n0_ n1_ n2_
      (try clear hb)
      (try clear hb2)
      (try clear hk)
      (try clear hi)
      refine hK.out _ _ ⟨(blk_cell BK148.out 0).trans rfl, (blk_cell BK148.out 1).trans rfl, (blk_cell BK149.out 0).trans rfl, (blk_cell BK149.out 1).trans rfl⟩ (fun hHeld => ?_)
      clear hK K
      refine norm_ (a' := ?_) ?_ ?_
      rotate_left
      · show Act.put _ (some 20) _ = _
        simp only [Act.put, List.setIfInBounds_toArray, List.set_cons_zero, List.set_cons_succ, i64_w, i32_w]
        rfl
      refine pure_ (i := 16) (N := some 21) (v := ?_) (a' := ?_) #[true, true, true, true, true, true, true, true, true, true, true, true, true, true, true, true, true, false, false, false] rfl rfl (any_of HT_.out (by kernel_rfl)) (fun _ _ _ h => h) (Or.inl ⟨by rfl, ?_⟩) ?_ ?_
      rotate_left
      · intro w'
        go_simp
        with_reducible rfl
      rotate_left
      · simp only [Act.put, List.setIfInBounds_toArray, List.set_cons_zero, List.set_cons_succ, i64_w, i32_w]
        rfl
      refine pure_ (i := 17) (N := some 22) (v := ?_) (a' := ?_) #[true, true, true, true, true, true, true, true, true, true, true, true, true, true, true, true, true, true, false, false] rfl rfl (any_of HT_.out (by kernel_rfl)) (fun _ _ _ h => h) (Or.inl ⟨by rfl, ?_⟩) ?_ ?_
      rotate_left
      · intro w'
        go_simp
        with_reducible rfl
      rotate_left
      · simp only [Act.put, List.setIfInBounds_toArray, List.set_cons_zero, List.set_cons_succ, i64_w, i32_w]
        rfl
      refine pure_ (i := 18) (N := some 23) (v := ?_) (a' := ?_) #[true, true, true, true, true, true, true, true, true, true, true, true, true, true, true, true, true, true, true, false] rfl rfl (any_of HT_.out (by kernel_rfl)) (fun _ _ _ h => h) (Or.inl ⟨by rfl, ?_⟩) ?_ ?_
      rotate_left
      · intro w'
        go_simp
        with_reducible rfl
      rotate_left
      · simp only [Act.put, List.setIfInBounds_toArray, List.set_cons_zero, List.set_cons_succ, i64_w, i32_w]
        rfl
      refine pure_ (i := 19) (N := some 4) (v := ?_) (a' := ?_) #[true, true, true, true, true, true, true, true, true, true, true, true, true, true, true, true, true, true, true, true] rfl rfl (any_of HT_.out (by kernel_rfl)) (fun _ _ _ h => h) (Or.inl ⟨by rfl, ?_⟩) ?_ ?_
      rotate_left
      · intro w'
        go_simp
        with_reducible rfl
      rotate_left
      · simp only [Act.put, List.setIfInBounds_toArray, List.set_cons_zero, List.set_cons_succ, i64_w, i32_w]
        rfl
      refine done_ (done_of HT_.out (by kernel_rfl)) ?_
      try go_wp2
      go_ret
      exact ⟨by first | rfl | (simp [errW_none, errW_some] <;> rfl) | (simp only [← hji7, ← hji10]; first | rfl | (simp [errW_none, errW_some] <;> rfl)) | (simp [*, errW_none, errW_some] <;> rfl), by repeat (first | (with_reducible first | exact HB.out | apply below_alloc | apply pw_below_drewN | apply below_drew1 | refine below_set ?_ GE148.out | refine below_set ?_ GE149.out) | exact HB.out)⟩
    · replace c6 := Bool.eq_false_iff.mpr c6
      subst c6
      have H1 : (some false) = some r := by rw [if_neg (show ¬ (false = true) by decide)] at H; exact H
      clear H
      have H := H1
      clear H1
      obtain rfl := Option.some.inj H
      go_enter Try.func22, Try.ntmps22
      try go_wp2_with (first | ((with_reducible refine gate_dst (N := 2) rfl ?_); (try (refine gate_guard (by rfl) ?_; dsimp only)); refine box_event ?hg (N := 2) ?hd (cs := #[.int .i64 a0_0, .int .i64 a0_1]) (t := 24) ?hr ?_; (case hd => rfl); (case hg => rfl); (case hr => first | (go_simp; done) | (go_simp; rfl)); intro gb148 hg w18 hbox hb; have n0_ := Aside0.mk (below_step (by repeat (first | (with_reducible first | exact HB.out | apply below_alloc | apply pw_below_drewN | apply below_drew1) | exact HB.out)) hb); have n1_ := Aside0.mk (hbox); have n2_ := Aside0.mk ((by rw [hg]; exact (below_size (by repeat (first | (with_reducible first | exact HB.out | apply below_alloc | apply pw_below_drewN | apply below_drew1) | exact HB.out))) : w.heap.size ≤ gb148)); have n3_ := Aside0.mk ((by rw [hg]; exact (below_size (by repeat (first | (with_reducible first | exact HB.out | apply below_alloc | apply pw_below_drewN | apply below_drew1) | exact HB.out))) : w.heap.size ≤ gb148)); clear HB; have HB := n0_; have BK148 := n1_; have GW148 := n2_; have GE148 := n3_; clear n0_ n1_ n2_ n3_; clear hb hbox hg) | ((with_reducible refine gate_dst (N := 3) rfl ?_); (try (refine gate_guard (by rfl) ?_; dsimp only)); refine box_event ?hg (N := 3) ?hd (cs := #[.int .i64 a1_0, .int .i64 a1_1]) (t := 24) ?hr ?_; (case hd => rfl); (case hg => rfl); (case hr => first | (go_simp; done) | (go_simp; rfl)); intro gb149 hg w19 hbox hb; have n0_ := Aside0.mk (blk_below (g := gb148) (o := .cells #[.int .i64 a0_0, .int .i64 a0_1] 24 (0, 0)) (by (with_reducible repeat (first | refine blk_drewN ?_ _ | refine blk_drew ?_ | refine blk_alloc ?_ _)); exact BK148.out) hb); have n1_ := Aside0.mk (below_step (by repeat (first | (with_reducible first | exact HB.out | apply below_alloc | apply pw_below_drewN | apply below_drew1 | refine below_set ?_ GE148.out) | exact HB.out)) hb); have n2_ := Aside0.mk (hbox); have n3_ := Aside0.mk ((by rw [hg]; exact (below_size (by repeat (first | (with_reducible first | exact HB.out | apply below_alloc | apply pw_below_drewN | apply below_drew1 | refine below_set ?_ GE148.out) | exact HB.out))) : w.heap.size ≤ gb149)); have n4_ := Aside0.mk ((by rw [hg]; exact (below_size (by repeat (first | (with_reducible first | exact HB.out | apply below_alloc | apply pw_below_drewN | apply below_drew1 | refine below_set ?_ GE148.out) | exact HB.out))) : w.heap.size ≤ gb149)); have n5_ := Aside0.mk ((by rw [hg]; exact Nat.ne_of_lt (blk_lt (g := gb148) (o := .cells #[.int .i64 a0_0, .int .i64 a0_1] 24 (0, 0)) (by (with_reducible repeat (first | refine blk_drewN ?_ _ | refine blk_drew ?_ | refine blk_alloc ?_ _)); exact BK148.out)) : gb148 ≠ gb149)); have n6_ := Aside0.mk ((by rw [hg]; exact Nat.ne_of_gt (blk_lt (g := gb148) (o := .cells #[.int .i64 a0_0, .int .i64 a0_1] 24 (0, 0)) (by (with_reducible repeat (first | refine blk_drewN ?_ _ | refine blk_drew ?_ | refine blk_alloc ?_ _)); exact BK148.out)) : gb149 ≠ gb148)); clear BK148; clear HB; have BK148 := n0_; have HB := n1_; have BK149 := n2_; have GW149 := n3_; have GE149 := n4_; have NB148_149 := n5_; have NB149_148 := n6_; clear n0_ n1_ n2_ n3_ n4_ n5_ n6_; clear hb hbox hg))
      have n0_ := Aside0.mk (blk_drew BK148.out)
      have n1_ := Aside0.mk (blk_drew BK149.out)
      have n2_ := Aside0.mk (below_drew1 HB.out)
      clear BK148
      clear BK149
      clear HB
      have BK148 := n0_
      have BK149 := n1_
      have HB := n2_
      clear n0_ n1_ n2_
      refine start_ (n := 20) (S := fun w' => w'.cell? ⟨gb148, 0, none⟩ = some (.int .i64 a0_0) ∧ w'.cell? ⟨gb148, 1, none⟩ = some (.int .i64 a0_1) ∧ w'.cell? ⟨gb149, 0, none⟩ = some (.int .i64 a1_0) ∧ w'.cell? ⟨gb149, 1, none⟩ = some (.int .i64 a1_1)) (ds := []) #[false, false, false, false, false, false, false, false, false, false, false, false, false, false, false, false, false, false, false, false] (by kernel_rfl) rfl rfl ⟨(blk_cell BK148.out 0).trans rfl, (blk_cell BK148.out 1).trans rfl, (blk_cell BK149.out 0).trans rfl, (blk_cell BK149.out 1).trans rfl⟩ (fun hHeld => ?_); refine with_tabW span_Touch.tab1 span_Touch.bits1 (fun HT_ HW_ => ?_)
      generalize w19.drew = w20 at BK148 BK149 HB hHeld ⊢
      refine take_ (i := 0) (N := some 5) (v := ?_) (a' := ?_) #[true, false, false, false, false, false, false, false, false, false, false, false, false, false, false, false, false, false, false, false] rfl rfl (take_ofW HT_.out HW_.out (by kernel_rfl)) (fun _ _ _ h => h) (Or.inl ⟨by rfl, ?_⟩) hHeld ?_ ?_
      rotate_left
      · rintro w' ⟨s0, s1, s2, s3⟩
        go_simp
        with_reducible rfl
      rotate_left
      · simp only [Act.put, List.setIfInBounds_toArray, List.set_cons_zero, List.set_cons_succ, i64_w, i32_w]
        rfl
      refine one_ (i := 1) (N := some 6) #[true, true, false, false, false, false, false, false, false, false, false, false, false, false, false, false, false, false, false, false] rfl rfl (one_of HT_.out (by kernel_rfl)) (by decide) (fun K hK => ?_)
      refine goes_ Try.func44 (by kernel_rfl) rfl #[.agg #[.int .i64 a0_0, .int .i64 a0_1]] (by rfl) rfl rfl (by (try simp only [List.map_toArray, List.map_cons, List.map_nil]); first | done | rfl | (simp only [List.length_drop, List.length_take]; rfl)) ?_
      with_reducible refine (span_whole.calls a0_0 a0_1 true _ A3.out).mono ?_
      rintro e w21 ⟨rfl, hb⟩
      refine ⟨_, rfl, ?_⟩
      have n0_ := Aside0.mk (blk_below (g := gb148) (o := .cells #[.int .i64 a0_0, .int .i64 a0_1] 24 (0, 0)) (by (with_reducible repeat (first | refine blk_drewN ?_ _ | refine blk_drew ?_ | refine blk_alloc ?_ _)); exact BK148.out) hb)
      have n1_ := Aside0.mk (blk_below (g := gb149) (o := .cells #[.int .i64 a1_0, .int .i64 a1_1] 24 (0, 0)) (by (with_reducible repeat (first | refine blk_drewN ?_ _ | refine blk_drew ?_ | refine blk_alloc ?_ _)); exact BK149.out) hb)
      have n2_ := Aside0.mk (below_step (by repeat (first | (with_reducible first | exact HB.out | apply below_alloc | apply pw_below_drewN | apply below_drew1 | refine below_set ?_ GE148.out | refine below_set ?_ GE149.out) | exact HB.out)) hb)
      clear BK148
      clear BK149
      clear HB
      have BK148 := n0_
      have BK149 := n1_
      have HB := n2_
      clear n0_ n1_ n2_
      (try clear hb)
      (try clear hb2)
      (try clear hk)
      (try clear hi)
      refine hK.out _ _ ⟨(blk_cell BK148.out 0).trans rfl, (blk_cell BK148.out 1).trans rfl, (blk_cell BK149.out 0).trans rfl, (blk_cell BK149.out 1).trans rfl⟩ (fun hHeld => ?_)
      clear hK K
      refine norm_ (a' := ?_) ?_ ?_
      rotate_left
      · show Act.put _ (some 6) _ = _
        simp only [Act.put, List.setIfInBounds_toArray, List.set_cons_zero, List.set_cons_succ, i64_w, i32_w]
        rfl
      refine pure_ (i := 2) (N := some 7) (v := ?_) (a' := ?_) #[true, true, true, false, false, false, false, false, false, false, false, false, false, false, false, false, false, false, false, false] rfl rfl (any_of HT_.out (by kernel_rfl)) (fun _ _ _ h => h) (Or.inl ⟨by rfl, ?_⟩) ?_ ?_
      rotate_left
      · intro w'
        go_simp
        with_reducible rfl
      rotate_left
      · simp only [Act.put, List.setIfInBounds_toArray, List.set_cons_zero, List.set_cons_succ, i64_w, i32_w]
        rfl
      refine take_ (i := 3) (N := some 8) (v := ?_) (a' := ?_) #[true, true, true, true, false, false, false, false, false, false, false, false, false, false, false, false, false, false, false, false] rfl rfl (take_ofW HT_.out HW_.out (by kernel_rfl)) (fun _ _ _ h => h) (Or.inl ⟨by rfl, ?_⟩) hHeld ?_ ?_
      rotate_left
      · rintro w' ⟨s0, s1, s2, s3⟩
        go_simp
        with_reducible rfl
      rotate_left
      · simp only [Act.put, List.setIfInBounds_toArray, List.set_cons_zero, List.set_cons_succ, i64_w, i32_w]
        rfl
      refine one_ (i := 4) (N := some 9) #[true, true, true, true, true, false, false, false, false, false, false, false, false, false, false, false, false, false, false, false] rfl rfl (one_of HT_.out (by kernel_rfl)) (by decide) (fun K hK => ?_)
      refine goes_ Try.func44 (by kernel_rfl) rfl #[.agg #[.int .i64 a1_0, .int .i64 a1_1]] (by rfl) rfl rfl (by (try simp only [List.map_toArray, List.map_cons, List.map_nil]); first | done | rfl | (simp only [List.length_drop, List.length_take]; rfl)) ?_
      with_reducible refine (span_whole.calls a1_0 a1_1 false _ A5.out).mono ?_
      rintro e w22 ⟨rfl, hb⟩
      refine ⟨_, rfl, ?_⟩
      have n0_ := Aside0.mk (blk_below (g := gb148) (o := .cells #[.int .i64 a0_0, .int .i64 a0_1] 24 (0, 0)) (by (with_reducible repeat (first | refine blk_drewN ?_ _ | refine blk_drew ?_ | refine blk_alloc ?_ _)); exact BK148.out) hb)
      have n1_ := Aside0.mk (blk_below (g := gb149) (o := .cells #[.int .i64 a1_0, .int .i64 a1_1] 24 (0, 0)) (by (with_reducible repeat (first | refine blk_drewN ?_ _ | refine blk_drew ?_ | refine blk_alloc ?_ _)); exact BK149.out) hb)
      have n2_ := Aside0.mk (below_step (by repeat (first | (with_reducible first | exact HB.out | apply below_alloc | apply pw_below_drewN | apply below_drew1 | refine below_set ?_ GE148.out | refine below_set ?_ GE149.out) | exact HB.out)) hb)
      clear BK148
      clear BK149
      clear HB
      have BK148 := n0_
      have BK149 := n1_
      have HB := n2_
      clear n0_ n1_ n2_
      (try clear hb)
      (try clear hb2)
      (try clear hk)
      (try clear hi)
      refine hK.out _ _ ⟨(blk_cell BK148.out 0).trans rfl, (blk_cell BK148.out 1).trans rfl, (blk_cell BK149.out 0).trans rfl, (blk_cell BK149.out 1).trans rfl⟩ (fun hHeld => ?_)
      clear hK K
      refine norm_ (a' := ?_) ?_ ?_
      rotate_left
      · show Act.put _ (some 9) _ = _
        simp only [Act.put, List.setIfInBounds_toArray, List.set_cons_zero, List.set_cons_succ, i64_w, i32_w]
        rfl
      refine pure_ (i := 5) (N := some 10) (v := ?_) (a' := ?_) #[true, true, true, true, true, true, false, false, false, false, false, false, false, false, false, false, false, false, false, false] rfl rfl (any_of HT_.out (by kernel_rfl)) (fun _ _ _ h => h) (Or.inl ⟨by rfl, ?_⟩) ?_ ?_
      rotate_left
      · intro w'
        go_simp
        with_reducible rfl
      rotate_left
      · simp only [Act.put, List.setIfInBounds_toArray, List.set_cons_zero, List.set_cons_succ, i64_w, i32_w]
        rfl
      refine pure_ (i := 6) (N := some 11) (v := ?_) (a' := ?_) #[true, true, true, true, true, true, true, false, false, false, false, false, false, false, false, false, false, false, false, false] rfl rfl (any_of HT_.out (by kernel_rfl)) (fun _ _ _ h => h) (Or.inl ⟨by rfl, ?_⟩) ?_ ?_
      rotate_left
      · intro w'
        go_simp
        with_reducible rfl
      rotate_left
      · simp only [Act.put, List.setIfInBounds_toArray, List.set_cons_zero, List.set_cons_succ, i64_w, i32_w]
        rfl
      refine pure_ (i := 7) (N := some 12) (v := undef) (a' := ?_) #[true, true, true, true, true, true, true, true, false, false, false, false, false, false, false, false, false, false, false, false] rfl rfl (any_of HT_.out (by kernel_rfl)) (fun _ _ _ h => h) (Or.inr ⟨by rfl, rfl⟩) ?_ ?_
      rotate_left
      · simp only [Act.put, List.setIfInBounds_toArray, List.set_cons_zero, List.set_cons_succ, i64_w, i32_w]
        rfl
      refine pure_ (i := 8) (N := some 13) (v := undef) (a' := ?_) #[true, true, true, true, true, true, true, true, true, false, false, false, false, false, false, false, false, false, false, false] rfl rfl (any_of HT_.out (by kernel_rfl)) (fun _ _ _ h => h) (Or.inr ⟨by rfl, rfl⟩) ?_ ?_
      rotate_left
      · simp only [Act.put, List.setIfInBounds_toArray, List.set_cons_zero, List.set_cons_succ, i64_w, i32_w]
        rfl
      refine pure_ (i := 9) (N := some 14) (v := undef) (a' := ?_) #[true, true, true, true, true, true, true, true, true, true, false, false, false, false, false, false, false, false, false, false] rfl rfl (any_of HT_.out (by kernel_rfl)) (fun _ _ _ h => h) (Or.inr ⟨by rfl, rfl⟩) ?_ ?_
      rotate_left
      · simp only [Act.put, List.setIfInBounds_toArray, List.set_cons_zero, List.set_cons_succ, i64_w, i32_w]
        rfl
      refine pure_ (i := 10) (N := some 15) (v := undef) (a' := ?_) #[true, true, true, true, true, true, true, true, true, true, true, false, false, false, false, false, false, false, false, false] rfl rfl (any_of HT_.out (by kernel_rfl)) (fun _ _ _ h => h) (Or.inr ⟨by rfl, rfl⟩) ?_ ?_
      rotate_left
      · simp only [Act.put, List.setIfInBounds_toArray, List.set_cons_zero, List.set_cons_succ, i64_w, i32_w]
        rfl
      refine pure_ (i := 11) (N := some 16) (v := undef) (a' := ?_) #[true, true, true, true, true, true, true, true, true, true, true, true, false, false, false, false, false, false, false, false] rfl rfl (any_of HT_.out (by kernel_rfl)) (fun _ _ _ h => h) (Or.inr ⟨by rfl, rfl⟩) ?_ ?_
      rotate_left
      · simp only [Act.put, List.setIfInBounds_toArray, List.set_cons_zero, List.set_cons_succ, i64_w, i32_w]
        rfl
      refine pure_ (i := 12) (N := some 17) (v := undef) (a' := ?_) #[true, true, true, true, true, true, true, true, true, true, true, true, true, false, false, false, false, false, false, false] rfl rfl (any_of HT_.out (by kernel_rfl)) (fun _ _ _ h => h) (Or.inr ⟨by rfl, rfl⟩) ?_ ?_
      rotate_left
      · simp only [Act.put, List.setIfInBounds_toArray, List.set_cons_zero, List.set_cons_succ, i64_w, i32_w]
        rfl
      refine pure_ (i := 13) (N := some 18) (v := undef) (a' := ?_) #[true, true, true, true, true, true, true, true, true, true, true, true, true, true, false, false, false, false, false, false] rfl rfl (any_of HT_.out (by kernel_rfl)) (fun _ _ _ h => h) (Or.inr ⟨by rfl, rfl⟩) ?_ ?_
      rotate_left
      · simp only [Act.put, List.setIfInBounds_toArray, List.set_cons_zero, List.set_cons_succ, i64_w, i32_w]
        rfl
      refine pure_ (i := 14) (N := some 19) (v := undef) (a' := ?_) #[true, true, true, true, true, true, true, true, true, true, true, true, true, true, true, false, false, false, false, false] rfl rfl (any_of HT_.out (by kernel_rfl)) (fun _ _ _ h => h) (Or.inr ⟨by rfl, rfl⟩) ?_ ?_
      rotate_left
      · simp only [Act.put, List.setIfInBounds_toArray, List.set_cons_zero, List.set_cons_succ, i64_w, i32_w]
        rfl
      refine pure_ (i := 15) (N := some 20) (v := undef) (a' := ?_) #[true, true, true, true, true, true, true, true, true, true, true, true, true, true, true, true, false, false, false, false] rfl rfl (any_of HT_.out (by kernel_rfl)) (fun _ _ _ h => h) (Or.inr ⟨by rfl, rfl⟩) ?_ ?_
      rotate_left
      · simp only [Act.put, List.setIfInBounds_toArray, List.set_cons_zero, List.set_cons_succ, i64_w, i32_w]
        rfl
      refine pure_ (i := 16) (N := some 21) (v := undef) (a' := ?_) #[true, true, true, true, true, true, true, true, true, true, true, true, true, true, true, true, true, false, false, false] rfl rfl (any_of HT_.out (by kernel_rfl)) (fun _ _ _ h => h) (Or.inr ⟨by rfl, rfl⟩) ?_ ?_
      rotate_left
      · simp only [Act.put, List.setIfInBounds_toArray, List.set_cons_zero, List.set_cons_succ, i64_w, i32_w]
        rfl
      refine pure_ (i := 17) (N := some 22) (v := undef) (a' := ?_) #[true, true, true, true, true, true, true, true, true, true, true, true, true, true, true, true, true, true, false, false] rfl rfl (any_of HT_.out (by kernel_rfl)) (fun _ _ _ h => h) (Or.inr ⟨by rfl, rfl⟩) ?_ ?_
      rotate_left
      · simp only [Act.put, List.setIfInBounds_toArray, List.set_cons_zero, List.set_cons_succ, i64_w, i32_w]
        rfl
      refine pure_ (i := 18) (N := some 23) (v := ?_) (a' := ?_) #[true, true, true, true, true, true, true, true, true, true, true, true, true, true, true, true, true, true, true, false] rfl rfl (any_of HT_.out (by kernel_rfl)) (fun _ _ _ h => h) (Or.inl ⟨by rfl, ?_⟩) ?_ ?_
      rotate_left
      · intro w'
        go_simp
        with_reducible rfl
      rotate_left
      · simp only [Act.put, List.setIfInBounds_toArray, List.set_cons_zero, List.set_cons_succ, i64_w, i32_w]
        rfl
      refine pure_ (i := 19) (N := some 4) (v := ?_) (a' := ?_) #[true, true, true, true, true, true, true, true, true, true, true, true, true, true, true, true, true, true, true, true] rfl rfl (any_of HT_.out (by kernel_rfl)) (fun _ _ _ h => h) (Or.inl ⟨by rfl, ?_⟩) ?_ ?_
      rotate_left
      · intro w'
        go_simp
        with_reducible rfl
      rotate_left
      · simp only [Act.put, List.setIfInBounds_toArray, List.set_cons_zero, List.set_cons_succ, i64_w, i32_w]
        rfl
      refine done_ (done_of HT_.out (by kernel_rfl)) ?_
      try go_wp2
      go_ret
      exact ⟨by first | rfl | (simp [errW_none, errW_some] <;> rfl) | (simp [*, errW_none, errW_some] <;> rfl), by repeat (first | (with_reducible first | exact HB.out | apply below_alloc | apply pw_below_drewN | apply below_drew1 | refine below_set ?_ GE148.out | refine below_set ?_ GE149.out) | exact HB.out)⟩
  · replace c4 := Bool.eq_false_iff.mpr c4
    subst c4
    have H1 : (some false) = some r := by rw [if_neg (show ¬ (false = true) by decide)] at H; exact H
    clear H
    have H := H1
    clear H1
    obtain rfl := Option.some.inj H
    go_enter Try.func22, Try.ntmps22
    try go_wp2_with (first | ((with_reducible refine gate_dst (N := 2) rfl ?_); (try (refine gate_guard (by rfl) ?_; dsimp only)); refine box_event ?hg (N := 2) ?hd (cs := #[.int .i64 a0_0, .int .i64 a0_1]) (t := 24) ?hr ?_; (case hd => rfl); (case hg => rfl); (case hr => first | (go_simp; done) | (go_simp; rfl)); intro gb148 hg w23 hbox hb; have n0_ := Aside0.mk (below_step (by repeat (first | (with_reducible first | exact HB.out | apply below_alloc | apply pw_below_drewN | apply below_drew1) | exact HB.out)) hb); have n1_ := Aside0.mk (hbox); have n2_ := Aside0.mk ((by rw [hg]; exact (below_size (by repeat (first | (with_reducible first | exact HB.out | apply below_alloc | apply pw_below_drewN | apply below_drew1) | exact HB.out))) : w.heap.size ≤ gb148)); have n3_ := Aside0.mk ((by rw [hg]; exact (below_size (by repeat (first | (with_reducible first | exact HB.out | apply below_alloc | apply pw_below_drewN | apply below_drew1) | exact HB.out))) : w.heap.size ≤ gb148)); clear HB; have HB := n0_; have BK148 := n1_; have GW148 := n2_; have GE148 := n3_; clear n0_ n1_ n2_ n3_; clear hb hbox hg) | ((with_reducible refine gate_dst (N := 3) rfl ?_); (try (refine gate_guard (by rfl) ?_; dsimp only)); refine box_event ?hg (N := 3) ?hd (cs := #[.int .i64 a1_0, .int .i64 a1_1]) (t := 24) ?hr ?_; (case hd => rfl); (case hg => rfl); (case hr => first | (go_simp; done) | (go_simp; rfl)); intro gb149 hg w24 hbox hb; have n0_ := Aside0.mk (blk_below (g := gb148) (o := .cells #[.int .i64 a0_0, .int .i64 a0_1] 24 (0, 0)) (by (with_reducible repeat (first | refine blk_drewN ?_ _ | refine blk_drew ?_ | refine blk_alloc ?_ _)); exact BK148.out) hb); have n1_ := Aside0.mk (below_step (by repeat (first | (with_reducible first | exact HB.out | apply below_alloc | apply pw_below_drewN | apply below_drew1 | refine below_set ?_ GE148.out) | exact HB.out)) hb); have n2_ := Aside0.mk (hbox); have n3_ := Aside0.mk ((by rw [hg]; exact (below_size (by repeat (first | (with_reducible first | exact HB.out | apply below_alloc | apply pw_below_drewN | apply below_drew1 | refine below_set ?_ GE148.out) | exact HB.out))) : w.heap.size ≤ gb149)); have n4_ := Aside0.mk ((by rw [hg]; exact (below_size (by repeat (first | (with_reducible first | exact HB.out | apply below_alloc | apply pw_below_drewN | apply below_drew1 | refine below_set ?_ GE148.out) | exact HB.out))) : w.heap.size ≤ gb149)); have n5_ := Aside0.mk ((by rw [hg]; exact Nat.ne_of_lt (blk_lt (g := gb148) (o := .cells #[.int .i64 a0_0, .int .i64 a0_1] 24 (0, 0)) (by (with_reducible repeat (first | refine blk_drewN ?_ _ | refine blk_drew ?_ | refine blk_alloc ?_ _)); exact BK148.out)) : gb148 ≠ gb149)); have n6_ := Aside0.mk ((by rw [hg]; exact Nat.ne_of_gt (blk_lt (g := gb148) (o := .cells #[.int .i64 a0_0, .int .i64 a0_1] 24 (0, 0)) (by (with_reducible repeat (first | refine blk_drewN ?_ _ | refine blk_drew ?_ | refine blk_alloc ?_ _)); exact BK148.out)) : gb149 ≠ gb148)); clear BK148; clear HB; have BK148 := n0_; have HB := n1_; have BK149 := n2_; have GW149 := n3_; have GE149 := n4_; have NB148_149 := n5_; have NB149_148 := n6_; clear n0_ n1_ n2_ n3_ n4_ n5_ n6_; clear hb hbox hg))
    have n0_ := Aside0.mk (blk_drew BK148.out)
    have n1_ := Aside0.mk (blk_drew BK149.out)
    have n2_ := Aside0.mk (below_drew1 HB.out)
    clear BK148
    clear BK149
    clear HB
    have BK148 := n0_
    have BK149 := n1_
    have HB := n2_
    clear n0_ n1_ n2_
    refine start_ (n := 20) (S := fun w' => w'.cell? ⟨gb148, 0, none⟩ = some (.int .i64 a0_0) ∧ w'.cell? ⟨gb148, 1, none⟩ = some (.int .i64 a0_1)) (ds := []) #[false, false, false, false, false, false, false, false, false, false, false, false, false, false, false, false, false, false, false, false] (by kernel_rfl) rfl rfl ⟨(blk_cell BK148.out 0).trans rfl, (blk_cell BK148.out 1).trans rfl⟩ (fun hHeld => ?_); refine with_tabW span_Touch.tab1 span_Touch.bits1 (fun HT_ HW_ => ?_)
    generalize w24.drew = w25 at BK148 BK149 HB hHeld ⊢
    refine take_ (i := 0) (N := some 5) (v := ?_) (a' := ?_) #[true, false, false, false, false, false, false, false, false, false, false, false, false, false, false, false, false, false, false, false] rfl rfl (take_ofW HT_.out HW_.out (by kernel_rfl)) (fun _ _ _ h => h) (Or.inl ⟨by rfl, ?_⟩) hHeld ?_ ?_
    rotate_left
    · rintro w' ⟨s0, s1⟩
      go_simp
      with_reducible rfl
    rotate_left
    · simp only [Act.put, List.setIfInBounds_toArray, List.set_cons_zero, List.set_cons_succ, i64_w, i32_w]
      rfl
    refine one_ (i := 1) (N := some 6) #[true, true, false, false, false, false, false, false, false, false, false, false, false, false, false, false, false, false, false, false] rfl rfl (one_of HT_.out (by kernel_rfl)) (by decide) (fun K hK => ?_)
    refine goes_ Try.func44 (by kernel_rfl) rfl #[.agg #[.int .i64 a0_0, .int .i64 a0_1]] (by rfl) rfl rfl (by (try simp only [List.map_toArray, List.map_cons, List.map_nil]); first | done | rfl | (simp only [List.length_drop, List.length_take]; rfl)) ?_
    with_reducible refine (span_whole.calls a0_0 a0_1 false _ A3.out).mono ?_
    rintro e w26 ⟨rfl, hb⟩
    refine ⟨_, rfl, ?_⟩
    have n0_ := Aside0.mk (blk_below (g := gb148) (o := .cells #[.int .i64 a0_0, .int .i64 a0_1] 24 (0, 0)) (by (with_reducible repeat (first | refine blk_drewN ?_ _ | refine blk_drew ?_ | refine blk_alloc ?_ _)); exact BK148.out) hb)
    have n1_ := Aside0.mk (blk_below (g := gb149) (o := .cells #[.int .i64 a1_0, .int .i64 a1_1] 24 (0, 0)) (by (with_reducible repeat (first | refine blk_drewN ?_ _ | refine blk_drew ?_ | refine blk_alloc ?_ _)); exact BK149.out) hb)
    have n2_ := Aside0.mk (below_step (by repeat (first | (with_reducible first | exact HB.out | apply below_alloc | apply pw_below_drewN | apply below_drew1 | refine below_set ?_ GE148.out | refine below_set ?_ GE149.out) | exact HB.out)) hb)
    clear BK148
    clear BK149
    clear HB
    have BK148 := n0_
    have BK149 := n1_
    have HB := n2_
    clear n0_ n1_ n2_
    (try clear hb)
    (try clear hb2)
    (try clear hk)
    (try clear hi)
    refine hK.out _ _ ⟨(blk_cell BK148.out 0).trans rfl, (blk_cell BK148.out 1).trans rfl⟩ (fun hHeld => ?_)
    clear hK K
    refine norm_ (a' := ?_) ?_ ?_
    rotate_left
    · show Act.put _ (some 6) _ = _
      simp only [Act.put, List.setIfInBounds_toArray, List.set_cons_zero, List.set_cons_succ, i64_w, i32_w]
      rfl
    refine pure_ (i := 2) (N := some 7) (v := ?_) (a' := ?_) #[true, true, true, false, false, false, false, false, false, false, false, false, false, false, false, false, false, false, false, false] rfl rfl (any_of HT_.out (by kernel_rfl)) (fun _ _ _ h => h) (Or.inl ⟨by rfl, ?_⟩) ?_ ?_
    rotate_left
    · intro w'
      go_simp
      with_reducible rfl
    rotate_left
    · simp only [Act.put, List.setIfInBounds_toArray, List.set_cons_zero, List.set_cons_succ, i64_w, i32_w]
      rfl
    refine pure_ (i := 3) (N := some 8) (v := undef) (a' := ?_) #[true, true, true, true, false, false, false, false, false, false, false, false, false, false, false, false, false, false, false, false] rfl rfl (any_of HT_.out (by kernel_rfl)) (fun _ _ _ h => h) (Or.inr ⟨by rfl, rfl⟩) ?_ ?_
    rotate_left
    · simp only [Act.put, List.setIfInBounds_toArray, List.set_cons_zero, List.set_cons_succ, i64_w, i32_w]
      rfl
    refine pure_ (i := 4) (N := some 9) (v := undef) (a' := ?_) #[true, true, true, true, true, false, false, false, false, false, false, false, false, false, false, false, false, false, false, false] rfl rfl (any_of HT_.out (by kernel_rfl)) (fun _ _ _ h => h) (Or.inr ⟨by rfl, rfl⟩) ?_ ?_
    rotate_left
    · simp only [Act.put, List.setIfInBounds_toArray, List.set_cons_zero, List.set_cons_succ, i64_w, i32_w]
      rfl
    refine pure_ (i := 5) (N := some 10) (v := ?_) (a' := ?_) #[true, true, true, true, true, true, false, false, false, false, false, false, false, false, false, false, false, false, false, false] rfl rfl (any_of HT_.out (by kernel_rfl)) (fun _ _ _ h => h) (Or.inl ⟨by rfl, ?_⟩) ?_ ?_
    rotate_left
    · intro w'
      go_simp
      with_reducible rfl
    rotate_left
    · simp only [Act.put, List.setIfInBounds_toArray, List.set_cons_zero, List.set_cons_succ, i64_w, i32_w]
      rfl
    refine pure_ (i := 6) (N := some 11) (v := ?_) (a' := ?_) #[true, true, true, true, true, true, true, false, false, false, false, false, false, false, false, false, false, false, false, false] rfl rfl (any_of HT_.out (by kernel_rfl)) (fun _ _ _ h => h) (Or.inl ⟨by rfl, ?_⟩) ?_ ?_
    rotate_left
    · intro w'
      go_simp
      with_reducible rfl
    rotate_left
    · simp only [Act.put, List.setIfInBounds_toArray, List.set_cons_zero, List.set_cons_succ, i64_w, i32_w]
      rfl
    refine pure_ (i := 7) (N := some 12) (v := undef) (a' := ?_) #[true, true, true, true, true, true, true, true, false, false, false, false, false, false, false, false, false, false, false, false] rfl rfl (any_of HT_.out (by kernel_rfl)) (fun _ _ _ h => h) (Or.inr ⟨by rfl, rfl⟩) ?_ ?_
    rotate_left
    · simp only [Act.put, List.setIfInBounds_toArray, List.set_cons_zero, List.set_cons_succ, i64_w, i32_w]
      rfl
    refine pure_ (i := 8) (N := some 13) (v := undef) (a' := ?_) #[true, true, true, true, true, true, true, true, true, false, false, false, false, false, false, false, false, false, false, false] rfl rfl (any_of HT_.out (by kernel_rfl)) (fun _ _ _ h => h) (Or.inr ⟨by rfl, rfl⟩) ?_ ?_
    rotate_left
    · simp only [Act.put, List.setIfInBounds_toArray, List.set_cons_zero, List.set_cons_succ, i64_w, i32_w]
      rfl
    refine pure_ (i := 9) (N := some 14) (v := undef) (a' := ?_) #[true, true, true, true, true, true, true, true, true, true, false, false, false, false, false, false, false, false, false, false] rfl rfl (any_of HT_.out (by kernel_rfl)) (fun _ _ _ h => h) (Or.inr ⟨by rfl, rfl⟩) ?_ ?_
    rotate_left
    · simp only [Act.put, List.setIfInBounds_toArray, List.set_cons_zero, List.set_cons_succ, i64_w, i32_w]
      rfl
    refine pure_ (i := 10) (N := some 15) (v := undef) (a' := ?_) #[true, true, true, true, true, true, true, true, true, true, true, false, false, false, false, false, false, false, false, false] rfl rfl (any_of HT_.out (by kernel_rfl)) (fun _ _ _ h => h) (Or.inr ⟨by rfl, rfl⟩) ?_ ?_
    rotate_left
    · simp only [Act.put, List.setIfInBounds_toArray, List.set_cons_zero, List.set_cons_succ, i64_w, i32_w]
      rfl
    refine pure_ (i := 11) (N := some 16) (v := undef) (a' := ?_) #[true, true, true, true, true, true, true, true, true, true, true, true, false, false, false, false, false, false, false, false] rfl rfl (any_of HT_.out (by kernel_rfl)) (fun _ _ _ h => h) (Or.inr ⟨by rfl, rfl⟩) ?_ ?_
    rotate_left
    · simp only [Act.put, List.setIfInBounds_toArray, List.set_cons_zero, List.set_cons_succ, i64_w, i32_w]
      rfl
    refine pure_ (i := 12) (N := some 17) (v := undef) (a' := ?_) #[true, true, true, true, true, true, true, true, true, true, true, true, true, false, false, false, false, false, false, false] rfl rfl (any_of HT_.out (by kernel_rfl)) (fun _ _ _ h => h) (Or.inr ⟨by rfl, rfl⟩) ?_ ?_
    rotate_left
    · simp only [Act.put, List.setIfInBounds_toArray, List.set_cons_zero, List.set_cons_succ, i64_w, i32_w]
      rfl
    refine pure_ (i := 13) (N := some 18) (v := undef) (a' := ?_) #[true, true, true, true, true, true, true, true, true, true, true, true, true, true, false, false, false, false, false, false] rfl rfl (any_of HT_.out (by kernel_rfl)) (fun _ _ _ h => h) (Or.inr ⟨by rfl, rfl⟩) ?_ ?_
    rotate_left
    · simp only [Act.put, List.setIfInBounds_toArray, List.set_cons_zero, List.set_cons_succ, i64_w, i32_w]
      rfl
    refine pure_ (i := 14) (N := some 19) (v := undef) (a' := ?_) #[true, true, true, true, true, true, true, true, true, true, true, true, true, true, true, false, false, false, false, false] rfl rfl (any_of HT_.out (by kernel_rfl)) (fun _ _ _ h => h) (Or.inr ⟨by rfl, rfl⟩) ?_ ?_
    rotate_left
    · simp only [Act.put, List.setIfInBounds_toArray, List.set_cons_zero, List.set_cons_succ, i64_w, i32_w]
      rfl
    refine pure_ (i := 15) (N := some 20) (v := undef) (a' := ?_) #[true, true, true, true, true, true, true, true, true, true, true, true, true, true, true, true, false, false, false, false] rfl rfl (any_of HT_.out (by kernel_rfl)) (fun _ _ _ h => h) (Or.inr ⟨by rfl, rfl⟩) ?_ ?_
    rotate_left
    · simp only [Act.put, List.setIfInBounds_toArray, List.set_cons_zero, List.set_cons_succ, i64_w, i32_w]
      rfl
    refine pure_ (i := 16) (N := some 21) (v := undef) (a' := ?_) #[true, true, true, true, true, true, true, true, true, true, true, true, true, true, true, true, true, false, false, false] rfl rfl (any_of HT_.out (by kernel_rfl)) (fun _ _ _ h => h) (Or.inr ⟨by rfl, rfl⟩) ?_ ?_
    rotate_left
    · simp only [Act.put, List.setIfInBounds_toArray, List.set_cons_zero, List.set_cons_succ, i64_w, i32_w]
      rfl
    refine pure_ (i := 17) (N := some 22) (v := undef) (a' := ?_) #[true, true, true, true, true, true, true, true, true, true, true, true, true, true, true, true, true, true, false, false] rfl rfl (any_of HT_.out (by kernel_rfl)) (fun _ _ _ h => h) (Or.inr ⟨by rfl, rfl⟩) ?_ ?_
    rotate_left
    · simp only [Act.put, List.setIfInBounds_toArray, List.set_cons_zero, List.set_cons_succ, i64_w, i32_w]
      rfl
    refine pure_ (i := 18) (N := some 23) (v := ?_) (a' := ?_) #[true, true, true, true, true, true, true, true, true, true, true, true, true, true, true, true, true, true, true, false] rfl rfl (any_of HT_.out (by kernel_rfl)) (fun _ _ _ h => h) (Or.inl ⟨by rfl, ?_⟩) ?_ ?_
    rotate_left
    · intro w'
      go_simp
      with_reducible rfl
    rotate_left
    · simp only [Act.put, List.setIfInBounds_toArray, List.set_cons_zero, List.set_cons_succ, i64_w, i32_w]
      rfl
    refine pure_ (i := 19) (N := some 4) (v := ?_) (a' := ?_) #[true, true, true, true, true, true, true, true, true, true, true, true, true, true, true, true, true, true, true, true] rfl rfl (any_of HT_.out (by kernel_rfl)) (fun _ _ _ h => h) (Or.inl ⟨by rfl, ?_⟩) ?_ ?_
    rotate_left
    · intro w'
      go_simp
      with_reducible rfl
    rotate_left
    · simp only [Act.put, List.setIfInBounds_toArray, List.set_cons_zero, List.set_cons_succ, i64_w, i32_w]
      rfl
    refine done_ (done_of HT_.out (by kernel_rfl)) ?_
    try go_wp2
    go_ret
    exact ⟨by first | rfl | (simp [errW_none, errW_some] <;> rfl) | (simp [*, errW_none, errW_some] <;> rfl), by repeat (first | (with_reducible first | exact HB.out | apply below_alloc | apply pw_below_drewN | apply below_drew1 | refine below_set ?_ GE148.out | refine below_set ?_ GE149.out) | exact HB.out)⟩
end Go.Proofs.Ytjbimnicnehnaaa.A
end
section
namespace Go.Proofs.Ytjbimnicnehnaaa.A
open Go.RowKit Go.Proofs.YtjbimnicnehnaaaW.PrintWords Go.Proofs.YtjbimnicnehnaaaW.PrintLast Go.Proofs.YtjbimnicnehnaaaW.PrintMore
attribute [local go_sem] max2_int min2_int max_two min_two max_three min_three max_four min_four   -- for this text's walks alone
set_option linter.unusedVariables false
set_option linter.unusedSimpArgs false
def span_Join.f (a0_0 : Int) (a0_1 : Int) (a1_0 : Int) (a1_1 : Int) : Option (Int × Int × Bool) := (span_Touch.f a0_0 a0_1 a1_0 a1_1).bind fun t157 => (if t157 = true then ((span_End.f a0_0 a0_1).bind fun t158 => ((span_End.f a1_0 a1_1).bind fun t159 => ((span_of.f (mn a0_0 a1_0) (mx t158 t159)).bind fun bt160 => (some (bt160.1, bt160.2.1, bt160.2.2))))) else (some (0, 0, false)))
def span_Join.T3 : Bool × List (List Nat × List Nat) := (true, [([], []), ([0], [0]), ([], []), ([2], [2]), ([1, 3], [1, 3]), ([], []), ([5], [5]), ([], []), ([7, 6], [7]), ([6, 8], [6, 8]), ([4, 9, 8], [4, 9]), ([10], [10]), ([10], [10]), ([11, 10, 0, 1, 2, 3, 4, 5, 6, 7, 8, 9, 10, 11, 12], [11]), ([12, 13, 0, 1, 2, 3, 4, 5, 6, 7, 8, 9, 10, 11, 12, 13], [12])])
def span_Join.B3 : List Nat := [0, 1, 0, 4, 15, 0, 32, 0, 224, 480, 1023, 2047, 2047, 8191, 16383]
theorem span_Join.tab3 : rtab .any (opsOf Try.f21 3) = span_Join.T3 := by kernel_rfl
theorem span_Join.bits3 : waitsOk span_Join.T3.2 span_Join.B3 = true := by kernel_rfl
set_option maxHeartbeats 8000000 in
set_option maxRecDepth 100000 in
theorem span_Join.calls (a0_0 : Int) (a0_1 : Int) (a1_0 : Int) (a1_1 : Int) (r1 : Int) (r2 : Int) (r3 : Bool) (w : World) (h : span_Join.f a0_0 a0_1 a1_0 a1_1 = some (r1, r2, r3)) :
    Calls Try.prog 21 #[.agg #[.int .i64 a0_0, .int .i64 a0_1], .agg #[.int .i64 a1_0, .int .i64 a1_1]] w fun e w' => e = .returned (.tuple #[.agg #[.int .i64 r1, .int .i64 r2], .bool r3]) ∧ Below w.heap.size w w' := by
  have hu24 := Try.underlying24
  have HB := Aside0.mk (Below.refl w.heap.size w)
  have H : ((span_Touch.f a0_0 a0_1 a1_0 a1_1).bind fun t157 => (if t157 = true then ((span_End.f a0_0 a0_1).bind fun t158 => ((span_End.f a1_0 a1_1).bind fun t159 => ((span_of.f (mn a0_0 a1_0) (mx t158 t159)).bind fun bt160 => (some (bt160.1, bt160.2.1, bt160.2.2))))) else (some (0, 0, false)))) = some (r1, r2, r3) := h
  clear h
  replace H := Option.bind_eq_some_iff.mp H
  obtain ⟨t157, A30, H⟩ := H
  replace H : (if t157 = true then ((span_End.f a0_0 a0_1).bind fun t158 => ((span_End.f a1_0 a1_1).bind fun t159 => ((span_of.f (mn a0_0 a1_0) (mx t158 t159)).bind fun bt160 => (some (bt160.1, bt160.2.1, bt160.2.2))))) else (some (0, 0, false))) = some (r1, r2, r3) := H
  have A3 := Aside0.mk A30
  clear A30
  by_cases c4 : t157 = true
  · subst c4
    have H1 : ((span_End.f a0_0 a0_1).bind fun t158 => ((span_End.f a1_0 a1_1).bind fun t159 => ((span_of.f (mn a0_0 a1_0) (mx t158 t159)).bind fun bt160 => (some (bt160.1, bt160.2.1, bt160.2.2))))) = some (r1, r2, r3) := by rw [if_pos rfl] at H; exact H
    clear H
    have H := H1
    clear H1
    obtain ⟨ji5, hji5⟩ : ∃ j_ : Int, (mn a0_0 a1_0) = j_ := ⟨_, rfl⟩
    replace H : ((span_End.f a0_0 a0_1).bind fun t158 => ((span_End.f a1_0 a1_1).bind fun t159 => ((span_of.f (ji5) (mx t158 t159)).bind fun bt160 => (some (bt160.1, bt160.2.1, bt160.2.2))))) = some (r1, r2, r3) := by first | (rw [hji5] at H; exact H) | (simp only [hji5] at H ⊢; exact H)
    (try rw [hji5] at A3)
    have hji5_ : (if a1_0 < a0_0 then a1_0 else a0_0) = ji5 := hji5
    replace H := Option.bind_eq_some_iff.mp H
    obtain ⟨t158, A60, H⟩ := H
    replace H : ((span_End.f a1_0 a1_1).bind fun t159 => ((span_of.f (ji5) (mx t158 t159)).bind fun bt160 => (some (bt160.1, bt160.2.1, bt160.2.2)))) = some (r1, r2, r3) := H
    have A6 := Aside0.mk A60
    clear A60
    replace H := Option.bind_eq_some_iff.mp H
    obtain ⟨t159, A70, H⟩ := H
    replace H : ((span_of.f (ji5) (mx t158 t159)).bind fun bt160 => (some (bt160.1, bt160.2.1, bt160.2.2))) = some (r1, r2, r3) := H
    have A7 := Aside0.mk A70
    clear A70
    obtain ⟨ji8, hji8⟩ : ∃ j_ : Int, (mx t158 t159) = j_ := ⟨_, rfl⟩
    replace H : ((span_of.f (ji5) (ji8)).bind fun bt160 => (some (bt160.1, bt160.2.1, bt160.2.2))) = some (r1, r2, r3) := by first | (rw [hji8] at H; exact H) | (simp only [hji8] at H ⊢; exact H)
    (try rw [hji8] at A3)
    (try rw [hji8] at A6)
    (try rw [hji8] at A7)
    have hji8_ : (if t158 < t159 then t159 else t158) = ji8 := hji8
    replace H := Option.bind_eq_some_iff.mp H
    obtain ⟨⟨t160, t161, t162⟩, A90, H⟩ := H
    replace H : (some (t160, t161, t162)) = some (r1, r2, r3) := H
    have A9 := Aside0.mk A90
    clear A90
    simp only [Option.some.injEq, Prod.mk.injEq] at H
    obtain ⟨rfl, rfl, rfl⟩ := H
    go_enter Try.func21, Try.ntmps21
    try go_wp2_with (first | ((with_reducible refine gate_dst (N := 2) rfl ?_); refine box_event ?hg (N := 2) ?hd (cs := #[.int .i64 a0_0, .int .i64 a0_1]) (t := 24) ?hr ?_; (case hd => rfl); (case hg => rfl); (case hr => first | (go_simp; done) | (go_simp; rfl)); intro gb154 hg w10 hbox hb; have n0_ := Aside0.mk (below_step (by repeat (first | (with_reducible first | exact HB.out | apply below_alloc | apply pw_below_drewN | apply below_drew1) | exact HB.out)) hb); have n1_ := Aside0.mk (hbox); have n2_ := Aside0.mk ((by rw [hg]; exact (below_size (by repeat (first | (with_reducible first | exact HB.out | apply below_alloc | apply pw_below_drewN | apply below_drew1) | exact HB.out))) : w.heap.size ≤ gb154)); have n3_ := Aside0.mk ((by rw [hg]; exact (below_size (by repeat (first | (with_reducible first | exact HB.out | apply below_alloc | apply pw_below_drewN | apply below_drew1) | exact HB.out))) : w.heap.size ≤ gb154)); clear HB; have HB := n0_; have BK154 := n1_; have GW154 := n2_; have GE154 := n3_; clear n0_ n1_ n2_ n3_; clear hb hbox hg) | ((with_reducible refine gate_dst (N := 3) rfl ?_); refine box_event ?hg (N := 3) ?hd (cs := #[.int .i64 a1_0, .int .i64 a1_1]) (t := 24) ?hr ?_; (case hd => rfl); (case hg => rfl); (case hr => first | (go_simp; done) | (go_simp; rfl)); intro gb155 hg w11 hbox hb; have n0_ := Aside0.mk (blk_below (g := gb154) (o := .cells #[.int .i64 a0_0, .int .i64 a0_1] 24 (0, 0)) (by (with_reducible repeat (first | refine blk_drewN ?_ _ | refine blk_drew ?_ | refine blk_alloc ?_ _)); exact BK154.out) hb); have n1_ := Aside0.mk (below_step (by repeat (first | (with_reducible first | exact HB.out | apply below_alloc | apply pw_below_drewN | apply below_drew1 | refine below_set ?_ GE154.out) | exact HB.out)) hb); have n2_ := Aside0.mk (hbox); have n3_ := Aside0.mk ((by rw [hg]; exact (below_size (by repeat (first | (with_reducible first | exact HB.out | apply below_alloc | apply pw_below_drewN | apply below_drew1 | refine below_set ?_ GE154.out) | exact HB.out))) : w.heap.size ≤ gb155)); have n4_ := Aside0.mk ((by rw [hg]; exact (below_size (by repeat (first | (with_reducible first | exact HB.out | apply below_alloc | apply pw_below_drewN | apply below_drew1 | refine below_set ?_ GE154.out) | exact HB.out))) : w.heap.size ≤ gb155)); have n5_ := Aside0.mk ((by rw [hg]; exact Nat.ne_of_lt (blk_lt (g := gb154) (o := .cells #[.int .i64 a0_0, .int .i64 a0_1] 24 (0, 0)) (by (with_reducible repeat (first | refine blk_drewN ?_ _ | refine blk_drew ?_ | refine blk_alloc ?_ _)); exact BK154.out)) : gb154 ≠ gb155)); have n6_ := Aside0.mk ((by rw [hg]; exact Nat.ne_of_gt (blk_lt (g := gb154) (o := .cells #[.int .i64 a0_0, .int .i64 a0_1] 24 (0, 0)) (by (with_reducible repeat (first | refine blk_drewN ?_ _ | refine blk_drew ?_ | refine blk_alloc ?_ _)); exact BK154.out)) : gb155 ≠ gb154)); clear BK154; clear HB; have BK154 := n0_; have HB := n1_; have BK155 := n2_; have GW155 := n3_; have GE155 := n4_; have NB154_155 := n5_; have NB155_154 := n6_; clear n0_ n1_ n2_ n3_ n4_ n5_ n6_; clear hb hbox hg) | ((with_reducible refine gate_dst (N := 4) rfl ?_); refine box_event ?hg (N := 4) ?hd (cs := #[.int .i64 0, .int .i64 0]) (t := 24) ?hr ?_; (case hd => rfl); (case hg => rfl); (case hr => first | (go_simp; done) | (go_simp; rfl)); intro gb156 hg w12 hbox hb; have n0_ := Aside0.mk (blk_below (g := gb154) (o := .cells #[.int .i64 a0_0, .int .i64 a0_1] 24 (0, 0)) (by (with_reducible repeat (first | refine blk_drewN ?_ _ | refine blk_drew ?_ | refine blk_alloc ?_ _)); exact BK154.out) hb); have n1_ := Aside0.mk (blk_below (g := gb155) (o := .cells #[.int .i64 a1_0, .int .i64 a1_1] 24 (0, 0)) (by (with_reducible repeat (first | refine blk_drewN ?_ _ | refine blk_drew ?_ | refine blk_alloc ?_ _)); exact BK155.out) hb); have n2_ := Aside0.mk (below_step (by repeat (first | (with_reducible first | exact HB.out | apply below_alloc | apply pw_below_drewN | apply below_drew1 | refine below_set ?_ GE154.out | refine below_set ?_ GE155.out) | exact HB.out)) hb); have n3_ := Aside0.mk (hbox); have n4_ := Aside0.mk ((by rw [hg]; exact (below_size (by repeat (first | (with_reducible first | exact HB.out | apply below_alloc | apply pw_below_drewN | apply below_drew1 | refine below_set ?_ GE154.out | refine below_set ?_ GE155.out) | exact HB.out))) : w.heap.size ≤ gb156)); have n5_ := Aside0.mk ((by rw [hg]; exact (below_size (by repeat (first | (with_reducible first | exact HB.out | apply below_alloc | apply pw_below_drewN | apply below_drew1 | refine below_set ?_ GE154.out | refine below_set ?_ GE155.out) | exact HB.out))) : w.heap.size ≤ gb156)); have n6_ := Aside0.mk ((by rw [hg]; exact Nat.ne_of_lt (blk_lt (g := gb154) (o := .cells #[.int .i64 a0_0, .int .i64 a0_1] 24 (0, 0)) (by (with_reducible repeat (first | refine blk_drewN ?_ _ | refine blk_drew ?_ | refine blk_alloc ?_ _)); exact BK154.out)) : gb154 ≠ gb156)); have n7_ := Aside0.mk ((by rw [hg]; exact Nat.ne_of_gt (blk_lt (g := gb154) (o := .cells #[.int .i64 a0_0, .int .i64 a0_1] 24 (0, 0)) (by (with_reducible repeat (first | refine blk_drewN ?_ _ | refine blk_drew ?_ | refine blk_alloc ?_ _)); exact BK154.out)) : gb156 ≠ gb154)); have n8_ := Aside0.mk ((by rw [hg]; exact Nat.ne_of_lt (blk_lt (g := gb155) (o := .cells #[.int .i64 a1_0, .int .i64 a1_1] 24 (0, 0)) (by (with_reducible repeat (first | refine blk_drewN ?_ _ | refine blk_drew ?_ | refine blk_alloc ?_ _)); exact BK155.out)) : gb155 ≠ gb156)); have n9_ := Aside0.mk ((by rw [hg]; exact Nat.ne_of_gt (blk_lt (g := gb155) (o := .cells #[.int .i64 a1_0, .int .i64 a1_1] 24 (0, 0)) (by (with_reducible repeat (first | refine blk_drewN ?_ _ | refine blk_drew ?_ | refine blk_alloc ?_ _)); exact BK155.out)) : gb156 ≠ gb155)); clear BK154; clear BK155; clear HB; have BK154 := n0_; have BK155 := n1_; have HB := n2_; have BK156 := n3_; have GW156 := n4_; have GE156 := n5_; have NB154_156 := n6_; have NB156_154 := n7_; have NB155_156 := n8_; have NB156_155 := n9_; clear n0_ n1_ n2_ n3_ n4_ n5_ n6_ n7_ n8_ n9_; clear hb hbox hg; have hnb13 := NB154_155.out; have hnc13 := NB155_154.out; have hnb14 := NB154_156.out; have hnc14 := NB156_154.out; have hcz15_0 : w12.cell? ⟨gb154, 0, none⟩ = some (.int .i64 a0_0) := (blk_cell BK154.out 0).trans rfl; have hcz15_1 : w12.cell? ⟨gb154, 1, none⟩ = some (.int .i64 a0_1) := (blk_cell BK154.out 1).trans rfl; have hfz15_0 := blk_frozen BK154.out 0; have hfz15_1 := blk_frozen BK154.out 1; have hnb16 := NB155_156.out; have hnc16 := NB156_155.out; have hcz17_0 : w12.cell? ⟨gb155, 0, none⟩ = some (.int .i64 a1_0) := (blk_cell BK155.out 0).trans rfl; have hcz17_1 : w12.cell? ⟨gb155, 1, none⟩ = some (.int .i64 a1_1) := (blk_cell BK155.out 1).trans rfl; have hfz17_0 := blk_frozen BK155.out 0; have hfz17_1 := blk_frozen BK155.out 1) | ((with_reducible refine gate_callee (f := 22) rfl ?_); refine goesL_ (some 8) rfl rfl Try.func22 (by kernel_rfl) rfl #[.agg #[.int .i64 a0_0, .int .i64 a0_1], .agg #[.int .i64 a1_0, .int .i64 a1_1]] rfl (by (try simp only [List.map_toArray, List.map_cons, List.map_nil]); first | done | rfl | (simp only [List.length_drop, List.length_take]; rfl)) ?_; (with_reducible refine (span_Touch.calls a0_0 a0_1 a1_0 a1_1 true _ A3.out).mono ?_); rintro e w18 ⟨rfl, hb⟩; refine ⟨_, rfl, ?_⟩; have n0_ := Aside0.mk (blk_below (g := gb154) (o := .cells #[.int .i64 a0_0, .int .i64 a0_1] 24 (0, 0)) (by (with_reducible repeat (first | refine blk_drewN ?_ _ | refine blk_drew ?_ | refine blk_alloc ?_ _)); exact BK154.out) hb); have n1_ := Aside0.mk (blk_below (g := gb155) (o := .cells #[.int .i64 a1_0, .int .i64 a1_1] 24 (0, 0)) (by (with_reducible repeat (first | refine blk_drewN ?_ _ | refine blk_drew ?_ | refine blk_alloc ?_ _)); exact BK155.out) hb); have n2_ := Aside0.mk (blk_below (g := gb156) (o := .cells #[.int .i64 0, .int .i64 0] 24 (0, 0)) (by (with_reducible repeat (first | refine blk_drewN ?_ _ | refine blk_drew ?_ | refine blk_alloc ?_ _)); exact BK156.out) hb); have n3_ := Aside0.mk (below_step (by repeat (first | (with_reducible first | exact HB.out | apply below_alloc | apply pw_below_drewN | apply below_drew1 | refine below_set ?_ GE154.out | refine below_set ?_ GE155.out | refine below_set ?_ GE156.out) | exact HB.out)) hb); clear BK154; clear BK155; clear BK156; clear HB; have BK154 := n0_; have BK155 := n1_; have BK156 := n2_; have HB := n3_; clear n0_ n1_ n2_ n3_; (try clear hb); (try clear hb2); (try clear hk); (try clear hi)))
    have n0_ := Aside0.mk (blk_drew BK154.out)
    have n1_ := Aside0.mk (blk_drew BK155.out)
    have n2_ := Aside0.mk (blk_drew BK156.out)
    have n3_ := Aside0.mk (below_drew1 HB.out)
    clear BK154
    clear BK155
    clear BK156
    clear HB
    have BK154 := n0_
    have BK155 := n1_
    have BK156 := n2_
    have HB := n3_
    clear n0_ n1_ n2_ n3_
    refine start_ (n := 15) (S := fun w' => w'.cell? ⟨gb154, 0, none⟩ = some (.int .i64 a0_0) ∧ w'.cell? ⟨gb154, 1, none⟩ = some (.int .i64 a0_1) ∧ w'.cell? ⟨gb155, 0, none⟩ = some (.int .i64 a1_0) ∧ w'.cell? ⟨gb155, 1, none⟩ = some (.int .i64 a1_1)) (ds := []) #[false, false, false, false, false, false, false, false, false, false, false, false, false, false, false] (by kernel_rfl) rfl rfl ⟨(blk_cell BK154.out 0).trans rfl, (blk_cell BK154.out 1).trans rfl, (blk_cell BK155.out 0).trans rfl, (blk_cell BK155.out 1).trans rfl⟩ (fun hHeld => ?_); refine with_tabW span_Join.tab3 span_Join.bits3 (fun HT_ HW_ => ?_)
    generalize w18.drew = w19 at BK154 BK155 BK156 HB hHeld ⊢
    refine pure_ (i := 0) (N := some 11) (v := ?_) (a' := ?_) #[true, false, false, false, false, false, false, false, false, false, false, false, false, false, false] rfl rfl (any_of HT_.out (by kernel_rfl)) (fun _ _ _ h => h) (Or.inl ⟨by rfl, ?_⟩) ?_ ?_
    rotate_left
    · intro w'
      go_simp
      with_reducible rfl
    rotate_left
    · simp only [Act.put, List.setIfInBounds_toArray, List.set_cons_zero, List.set_cons_succ, i64_w, i32_w]
      rfl
    refine pure_ (i := 2) (N := some 13) (v := ?_) (a' := ?_) #[true, false, true, false, false, false, false, false, false, false, false, false, false, false, false] rfl rfl (any_of HT_.out (by kernel_rfl)) (fun _ _ _ h => h) (Or.inl ⟨by rfl, ?_⟩) ?_ ?_
    rotate_left
    · intro w'
      go_simp
      with_reducible rfl
    rotate_left
    · simp only [Act.put, List.setIfInBounds_toArray, List.set_cons_zero, List.set_cons_succ, i64_w, i32_w]
      rfl
    refine take_ (i := 1) (N := some 12) (v := ?_) (a' := ?_) #[true, true, true, false, false, false, false, false, false, false, false, false, false, false, false] rfl rfl (take_ofW HT_.out HW_.out (by kernel_rfl)) (fun _ _ _ h => h) (Or.inl ⟨by rfl, ?_⟩) hHeld ?_ ?_
    rotate_left
    · rintro w' ⟨s0, s1, s2, s3⟩
      go_simp
      with_reducible rfl
    rotate_left
    · simp only [Act.put, List.setIfInBounds_toArray, List.set_cons_zero, List.set_cons_succ, i64_w, i32_w]
      rfl
    refine take_ (i := 3) (N := some 14) (v := ?_) (a' := ?_) #[true, true, true, true, false, false, false, false, false, false, false, false, false, false, false] rfl rfl (take_ofW HT_.out HW_.out (by kernel_rfl)) (fun _ _ _ h => h) (Or.inl ⟨by rfl, ?_⟩) hHeld ?_ ?_
    rotate_left
    · rintro w' ⟨s0, s1, s2, s3⟩
      go_simp
      with_reducible rfl
    rotate_left
    · simp only [Act.put, List.setIfInBounds_toArray, List.set_cons_zero, List.set_cons_succ, i64_w, i32_w]
      rfl
    refine pure_ (i := 4) (N := some 15) (v := ?_) (a' := ?_) #[true, true, true, true, true, false, false, false, false, false, false, false, false, false, false] rfl rfl (any_of HT_.out (by kernel_rfl)) (fun _ _ _ h => h) (Or.inl ⟨by rfl, ?_⟩) ?_ ?_
    rotate_left
    · intro w'
      go_simp
      with_reducible rfl
    rotate_left
    · simp only [Act.put, List.setIfInBounds_toArray, List.set_cons_zero, List.set_cons_succ, i64_w, i32_w]
      rfl
    refine take_ (i := 5) (N := some 16) (v := ?_) (a' := ?_) #[true, true, true, true, true, true, false, false, false, false, false, false, false, false, false] rfl rfl (take_ofW HT_.out HW_.out (by kernel_rfl)) (fun _ _ _ h => h) (Or.inl ⟨by rfl, ?_⟩) hHeld ?_ ?_
    rotate_left
    · rintro w' ⟨s0, s1, s2, s3⟩
      go_simp
      with_reducible rfl
    rotate_left
    · simp only [Act.put, List.setIfInBounds_toArray, List.set_cons_zero, List.set_cons_succ, i64_w, i32_w]
      rfl
    refine take_ (i := 7) (N := some 18) (v := ?_) (a' := ?_) #[true, true, true, true, true, true, false, true, false, false, false, false, false, false, false] rfl rfl (take_ofW HT_.out HW_.out (by kernel_rfl)) (fun _ _ _ h => h) (Or.inl ⟨by rfl, ?_⟩) hHeld ?_ ?_
    rotate_left
    · rintro w' ⟨s0, s1, s2, s3⟩
      go_simp
      with_reducible rfl
    rotate_left
    · simp only [Act.put, List.setIfInBounds_toArray, List.set_cons_zero, List.set_cons_succ, i64_w, i32_w]
      rfl
    refine one_ (i := 6) (N := some 17) #[true, true, true, true, true, true, true, true, false, false, false, false, false, false, false] rfl rfl (one_of HT_.out (by kernel_rfl)) (by decide) (fun K hK => ?_)
    refine goes_ Try.func24 (by kernel_rfl) rfl #[.agg #[.int .i64 a0_0, .int .i64 a0_1]] (by rfl) rfl rfl (by (try simp only [List.map_toArray, List.map_cons, List.map_nil]); first | done | rfl | (simp only [List.length_drop, List.length_take]; rfl)) ?_
    with_reducible refine (span_End.calls a0_0 a0_1 t158 _ A6.out).mono ?_
    rintro e w20 ⟨rfl, hb⟩
    refine ⟨_, rfl, ?_⟩
    have n0_ := Aside0.mk (blk_below (g := gb154) (o := .cells #[.int .i64 a0_0, .int .i64 a0_1] 24 (0, 0)) (by (with_reducible repeat (first | refine blk_drewN ?_ _ | refine blk_drew ?_ | refine blk_alloc ?_ _)); exact BK154.out) hb)
    have n1_ := Aside0.mk (blk_below (g := gb155) (o := .cells #[.int .i64 a1_0, .int .i64 a1_1] 24 (0, 0)) (by (with_reducible repeat (first | refine blk_drewN ?_ _ | refine blk_drew ?_ | refine blk_alloc ?_ _)); exact BK155.out) hb)
    have n2_ := Aside0.mk (blk_below (g := gb156) (o := .cells #[.int .i64 0, .int .i64 0] 24 (0, 0)) (by (with_reducible repeat (first | refine blk_drewN ?_ _ | refine blk_drew ?_ | refine blk_alloc ?_ _)); exact BK156.out) hb)
    have n3_ := Aside0.mk (below_step (by repeat (first | (with_reducible first | exact HB.out | apply below_alloc | apply pw_below_drewN | apply below_drew1 | refine below_set ?_ GE154.out | refine below_set ?_ GE155.out | refine below_set ?_ GE156.out) | exact HB.out)) hb)
    clear BK154
    clear BK155
    clear BK156
    clear HB
    have BK154 := n0_
    have BK155 := n1_
    have BK156 := n2_
    have HB := n3_
    clear n0_ n1_ n2_ n3_
    (try clear hb)
    (try clear hb2)
    (try clear hk)
    (try clear hi)
    refine hK.out _ _ ⟨(blk_cell BK154.out 0).trans rfl, (blk_cell BK154.out 1).trans rfl, (blk_cell BK155.out 0).trans rfl, (blk_cell BK155.out 1).trans rfl⟩ (fun hHeld => ?_)
    clear hK K
    refine norm_ (a' := ?_) ?_ ?_
    rotate_left
    · show Act.put _ (some 17) _ = _
      simp only [Act.put, List.setIfInBounds_toArray, List.set_cons_zero, List.set_cons_succ, i64_w, i32_w]
      rfl
    refine one_ (i := 8) (N := some 19) #[true, true, true, true, true, true, true, true, true, false, false, false, false, false, false] rfl rfl (one_of HT_.out (by kernel_rfl)) (by decide) (fun K hK => ?_)
    refine goes_ Try.func24 (by kernel_rfl) rfl #[.agg #[.int .i64 a1_0, .int .i64 a1_1]] (by rfl) rfl rfl (by (try simp only [List.map_toArray, List.map_cons, List.map_nil]); first | done | rfl | (simp only [List.length_drop, List.length_take]; rfl)) ?_
    with_reducible refine (span_End.calls a1_0 a1_1 t159 _ A7.out).mono ?_
    rintro e w21 ⟨rfl, hb⟩
    refine ⟨_, rfl, ?_⟩
    have n0_ := Aside0.mk (blk_below (g := gb154) (o := .cells #[.int .i64 a0_0, .int .i64 a0_1] 24 (0, 0)) (by (with_reducible repeat (first | refine blk_drewN ?_ _ | refine blk_drew ?_ | refine blk_alloc ?_ _)); exact BK154.out) hb)
    have n1_ := Aside0.mk (blk_below (g := gb155) (o := .cells #[.int .i64 a1_0, .int .i64 a1_1] 24 (0, 0)) (by (with_reducible repeat (first | refine blk_drewN ?_ _ | refine blk_drew ?_ | refine blk_alloc ?_ _)); exact BK155.out) hb)
    have n2_ := Aside0.mk (blk_below (g := gb156) (o := .cells #[.int .i64 0, .int .i64 0] 24 (0, 0)) (by (with_reducible repeat (first | refine blk_drewN ?_ _ | refine blk_drew ?_ | refine blk_alloc ?_ _)); exact BK156.out) hb)
    have n3_ := Aside0.mk (below_step (by repeat (first | (with_reducible first | exact HB.out | apply below_alloc | apply pw_below_drewN | apply below_drew1 | refine below_set ?_ GE154.out | refine below_set ?_ GE155.out | refine below_set ?_ GE156.out) | exact HB.out)) hb)
    clear BK154
    clear BK155
    clear BK156
    clear HB
    have BK154 := n0_
    have BK155 := n1_
    have BK156 := n2_
    have HB := n3_
    clear n0_ n1_ n2_ n3_
    (try clear hb)
    (try clear hb2)
    (try clear hk)
    (try clear hi)
    refine hK.out _ _ ⟨(blk_cell BK154.out 0).trans rfl, (blk_cell BK154.out 1).trans rfl, (blk_cell BK155.out 0).trans rfl, (blk_cell BK155.out 1).trans rfl⟩ (fun hHeld => ?_)
    clear hK K
    refine norm_ (a' := ?_) ?_ ?_
    rotate_left
    · show Act.put _ (some 19) _ = _
      simp only [Act.put, List.setIfInBounds_toArray, List.set_cons_zero, List.set_cons_succ, i64_w, i32_w]
      rfl
    refine pure_ (i := 9) (N := some 20) (v := ?_) (a' := ?_) #[true, true, true, true, true, true, true, true, true, true, false, false, false, false, false] rfl rfl (any_of HT_.out (by kernel_rfl)) (fun _ _ _ h => h) (Or.inl ⟨by rfl, ?_⟩) ?_ ?_
    rotate_left
    · intro w'
      go_simp
      with_reducible rfl
    rotate_left
    · simp only [Act.put, List.setIfInBounds_toArray, List.set_cons_zero, List.set_cons_succ, i64_w, i32_w]
      rfl
    refine one_ (i := 10) (N := some 21) #[true, true, true, true, true, true, true, true, true, true, true, false, false, false, false] rfl rfl (one_of HT_.out (by kernel_rfl)) (by decide) (fun K hK => ?_)
    refine goes_ Try.func43 (by kernel_rfl) rfl #[.int .i64 ji5, .int .i64 ji8] (by rfl) rfl rfl (by (try simp only [List.map_toArray, List.map_cons, List.map_nil]); first | done | (simp only [hji5, hji8]; rfl) | rfl | (simp only [List.length_drop, List.length_take]; rfl)) ?_
    with_reducible refine (span_of.calls ji5 ji8 t160 t161 t162 _ A9.out).mono ?_
    rintro e w22 ⟨rfl, hb⟩
    refine ⟨_, rfl, ?_⟩
    have n0_ := Aside0.mk (blk_below (g := gb154) (o := .cells #[.int .i64 a0_0, .int .i64 a0_1] 24 (0, 0)) (by (with_reducible repeat (first | refine blk_drewN ?_ _ | refine blk_drew ?_ | refine blk_alloc ?_ _)); exact BK154.out) hb)
    have n1_ := Aside0.mk (blk_below (g := gb155) (o := .cells #[.int .i64 a1_0, .int .i64 a1_1] 24 (0, 0)) (by (with_reducible repeat (first | refine blk_drewN ?_ _ | refine blk_drew ?_ | refine blk_alloc ?_ _)); exact BK155.out) hb)
    have n2_ := Aside0.mk (blk_below (g := gb156) (o := .cells #[.int .i64 0, .int .i64 0] 24 (0, 0)) (by (with_reducible repeat (first | refine blk_drewN ?_ _ | refine blk_drew ?_ | refine blk_alloc ?_ _)); exact BK156.out) hb)
    have n3_ := Aside0.mk (below_step (by repeat (first | (with_reducible first | exact HB.out | apply below_alloc | apply pw_below_drewN | apply below_drew1 | refine below_set ?_ GE154.out | refine below_set ?_ GE155.out | refine below_set ?_ GE156.out) | exact HB.out)) hb)
    clear BK154
    clear BK155
    clear BK156
    clear HB
    have BK154 := n0_
    have BK155 := n1_
    have BK156 := n2_
    have HB := n3_
    clear n0_ n1_ n2_ n3_
    (try clear hb)
    (try clear hb2)
    (try clear hk)
    (try clear hi)
    refine hK.out _ _ ⟨(blk_cell BK154.out 0).trans rfl, (blk_cell BK154.out 1).trans rfl, (blk_cell BK155.out 0).trans rfl, (blk_cell BK155.out 1).trans rfl⟩ (fun hHeld => ?_)
    clear hK K
    refine norm_ (a' := ?_) ?_ ?_
    rotate_left
    · show Act.put _ (some 21) _ = _
      simp only [Act.put, List.setIfInBounds_toArray, List.set_cons_zero, List.set_cons_succ, i64_w, i32_w]
      rfl
    refine pure_ (i := 11) (N := some 22) (v := ?_) (a' := ?_) #[true, true, true, true, true, true, true, true, true, true, true, true, false, false, false] rfl rfl (any_of HT_.out (by kernel_rfl)) (fun _ _ _ h => h) (Or.inl ⟨by rfl, ?_⟩) ?_ ?_
    rotate_left
    · intro w'
      go_simp
      with_reducible rfl
    rotate_left
    · simp only [Act.put, List.setIfInBounds_toArray, List.set_cons_zero, List.set_cons_succ, i64_w, i32_w]
      rfl
    refine pure_ (i := 12) (N := some 23) (v := ?_) (a' := ?_) #[true, true, true, true, true, true, true, true, true, true, true, true, true, false, false] rfl rfl (any_of HT_.out (by kernel_rfl)) (fun _ _ _ h => h) (Or.inl ⟨by rfl, ?_⟩) ?_ ?_
    rotate_left
    · intro w'
      go_simp
      with_reducible rfl
    rotate_left
    · simp only [Act.put, List.setIfInBounds_toArray, List.set_cons_zero, List.set_cons_succ, i64_w, i32_w]
      rfl
    refine one_ (i := 13) (N := none) #[true, true, true, true, true, true, true, true, true, true, true, true, true, true, false] rfl rfl (one_of HT_.out (by kernel_rfl)) (by decide) (fun K hK => ?_)
    have hs23 : w22.cell? ⟨gb156, 0, none⟩ = some (.int .i64 0) := (blk_cell BK156.out 0).trans rfl
    have hfs23 := blk_frozen BK156.out 0
    have hns23_0 := NB154_156.out
    have hns23_1 := NB155_156.out
    have hms23_0 := NB156_154.out
    have hms23_1 := NB156_155.out
    have hs24 : w22.cell? ⟨gb156, 1, none⟩ = some (.int .i64 0) := (blk_cell BK156.out 1).trans rfl
    have hfs24 := blk_frozen BK156.out 1
    have hns24_0 := NB154_156.out
    have hns24_1 := NB155_156.out
    have hms24_0 := NB156_154.out
    have hms24_1 := NB156_155.out
    refine skip_ (w1 := ?_) (by rfl) rfl ?_ ?_
    rotate_left
    · go_simp
      rfl
    refine hK.out _ _ ⟨((cell_far (p := ⟨gb156, _, none⟩) NB154_156.out _).trans (((cell_far (p := ⟨gb156, _, none⟩) NB154_156.out _).trans (hHeld.1)))), ((cell_far (p := ⟨gb156, _, none⟩) NB154_156.out _).trans (((cell_far (p := ⟨gb156, _, none⟩) NB154_156.out _).trans (hHeld.2.1)))), ((cell_far (p := ⟨gb156, _, none⟩) NB155_156.out _).trans (((cell_far (p := ⟨gb156, _, none⟩) NB155_156.out _).trans (hHeld.2.2.1)))), ((cell_far (p := ⟨gb156, _, none⟩) NB155_156.out _).trans (((cell_far (p := ⟨gb156, _, none⟩) NB155_156.out _).trans (hHeld.2.2.2))))⟩ (fun hHeld => ?_)
    clear hK K
    refine pure_ (i := 14) (N := some 5) (v := ?_) (a' := ?_) #[true, true, true, true, true, true, true, true, true, true, true, true, true, true, true] rfl rfl (any_of HT_.out (by kernel_rfl)) (fun _ _ _ h => h) (Or.inl ⟨by rfl, ?_⟩) ?_ ?_
    rotate_left
    · intro w'
      go_simp
      with_reducible rfl
    rotate_left
    · simp only [Act.put, List.setIfInBounds_toArray, List.set_cons_zero, List.set_cons_succ, i64_w, i32_w]
      rfl
    refine done_ (done_of HT_.out (by kernel_rfl)) ?_
    try go_wp2
    refine bodyPost_ret (results_ct rfl _ _ gb156 24 #[.int .i64 t160, .int .i64 t161] (0, 0) _ rfl (by (with_reducible repeat (first | refine blk_drewN ?_ _ | refine blk_drew ?_ | refine blk_alloc ?_ _)); refine blk_put (cs := #[.int .i64 t160, .int .i64 0]) ?_ 1 _ rfl; (with_reducible repeat (first | refine blk_drewN ?_ _ | refine blk_drew ?_ | refine blk_alloc ?_ _)); refine blk_put (cs := #[.int .i64 0, .int .i64 0]) ?_ 0 _ rfl; (with_reducible repeat (first | refine blk_drewN ?_ _ | refine blk_drew ?_ | refine blk_alloc ?_ _)); exact BK156.out) Try.underlying24 rfl (by kernel_rfl)) rfl ?_
    exact ⟨by first | rfl | (simp [errW_none, errW_some] <;> rfl) | (simp only [← hji5, ← hji8]; first | rfl | (simp [errW_none, errW_some] <;> rfl)) | (simp [*, errW_none, errW_some] <;> rfl), by repeat (first | (with_reducible first | exact HB.out | apply below_alloc | apply pw_below_drewN | apply below_drew1 | refine below_set ?_ GE154.out | refine below_set ?_ GE155.out | refine below_set ?_ GE156.out) | exact HB.out)⟩
  · replace c4 := Bool.eq_false_iff.mpr c4
    subst c4
    have H1 : (some (0, 0, false)) = some (r1, r2, r3) := by rw [if_neg (show ¬ (false = true) by decide)] at H; exact H
    clear H
    have H := H1
    clear H1
    simp only [Option.some.injEq, Prod.mk.injEq] at H
    obtain ⟨rfl, rfl, rfl⟩ := H
    go_enter Try.func21, Try.ntmps21
    go_wp2_with (first | ((with_reducible refine gate_dst (N := 2) rfl ?_); refine box_event ?hg (N := 2) ?hd (cs := #[.int .i64 a0_0, .int .i64 a0_1]) (t := 24) ?hr ?_; (case hd => rfl); (case hg => rfl); (case hr => first | (go_simp; done) | (go_simp; rfl)); intro gb154 hg w25 hbox hb; have n0_ := Aside0.mk (below_step (by repeat (first | (with_reducible first | exact HB.out | apply below_alloc | apply pw_below_drewN | apply below_drew1) | exact HB.out)) hb); have n1_ := Aside0.mk (hbox); have n2_ := Aside0.mk ((by rw [hg]; exact (below_size (by repeat (first | (with_reducible first | exact HB.out | apply below_alloc | apply pw_below_drewN | apply below_drew1) | exact HB.out))) : w.heap.size ≤ gb154)); have n3_ := Aside0.mk ((by rw [hg]; exact (below_size (by repeat (first | (with_reducible first | exact HB.out | apply below_alloc | apply pw_below_drewN | apply below_drew1) | exact HB.out))) : w.heap.size ≤ gb154)); clear HB; have HB := n0_; have BK154 := n1_; have GW154 := n2_; have GE154 := n3_; clear n0_ n1_ n2_ n3_; clear hb hbox hg) | ((with_reducible refine gate_dst (N := 3) rfl ?_); refine box_event ?hg (N := 3) ?hd (cs := #[.int .i64 a1_0, .int .i64 a1_1]) (t := 24) ?hr ?_; (case hd => rfl); (case hg => rfl); (case hr => first | (go_simp; done) | (go_simp; rfl)); intro gb155 hg w26 hbox hb; have n0_ := Aside0.mk (blk_below (g := gb154) (o := .cells #[.int .i64 a0_0, .int .i64 a0_1] 24 (0, 0)) (by (with_reducible repeat (first | refine blk_drewN ?_ _ | refine blk_drew ?_ | refine blk_alloc ?_ _)); exact BK154.out) hb); have n1_ := Aside0.mk (below_step (by repeat (first | (with_reducible first | exact HB.out | apply below_alloc | apply pw_below_drewN | apply below_drew1 | refine below_set ?_ GE154.out) | exact HB.out)) hb); have n2_ := Aside0.mk (hbox); have n3_ := Aside0.mk ((by rw [hg]; exact (below_size (by repeat (first | (with_reducible first | exact HB.out | apply below_alloc | apply pw_below_drewN | apply below_drew1 | refine below_set ?_ GE154.out) | exact HB.out))) : w.heap.size ≤ gb155)); have n4_ := Aside0.mk ((by rw [hg]; exact (below_size (by repeat (first | (with_reducible first | exact HB.out | apply below_alloc | apply pw_below_drewN | apply below_drew1 | refine below_set ?_ GE154.out) | exact HB.out))) : w.heap.size ≤ gb155)); have n5_ := Aside0.mk ((by rw [hg]; exact Nat.ne_of_lt (blk_lt (g := gb154) (o := .cells #[.int .i64 a0_0, .int .i64 a0_1] 24 (0, 0)) (by (with_reducible repeat (first | refine blk_drewN ?_ _ | refine blk_drew ?_ | refine blk_alloc ?_ _)); exact BK154.out)) : gb154 ≠ gb155)); have n6_ := Aside0.mk ((by rw [hg]; exact Nat.ne_of_gt (blk_lt (g := gb154) (o := .cells #[.int .i64 a0_0, .int .i64 a0_1] 24 (0, 0)) (by (with_reducible repeat (first | refine blk_drewN ?_ _ | refine blk_drew ?_ | refine blk_alloc ?_ _)); exact BK154.out)) : gb155 ≠ gb154)); clear BK154; clear HB; have BK154 := n0_; have HB := n1_; have BK155 := n2_; have GW155 := n3_; have GE155 := n4_; have NB154_155 := n5_; have NB155_154 := n6_; clear n0_ n1_ n2_ n3_ n4_ n5_ n6_; clear hb hbox hg) | ((with_reducible refine gate_dst (N := 4) rfl ?_); refine box_event ?hg (N := 4) ?hd (cs := #[.int .i64 0, .int .i64 0]) (t := 24) ?hr ?_; (case hd => rfl); (case hg => rfl); (case hr => first | (go_simp; done) | (go_simp; rfl)); intro gb156 hg w27 hbox hb; have n0_ := Aside0.mk (blk_below (g := gb154) (o := .cells #[.int .i64 a0_0, .int .i64 a0_1] 24 (0, 0)) (by (with_reducible repeat (first | refine blk_drewN ?_ _ | refine blk_drew ?_ | refine blk_alloc ?_ _)); exact BK154.out) hb); have n1_ := Aside0.mk (blk_below (g := gb155) (o := .cells #[.int .i64 a1_0, .int .i64 a1_1] 24 (0, 0)) (by (with_reducible repeat (first | refine blk_drewN ?_ _ | refine blk_drew ?_ | refine blk_alloc ?_ _)); exact BK155.out) hb); have n2_ := Aside0.mk (below_step (by repeat (first | (with_reducible first | exact HB.out | apply below_alloc | apply pw_below_drewN | apply below_drew1 | refine below_set ?_ GE154.out | refine below_set ?_ GE155.out) | exact HB.out)) hb); have n3_ := Aside0.mk (hbox); have n4_ := Aside0.mk ((by rw [hg]; exact (below_size (by repeat (first | (with_reducible first | exact HB.out | apply below_alloc | apply pw_below_drewN | apply below_drew1 | refine below_set ?_ GE154.out | refine below_set ?_ GE155.out) | exact HB.out))) : w.heap.size ≤ gb156)); have n5_ := Aside0.mk ((by rw [hg]; exact (below_size (by repeat (first | (with_reducible first | exact HB.out | apply below_alloc | apply pw_below_drewN | apply below_drew1 | refine below_set ?_ GE154.out | refine below_set ?_ GE155.out) | exact HB.out))) : w.heap.size ≤ gb156)); have n6_ := Aside0.mk ((by rw [hg]; exact Nat.ne_of_lt (blk_lt (g := gb154) (o := .cells #[.int .i64 a0_0, .int .i64 a0_1] 24 (0, 0)) (by (with_reducible repeat (first | refine blk_drewN ?_ _ | refine blk_drew ?_ | refine blk_alloc ?_ _)); exact BK154.out)) : gb154 ≠ gb156)); have n7_ := Aside0.mk ((by rw [hg]; exact Nat.ne_of_gt (blk_lt (g := gb154) (o := .cells #[.int .i64 a0_0, .int .i64 a0_1] 24 (0, 0)) (by (with_reducible repeat (first | refine blk_drewN ?_ _ | refine blk_drew ?_ | refine blk_alloc ?_ _)); exact BK154.out)) : gb156 ≠ gb154)); have n8_ := Aside0.mk ((by rw [hg]; exact Nat.ne_of_lt (blk_lt (g := gb155) (o := .cells #[.int .i64 a1_0, .int .i64 a1_1] 24 (0, 0)) (by (with_reducible repeat (first | refine blk_drewN ?_ _ | refine blk_drew ?_ | refine blk_alloc ?_ _)); exact BK155.out)) : gb155 ≠ gb156)); have n9_ := Aside0.mk ((by rw [hg]; exact Nat.ne_of_gt (blk_lt (g := gb155) (o := .cells #[.int .i64 a1_0, .int .i64 a1_1] 24 (0, 0)) (by (with_reducible repeat (first | refine blk_drewN ?_ _ | refine blk_drew ?_ | refine blk_alloc ?_ _)); exact BK155.out)) : gb156 ≠ gb155)); clear BK154; clear BK155; clear HB; have BK154 := n0_; have BK155 := n1_; have HB := n2_; have BK156 := n3_; have GW156 := n4_; have GE156 := n5_; have NB154_156 := n6_; have NB156_154 := n7_; have NB155_156 := n8_; have NB156_155 := n9_; clear n0_ n1_ n2_ n3_ n4_ n5_ n6_ n7_ n8_ n9_; clear hb hbox hg; have hnb28 := NB154_155.out; have hnc28 := NB155_154.out; have hnb29 := NB154_156.out; have hnc29 := NB156_154.out; have hcz30_0 : w27.cell? ⟨gb154, 0, none⟩ = some (.int .i64 a0_0) := (blk_cell BK154.out 0).trans rfl; have hcz30_1 : w27.cell? ⟨gb154, 1, none⟩ = some (.int .i64 a0_1) := (blk_cell BK154.out 1).trans rfl; have hfz30_0 := blk_frozen BK154.out 0; have hfz30_1 := blk_frozen BK154.out 1; have hnb31 := NB155_156.out; have hnc31 := NB156_155.out; have hcz32_0 : w27.cell? ⟨gb155, 0, none⟩ = some (.int .i64 a1_0) := (blk_cell BK155.out 0).trans rfl; have hcz32_1 : w27.cell? ⟨gb155, 1, none⟩ = some (.int .i64 a1_1) := (blk_cell BK155.out 1).trans rfl; have hfz32_0 := blk_frozen BK155.out 0; have hfz32_1 := blk_frozen BK155.out 1) | ((with_reducible refine gate_callee (f := 22) rfl ?_); refine goesL_ (some 8) rfl rfl Try.func22 (by kernel_rfl) rfl #[.agg #[.int .i64 a0_0, .int .i64 a0_1], .agg #[.int .i64 a1_0, .int .i64 a1_1]] rfl (by (try simp only [List.map_toArray, List.map_cons, List.map_nil]); first | done | rfl | (simp only [List.length_drop, List.length_take]; rfl)) ?_; (with_reducible refine (span_Touch.calls a0_0 a0_1 a1_0 a1_1 false _ A3.out).mono ?_); rintro e w33 ⟨rfl, hb⟩; refine ⟨_, rfl, ?_⟩; have n0_ := Aside0.mk (blk_below (g := gb154) (o := .cells #[.int .i64 a0_0, .int .i64 a0_1] 24 (0, 0)) (by (with_reducible repeat (first | refine blk_drewN ?_ _ | refine blk_drew ?_ | refine blk_alloc ?_ _)); exact BK154.out) hb); have n1_ := Aside0.mk (blk_below (g := gb155) (o := .cells #[.int .i64 a1_0, .int .i64 a1_1] 24 (0, 0)) (by (with_reducible repeat (first | refine blk_drewN ?_ _ | refine blk_drew ?_ | refine blk_alloc ?_ _)); exact BK155.out) hb); have n2_ := Aside0.mk (blk_below (g := gb156) (o := .cells #[.int .i64 0, .int .i64 0] 24 (0, 0)) (by (with_reducible repeat (first | refine blk_drewN ?_ _ | refine blk_drew ?_ | refine blk_alloc ?_ _)); exact BK156.out) hb); have n3_ := Aside0.mk (below_step (by repeat (first | (with_reducible first | exact HB.out | apply below_alloc | apply pw_below_drewN | apply below_drew1 | refine below_set ?_ GE154.out | refine below_set ?_ GE155.out | refine below_set ?_ GE156.out) | exact HB.out)) hb); clear BK154; clear BK155; clear BK156; clear HB; have BK154 := n0_; have BK155 := n1_; have BK156 := n2_; have HB := n3_; clear n0_ n1_ n2_ n3_; (try clear hb); (try clear hb2); (try clear hk); (try clear hi); have hcz34_0 : w33.cell? ⟨gb156, 0, none⟩ = some (.int .i64 0) := (blk_cell BK156.out 0).trans rfl; have hcz34_1 : w33.cell? ⟨gb156, 1, none⟩ = some (.int .i64 0) := (blk_cell BK156.out 1).trans rfl; have hfz34_0 := blk_frozen BK156.out 0; have hfz34_1 := blk_frozen BK156.out 1))
    refine bodyPost_ret (results_ct rfl _ _ gb156 24 #[.int .i64 0, .int .i64 0] (0, 0) _ rfl (by (with_reducible repeat (first | refine blk_drewN ?_ _ | refine blk_drew ?_ | refine blk_alloc ?_ _)); refine blk_put (cs := #[.int .i64 0, .int .i64 0]) ?_ 1 _ rfl; (with_reducible repeat (first | refine blk_drewN ?_ _ | refine blk_drew ?_ | refine blk_alloc ?_ _)); refine blk_put (cs := #[.int .i64 0, .int .i64 0]) ?_ 0 _ rfl; (with_reducible repeat (first | refine blk_drewN ?_ _ | refine blk_drew ?_ | refine blk_alloc ?_ _)); exact BK156.out) Try.underlying24 rfl (by kernel_rfl)) rfl ?_
    exact ⟨by first | rfl | (simp [errW_none, errW_some] <;> rfl) | (simp [*, errW_none, errW_some] <;> rfl), by repeat (first | (with_reducible first | exact HB.out | apply below_alloc | apply pw_below_drewN | apply below_drew1 | refine below_set ?_ GE154.out | refine below_set ?_ GE155.out | refine below_set ?_ GE156.out) | exact HB.out)⟩
end Go.Proofs.Ytjbimnicnehnaaa.A
end
section
namespace Go.Proofs.Ytjbimnicnehnaaa.Hand
open Go.RowKit Go.Proofs.YtjbimnicnehnaaaW.PrintWords Go.Proofs.YtjbimnicnehnaaaW.PrintLast Go.Proofs.YtjbimnicnehnaaaW.PrintMore Go.Proofs.Ytjbimnicnehnaaa.A
set_option linter.unusedVariables false
set_option linter.unusedSimpArgs false
attribute [local go_sem] max2_int min2_int max_two min_two max_three min_three max_four min_four
theorem touch_eq (a m b n : Int) : span_Touch.f a m b n = some (decide (touches a m b n)) := by
  unfold span_Touch.f
  rw [whole_eq, Option.bind_some]
  by_cases h : wh a m
  · rw [if_pos (decide_eq_true h), whole_eq, Option.bind_some]
    by_cases h2 : wh b n
    · rw [if_pos (decide_eq_true h2), end_eq, end_eq, Option.bind_some, Option.bind_some, mx_eq, mn_eq]
      unfold endV
      rw [if_pos h, if_pos h2]
      congr 1
      rw [decide_eq_decide]
      exact ⟨fun x => ⟨h, h2, x⟩, fun x => x.2.2⟩
    · rw [if_neg (by rw [decide_eq_true_eq]; exact h2), decide_eq_false (fun x => h2 x.2.1)]
  · rw [if_neg (by rw [decide_eq_true_eq]; exact h), decide_eq_false (fun x => h x.1)]
theorem join_eq (a m b n : Int) : span_Join.f a m b n = some (joinV a m b n) := by
  unfold span_Join.f joinV
  rw [touch_eq, Option.bind_some]
  by_cases h : touches a m b n
  · have h' := h
    unfold touches wh at h'
    rw [if_pos (decide_eq_true h), end_eq, end_eq, Option.bind_some, Option.bind_some, mx_eq, mn_eq]
    unfold endV
    rw [if_pos h.1, if_pos h.2.1, of_yes (by omega) (by omega) (by omega), if_pos h]; rfl
  · rw [if_neg (by rw [decide_eq_true_eq]; exact h), if_neg h]
end Go.Proofs.Ytjbimnicnehnaaa.Hand
end
section
namespace Go.Proofs.Ytjbimnicnehnaaa.Hand
open Go.RowKit Go.Proofs.YtjbimnicnehnaaaW.PrintWords Go.Proofs.YtjbimnicnehnaaaW.PrintLast Go.Proofs.YtjbimnicnehnaaaW.PrintMore Go.Proofs.Ytjbimnicnehnaaa.A
set_option linter.unusedVariables false
set_option linter.unusedSimpArgs false
attribute [local go_sem] max2_int min2_int max_two min_two max_three min_three max_four min_four
/-- A set of blocks that is there: its spans. -/
def RunsAt (w : World) (base g : Nat) (l : List S24) : Prop := ∃ v, Blk w g 86 #[v] ∧ ORow w base v l
abbrev ptrR (g : Nat) : Value := .pointer (some ⟨g, 0, none⟩)
section
variable {w w1 : World} {base g : Nat} {l : List S24}
theorem RunsAt.lt (h : RunsAt w base g l) : g < w.heap.size := by obtain ⟨v, hb, _⟩ := h; exact hb.lt
theorem RunsAt.keep (h : RunsAt w base g l) (hB : Below w.heap.size w w1) : RunsAt w1 base g l := by
  obtain ⟨v, hb, ho⟩ := h
  exact ⟨v, hb.keep hB, ho.below hB⟩
theorem RunsAt.lower {base' : Nat} (h : RunsAt w base g l) (hb : base' ≤ base) : RunsAt w base' g l := by
  obtain ⟨v, hk, ho⟩ := h
  exact ⟨v, hk, ho.lower hb⟩
theorem RunsAt.only {g' t : Nat} {cs : Array Value} (h : RunsAt w base g l) (ho : Only w w1 g') (hne : g ≠ g') (hb : Blk w g' t cs) (ht : 24 ≠ t) : RunsAt w1 base g l := by
  obtain ⟨v, hk, hr⟩ := h
  exact ⟨v, hk.only ho hne, hr.only ho (hr.ne hb ht)⟩
theorem RunsAt.onlyR {g' base' : Nat} {l' : List S24} (h : RunsAt w base g l) (ho : Only w w1 g') (hne : g ≠ g') (hb : RunsAt w base' g' l') : RunsAt w1 base g l := by
  obtain ⟨v', hb', _⟩ := hb
  exact h.only ho hne hb' (by decide)
end
theorem addStep_len : ∀ (l : List S24) (t : S24 × Bool × List S24), (l.foldl addStep t).2.2.length ≤ t.2.2.length + 2 * l.length
  | [], t => by simp
  | x :: l, t => by
    have h := addStep_len l (addStep t x)
    have h2 : (addStep t x).2.2.length ≤ t.2.2.length + 2 := by
      unfold addStep; split
      · simp
      · split
        · simp
        · simp
    rw [List.foldl_cons, List.length_cons]
    omega
theorem foldl_snoc {α β : Type} (f : β → α → β) (b : β) (l : List α) (i : Nat) (h : i < l.length) : (l.take (i + 1)).foldl f b = f ((l.take i).foldl f b) l[i] := by
  rw [List.take_succ_eq_append_getElem h, List.foldl_append]; rfl
theorem rd_get (l : List S24) (i : Nat) (h : i < l.length) : rd_T24 l (i : Int) = l[i] := by
  show l.getD (i : Int).toNat z24 = l[i]
  rw [Int.toNat_natCast, List.getD_eq_getElem?_getD, List.getElem?_eq_getElem h]; rfl
set_option maxRecDepth 100000 in
set_option maxHeartbeats 1600000 in
theorem runs_add (base g : Nat) (l : List S24) (a m : Int) (w : World) (hr : RunsAt w base g l) (hT : Tidy 0 l) (hs : wh a m) (hbase : base ≤ w.heap.size) :
    Calls Try.prog 75 #[ptrR g, .agg #[.int .i64 a, .int .i64 m]] w fun e w' => e = .returned (.tuple #[]) ∧ RunsAt w' base g (addV l ⟨a, m⟩) ∧ Only w w' g := by
  obtain ⟨v0, hb0, ho0⟩ := hr
  obtain ⟨A, c, rfl, hlc, hC, hob⟩ := ho0.reads
  have c0 : w.cell? ⟨g, 0, none⟩ = some (.slice A l.length c) := hb0.cell rfl
  have f0 := hb0.frozen 0
  have HB0 := Aside0.mk hb0
  have HC := Aside0.mk hC
  have hlen : (l.length : Int) ≤ 65 := by have := hT.length (by decide); omega
  have HT := Aside0.mk hT
  have Hs := Aside0.mk hs
  have hg : g < w.heap.size := hb0.lt
  have Hbase := Aside0.mk hbase
  clear hb0 ho0 hC hT hs hob hlc hbase
  go_enter Try.func75, Try.ntmps75
  go_wp2_with fail
  go_loopg [4, 5, 13] l.length (fun kq u d v wq => ∃ i : Nat, i + kq = l.length ∧ v = .int .i64 (i : Int) ∧ d = .bool ((l.take i).foldl addStep (⟨a, m⟩, false, [])).2.1 ∧ Aside0 (Below w.heap.size w wq) ∧ Aside0 (ORow wq w.heap.size u ((l.take i).foldl addStep (⟨a, m⟩, false, [])).2.2) ∧ Aside0 (u.ownBlock ≠ some w.heap.size) ∧ Aside0 (Blk wq w.heap.size 24 #[.int .i64 ((l.take i).foldl addStep (⟨a, m⟩, false, [])).1.f0, .int .i64 ((l.take i).foldl addStep (⟨a, m⟩, false, [])).1.f1]))
  case atStart => exact ⟨0, by omega, rfl, rfl, ⟨below_alloc (Below.refl _ _) _⟩, ⟨ORow.nil _ _⟩, ⟨by simp [Value.ownBlock]⟩, ⟨Blk.new _ _ _⟩⟩
  case round =>
    obtain ⟨i, hi, rfl, rfl, HB, HO, HN, HS⟩ := hrel
    by_cases hlt : i < l.length
    · obtain ⟨ad, e1, x0, x1⟩ := at_T24 (Kd.C_below HC.out HB.out) (i : Int) (by omega) (by omega)
      subst e1
      rw [Int.toNat_natCast] at x0 x1
      have hlt' : (i : Int) < (l.length : Int) := by omega
      have hone := Aside0.mk (foldl_snoc addStep (⟨a, m⟩, false, []) l i hlt)
      have hlen2 : Aside0 (((l.take i).foldl addStep (⟨a, m⟩, false, [])).2.2.length ≤ 130) := ⟨by have := addStep_len (l.take i) (⟨a, m⟩, false, []); rw [List.length_take] at this; simp only [List.length_nil] at this; omega⟩
      have hwX : Aside0 (wh l[i].f0 l[i].f1) := ⟨HT.out.whole (Int.le_refl _) _ (List.getElem_mem hlt)⟩
      have hx : rd_T24 l (i : Int) = l[i] := rd_get l i hlt
      rw [hx] at x0 x1
      clear hx
      generalize l[i] = X at *
      generalize (l.take i).foldl addStep (⟨a, m⟩, false, []) = T at *
      obtain ⟨F, M⟩ := X
      obtain ⟨⟨p, q⟩, d, o⟩ := T
      simp only at HO HS x0 x1 hwX hlen2
      obtain ⟨kk, rfl⟩ : ∃ z, gk = z + 1 := ⟨gk - 1, by omega⟩
      have Ht := Aside0.mk (touch_eq F M p q)
      have hgs := HS.out.lt
      have d0 := HS.out.cell (i := 0) rfl
      have d1 := HS.out.cell (i := 1) rfl
      by_cases ht : touches F M p q
      · rw [decide_eq_true ht] at Ht
        have Hj : Aside0 (span_Join.f F M p q = some (min F p, max (F + M) (p + q) - min F p, true)) := ⟨by rw [join_eq]; unfold joinV; rw [if_pos ht]⟩
        have Hst : Aside0 (((l.take (i + 1)).foldl addStep (⟨a, m⟩, false, [])) = (⟨min F p, max (F + M) (p + q) - min F p⟩, d, o)) := ⟨by rw [hone.out]; unfold addStep; rw [if_pos ht]; rfl⟩
        clear ht hone
        go_wp2_with fail
        refine (span_Touch.calls F M p q true _ Ht.out).mono ?_
        rintro e w1 ⟨rfl, hB⟩
        have HB1 : Aside0 (Below w.heap.size w w1) := ⟨below_step (below_alloc HB.out _) hB⟩
        have HX1 : Aside0 (Blk w1 wr.heap.size 24 #[.int .i64 F, .int .i64 M]) := ⟨(Blk.new wr _ _).keep hB⟩
        have HS1 := Aside0.mk ((HS.out.alloc _).keep hB)
        have HO1 := Aside0.mk (ORow.below (own_alloc HO.out _) hB)
        have c1 := HX1.out.cell (i := 0) rfl
        have c2 := HX1.out.cell (i := 1) rfl
        have c3 := HS1.out.cell (i := 0) rfl
        have c4 := HS1.out.cell (i := 1) rfl
        clear hB HB HO HS x0 x1 d0 d1 hgs
        go_wp2_with fail
        refine (span_Join.calls F M p q _ _ true _ Hj.out).mono ?_
        rintro e w2 ⟨rfl, hB⟩
        have HB2 : Aside0 (Below w.heap.size w w2) := ⟨below_step HB1.out hB⟩
        have HS2 := Aside0.mk (HS1.out.keep hB)
        have HO2 := Aside0.mk (ORow.below HO1.out hB)
        have c3 := HS2.out.cell (i := 0) rfl
        have c4 := HS2.out.cell (i := 1) rfl
        have f3 := HS2.out.frozen 0
        have f4 := HS2.out.frozen 1
        clear hB HB1 HO1 HS1 c1 c2 HX1
        go_wp2_with fail
        go_roundg kk
        case measure => omega
        case rel =>
          refine ⟨i + 1, by omega, by go_num, by rw [Hst.out], ⟨below_set (below_set HB2.out (Nat.le_refl _)) (Nat.le_refl _)⟩, ?_, HN, ?_⟩
          · rw [Hst.out]
            exact ⟨(HO2.out.far HN.out _).far HN.out _⟩
          · rw [Hst.out]
            exact ⟨(HS2.out.set_ 0 _).set_ 1 _⟩
      · rw [decide_eq_false ht] at Ht
        by_cases hb : d = false ∧ p < F
        · have Hst : Aside0 (((l.take (i + 1)).foldl addStep (⟨a, m⟩, false, [])) = (⟨p, q⟩, true, o ++ [⟨p, q⟩] ++ [⟨F, M⟩])) := ⟨by rw [hone.out]; unfold addStep; rw [if_neg ht, if_pos hb]⟩
          obtain ⟨rfl, hpF⟩ := hb
          clear ht hone
          go_wp2_with fail
          refine (span_Touch.calls F M p q false _ Ht.out).mono ?_
          rintro e w1 ⟨rfl, hB⟩
          have HX0 : Aside0 (u4.ownBlock ≠ some wr.heap.size) := ⟨HO.out.ne_new (Nat.le_refl _)⟩
          have HB1 : Aside0 (Below w.heap.size w w1) := ⟨below_step (below_alloc HB.out _) hB⟩
          have HX1 : Aside0 (Blk w1 wr.heap.size 24 #[.int .i64 F, .int .i64 M]) := ⟨(Blk.new wr _ _).keep hB⟩
          have HS1 := Aside0.mk ((HS.out.alloc _).keep hB)
          have HO1 := Aside0.mk (ORow.below (own_alloc HO.out _) hB)
          have hgs1 := Aside0.mk HS1.out.lt
          have c1 := HX1.out.cell (i := 0) rfl
          have c2 := HX1.out.cell (i := 1) rfl
          have c3 := HS1.out.cell (i := 0) rfl
          have c4 := HS1.out.cell (i := 1) rfl
          clear hB HB HO HS x0 x1 d0 d1 hgs
          go_wp2_with (first | ((with_reducible refine gate_builtin (b := .append) (xs := #[.tmp 37, .tmp 39]) rfl ?_); at_builtin; refine print_append_cells (w0 := w) w.heap.size rfl (.tmp 37) (.tmp 39) 31 24 (.agg #[(.int .i64 0), (.int .i64 0)]) 2 16 rfl Try.underlying31 info24' rfl (by decide) (by omega) u4 (o).length (flat (o)) [.int .i64 p, .int .i64 q] rfl (by first | (go_simp; done) | (go_simp; rfl)) rfl (one_two _ _) HO1.out HB1.out (below_size HB1.out) ?aL ?_; (case aL => (have := hlen2.out; (try simp only [List.length_append, List.length_singleton]); omega)); intro v2 W2 ho hb hg hat; have HB2 := Aside0.mk hb; have HO2 := Aside0.mk (ORow.snoc ho); have HN2 := Aside0.mk (app_ne HN.out hgs1.out hat); have HS2 := Aside0.mk (HS1.out.grown hg HN.out); have HX2 := Aside0.mk (HX1.out.grown hg HX0.out); have HNX2 := Aside0.mk (app_ne HX0.out HX1.out.lt hat); have c5 := HX2.out.cell (i := 0) rfl; have c6 := HX2.out.cell (i := 1) rfl; clear ho hb hg hat) | ((with_reducible refine gate_builtin (b := .append) (xs := #[.tmp 41, .tmp 43]) rfl ?_); at_builtin; refine print_append_cells (w0 := w) w.heap.size rfl (.tmp 41) (.tmp 43) 31 24 (.agg #[(.int .i64 0), (.int .i64 0)]) 2 16 rfl Try.underlying31 info24' rfl (by decide) (by omega) v2 (o ++ [(⟨p, q⟩ : S24)]).length (flat (o ++ [(⟨p, q⟩ : S24)])) [.int .i64 F, .int .i64 M] rfl (by first | (go_simp; done) | (go_simp; rfl)) rfl (one_two _ _) HO2.out HB2.out (below_size HB2.out) ?aL ?_; (case aL => (have := hlen2.out; (try simp only [List.length_append, List.length_singleton]); omega)); intro v3 W3 ho hb hg hat; have HB3 := Aside0.mk hb; have HO3 := Aside0.mk (ORow.snoc ho); have HN3 := Aside0.mk (app_ne HN2.out HS2.out.lt hat); have HS3 := Aside0.mk (HS2.out.grown hg HN2.out); clear ho hb hg hat))
          go_roundg kk
          case measure => omega
          case rel =>
            refine ⟨i + 1, by omega, by go_num, ?_⟩
            rw [Hst.out]
            exact ⟨rfl, HB3, HO3, HN3, HS3⟩
        · have Hst : Aside0 (((l.take (i + 1)).foldl addStep (⟨a, m⟩, false, [])) = (⟨p, q⟩, d, o ++ [⟨F, M⟩])) := ⟨by rw [hone.out]; unfold addStep; rw [if_neg ht, if_neg hb]⟩
          clear ht hone
          have hor : d = true ∨ (d = false ∧ ¬ p < F) := by
            cases d
            · exact .inr ⟨rfl, fun h => hb ⟨rfl, h⟩⟩
            · exact .inl rfl
          clear hb
          rcases hor with rfl | ⟨rfl, hpF⟩
          all_goals
            go_wp2_with fail
            refine (span_Touch.calls F M p q false _ Ht.out).mono ?_
            rintro e w1 ⟨rfl, hB⟩
            have HX0 : Aside0 (u4.ownBlock ≠ some wr.heap.size) := ⟨HO.out.ne_new (Nat.le_refl _)⟩
            have HB1 : Aside0 (Below w.heap.size w w1) := ⟨below_step (below_alloc HB.out _) hB⟩
            have HX1 : Aside0 (Blk w1 wr.heap.size 24 #[.int .i64 F, .int .i64 M]) := ⟨(Blk.new wr _ _).keep hB⟩
            have HS1 := Aside0.mk ((HS.out.alloc _).keep hB)
            have HO1 := Aside0.mk (ORow.below (own_alloc HO.out _) hB)
            have hgs1 := Aside0.mk HS1.out.lt
            have c1 := HX1.out.cell (i := 0) rfl
            have c2 := HX1.out.cell (i := 1) rfl
            have c3 := HS1.out.cell (i := 0) rfl
            have c4 := HS1.out.cell (i := 1) rfl
            clear hB HB HO HS x0 x1 d0 d1 hgs
            go_wp2_with (first | ((with_reducible refine gate_builtin (b := .append) (xs := #[.tmp 41, .tmp 43]) rfl ?_); at_builtin; refine print_append_cells (w0 := w) w.heap.size rfl (.tmp 41) (.tmp 43) 31 24 (.agg #[(.int .i64 0), (.int .i64 0)]) 2 16 rfl Try.underlying31 info24' rfl (by decide) (by omega) u4 (o).length (flat (o)) [.int .i64 F, .int .i64 M] rfl (by first | (go_simp; done) | (go_simp; rfl)) rfl (one_two _ _) HO1.out HB1.out (below_size HB1.out) ?aL ?_; (case aL => (have := hlen2.out; (try simp only [List.length_append, List.length_singleton]); omega)); intro v3 W3 ho hb hg hat; have HB3 := Aside0.mk hb; have HO3 := Aside0.mk (ORow.snoc ho); have HN3 := Aside0.mk (app_ne HN.out hgs1.out hat); have HS3 := Aside0.mk (HS1.out.grown hg HN.out); clear ho hb hg hat))
            go_roundg kk
            case measure => omega
            case rel =>
              refine ⟨i + 1, by omega, by go_num, ?_⟩
              rw [Hst.out]
              exact ⟨rfl, HB3, HO3, HN3, HS3⟩
    · have hlt' : ¬ (i : Int) < (l.length : Int) := by omega
      have hlen2 : Aside0 (((l.take i).foldl addStep (⟨a, m⟩, false, [])).2.2.length ≤ 130) := ⟨by have := addStep_len (l.take i) (⟨a, m⟩, false, []); rw [List.length_take] at this; simp only [List.length_nil] at this; omega⟩
      have hi' : i = l.length := by omega
      subst hi'
      have hV : Aside0 (addV l ⟨a, m⟩ = if ((l.take l.length).foldl addStep (⟨a, m⟩, false, [])).2.1 then ((l.take l.length).foldl addStep (⟨a, m⟩, false, [])).2.2 else ((l.take l.length).foldl addStep (⟨a, m⟩, false, [])).2.2 ++ [((l.take l.length).foldl addStep (⟨a, m⟩, false, [])).1]) := ⟨by rw [List.take_length]; rfl⟩
      generalize (l.take l.length).foldl addStep (⟨a, m⟩, false, []) = T at *
      obtain ⟨⟨p, q⟩, d, o⟩ := T
      simp only at HO HS hlen2 hV
      have HR := Aside0.mk (HB0.out.below HB.out hg)
      have Hg := Aside0.mk hg
      have c3 := HS.out.cell (i := 0) rfl
      have c4 := HS.out.cell (i := 1) rfl
      cases d
      · go_wp2_with ((with_reducible refine gate_builtin (b := .append) (xs := #[.tmp 48, .tmp 50]) rfl ?_); at_builtin; refine print_append_cells (w0 := w) w.heap.size rfl (.tmp 48) (.tmp 50) 31 24 (.agg #[(.int .i64 0), (.int .i64 0)]) 2 16 rfl Try.underlying31 info24' rfl (by decide) (by omega) u4 (o).length (flat (o)) [.int .i64 p, .int .i64 q] rfl (by first | (go_simp; done) | (go_simp; rfl)) rfl (one_two _ _) HO.out HB.out (below_size HB.out) ?aL ?_; (case aL => (have := hlen2.out; (try simp only [List.length_append, List.length_singleton]); omega)); intro v3 W3 ho hb hg hat; have HB3 := Aside0.mk hb; have HO3 := Aside0.mk (ORow.snoc ho); have HR3 := Aside0.mk (HR.out.grown hg (HO.out.ne_old Hg.out)); obtain ⟨A3, k3, hv3, _, _, _⟩ := HO3.out.reads; rw [List.length_append, List.length_singleton] at hv3; subst hv3; have g1 := HR3.out.lt; have c5 := HR3.out.cell (i := 0) rfl; have f5 := HR3.out.frozen 0; clear ho hb hg hat)
        go_end0
        refine ⟨rfl, ⟨_, HR3.out.set_ 0 _, ?_⟩, only_set (only_below (only_refl _ _) HB3.out) 0 _⟩
        rw [hV.out]
        exact (HO3.out.far (p := ⟨g, 0, none⟩) (HO3.out.ne_old Hg.out) _).lower Hbase.out
      · obtain ⟨A3, k3, rfl, _, _, _⟩ := HO.out.reads
        have c5 := HR.out.cell (i := 0) rfl
        have f5 := HR.out.frozen 0
        go_wp2_with fail
        go_end0
        refine ⟨rfl, ⟨_, HR.out.set_ 0 _, ?_⟩, only_set (only_below (only_refl _ _) HB.out) 0 _⟩
        rw [hV.out]
        exact (HO.out.far (p := ⟨g, 0, none⟩) (HO.out.ne_old Hg.out) _).lower Hbase.out
end Go.Proofs.Ytjbimnicnehnaaa.Hand
end
section
namespace Go.Proofs.Ytjbimnicnehnaaa.A
open Go.RowKit Go.Proofs.YtjbimnicnehnaaaW.PrintWords Go.Proofs.YtjbimnicnehnaaaW.PrintLast Go.Proofs.YtjbimnicnehnaaaW.PrintMore
attribute [local go_sem] max2_int min2_int max_two min_two max_three min_three max_four min_four   -- for this text's walks alone
set_option linter.unusedVariables false
set_option linter.unusedSimpArgs false
attribute [local go_sem high] eqA24
def api_Span_74.l0 : Nat → List (S24) → List (S24) → Int → Int → Option (Bool)
  | 0, _, _, _, _ => none
  | k + 1, x0, x1, x12, x13 => if x13 < x12 then (if 0 ≤ x13 then (if x13 < (x0.length : Int) then (if x13 < (x1.length : Int) then (if (!(((rd_T24 x0 x13).f0) == ((rd_T24 x1 x13).f0)) || (!(((rd_T24 x0 x13).f1) == ((rd_T24 x1 x13).f1)))) = true then (some false) else (api_Span_74.l0 k x0 x1 x12 (wrap64 (x13 + 1)))) else (none)) else (none)) else (none)) else (some true)
def api_Span_74.f (k : Nat) (l0 : List (S24)) (l1 : List (S24)) : Option (Bool) := if (l0.length : Int) = (l1.length : Int) then (api_Span_74.l0 k l0 l1 (l0.length : Int) 0) else (some false)
theorem api_Span_74.mono_l : ∀ k, (∀ y0 y1 y2 y3, LeO (api_Span_74.l0 k y0 y1 y2 y3) (api_Span_74.l0 (k + 1) y0 y1 y2 y3))
  | 0 => fun _ _ _ _ r h => by simp [api_Span_74.l0] at h
  | k + 1 => by
    have ih0 := api_Span_74.mono_l k
    · intro y0 y1 y2 y3
      unfold api_Span_74.l0
      repeat' first
      | (with_reducible exact ih0 _ _ _ _)
      | (with_reducible exact LeO.refl _)
      | (with_reducible exact LeO.none _)
      | (with_reducible refine LeO.ite ?_ ?_)
      | (with_reducible refine LeO.bind ?_ (fun _ => ?_))
      | exact ih0 _ _ _ _
      | exact LeO.none _
      | refine LeO.ite ?_ ?_
      | refine LeO.bind ?_ (fun _ => ?_)
theorem api_Span_74.mono : ∀ a0 a1 k, LeO (api_Span_74.f k a0 a1) (api_Span_74.f (k + 1) a0 a1) := by
  intro a0 a1 k
  have ih0 := api_Span_74.mono_l k
  unfold api_Span_74.f
  repeat' first
      | (with_reducible exact ih0 _ _ _ _)
      | (with_reducible exact LeO.refl _)
      | (with_reducible exact LeO.none _)
      | (with_reducible refine LeO.ite ?_ ?_)
      | (with_reducible refine LeO.bind ?_ (fun _ => ?_))
      | exact ih0 _ _ _ _
      | exact LeO.none _
      | refine LeO.ite ?_ ?_
      | refine LeO.bind ?_ (fun _ => ?_)
set_option maxHeartbeats 8000000 in
set_option maxRecDepth 100000 in
theorem api_Span_74.calls (k : Nat) (A0 : Option Addr) (c0 : Nat) (l0 : List (S24)) (A1 : Option Addr) (c1 : Nat) (l1 : List (S24)) (r : Bool) (w : World) (hr0 : Kd.C k24 w A0 l0.length l0) (hc0 : l0.length ≤ c0) (hr1 : Kd.C k24 w A1 l1.length l1) (hc1 : l1.length ≤ c1) (h : api_Span_74.f k l0 l1 = some r) :
    Calls Try.prog 74 #[.slice A0 l0.length c0, .slice A1 l1.length c1] w fun e w' => e = .returned (.bool r) ∧ Drawn0 w w' := by
  have hu24 := Try.underlying24
  have HR0 := Aside0.mk hr0
  have HC0 := Aside0.mk hc0
  clear hr0 hc0
  have HR1 := Aside0.mk hr1
  have HC1 := Aside0.mk hc1
  clear hr1 hc1
  have H : (if (l0.length : Int) = (l1.length : Int) then (api_Span_74.l0 k l0 l1 (l0.length : Int) 0) else (some false)) = some r := h
  clear h
  by_cases c3 : (l0.length : Int) = (l1.length : Int)
  · rw [if_pos c3] at H
    have c3b0 : ((l0.length : Int) == (l1.length : Int)) = true := beq_iff_eq.mpr c3
    have c3b1 : ((l0.length : Int) != (l1.length : Int)) = false := bne_eq_false_iff_eq.mpr c3
    have c3b2 : (l0.length == l1.length) = true := by first | simpa using c3 | (simp at c3 ⊢; omega)
    clear c3
    have H' := Aside0.mk H
    clear H
    go_enter Try.func74, Try.ntmps74
    go_wp2
    repeat (go_quiet (fail); try go_wp2)
    go_loopg [13] k (fun kq v13 w' => ∃ (x13_1 : Int), v13 = .int .i64 x13_1 ∧ Aside0 (api_Span_74.l0 kq l0 l1 (l0.length : Int) x13_1 = some r) ∧ Aside0 (kq ≤ k) ∧ Drawn0 w w')
    case atStart => exact ⟨(0), (by first | rfl | (simp; done) | (simp [*]; done)), H', ⟨Nat.le_refl _⟩, by repeat (first | exact Drawn0.refl _ | apply Drawn0.step)⟩
    case round =>
      clear H'
      try clear c1
      try clear p2
      try clear c3
      try clear c3b0
      try clear c3b1
      try clear c3b2
      obtain ⟨x13_1, rfl, HA, HK1, ⟨m1, rfl⟩⟩ := hrel
      cases gk with
      | zero => exact absurd HA.out (by simp [api_Span_74.l0])
      | succ k1 =>
        have H := HA.out
        clear HA
        simp only [api_Span_74.l0] at H
        by_cases c4 : x13_1 < (l0.length : Int)
        · rw [if_pos c4] at H
          have c4b0 : decide (x13_1 < (l0.length : Int)) = true := decide_eq_true c4
          clear c4
          by_cases c5 : 0 ≤ x13_1
          · rw [if_pos c5] at H
            have c5b0 : decide (0 ≤ x13_1) = true := decide_eq_true c5
            clear c5
            by_cases c6 : x13_1 < (l0.length : Int)
            · rw [if_pos c6] at H
              have c6b0 : decide (x13_1 < (l0.length : Int)) = true := decide_eq_true c6
              clear c6
              by_cases c7 : x13_1 < (l1.length : Int)
              · rw [if_pos c7] at H
                have c7b0 : decide (x13_1 < (l1.length : Int)) = true := decide_eq_true c7
                clear c7
                by_cases c8 : (!(((rd_T24 l0 x13_1).f0) == ((rd_T24 l1 x13_1).f0)) || (!(((rd_T24 l0 x13_1).f1) == ((rd_T24 l1 x13_1).f1)))) = true
                · rw [if_pos c8] at H
                  have c8b0 : (!(((rd_T24 l0 x13_1).f0) == ((rd_T24 l1 x13_1).f0)) || (!(((rd_T24 l0 x13_1).f1) == ((rd_T24 l1 x13_1).f1)))) = true := c8
                  clear c8
                  obtain rfl := Option.some.inj H
                  have p171 : 0 ≤ (x13_1 : Int) := of_decide_eq_true (by first | (with_reducible assumption) | assumption)
                  have q171 : x13_1 < (l0.length : Int) := of_decide_eq_true (by first | (with_reducible assumption) | assumption)
                  obtain ⟨ad171, e171, hx171_0, hx171_1⟩ := at_T24 HR0.out x13_1 p171 q171
                  cases e171
                  replace p171 := eq_true p171
                  replace q171 := eq_true q171
                  have p172 : 0 ≤ (x13_1 : Int) := of_decide_eq_true (by first | (with_reducible assumption) | assumption)
                  have q172 : x13_1 < (l1.length : Int) := of_decide_eq_true (by first | (with_reducible assumption) | assumption)
                  obtain ⟨ad172, e172, hx172_0, hx172_1⟩ := at_T24 HR1.out x13_1 p172 q172
                  cases e172
                  replace p172 := eq_true p172
                  replace q172 := eq_true q172
                  go_wp2
                  repeat (go_quiet (fail); try go_wp2)
                  go_ret
                  exact ⟨by first | rfl | (simp; done) | (simp [*]; done), by repeat (first | exact Drawn0.refl _ | apply Drawn0.step)⟩
                · rw [if_neg c8] at H
                  have c8b0 : (!(((rd_T24 l0 x13_1).f0) == ((rd_T24 l1 x13_1).f0)) || (!(((rd_T24 l0 x13_1).f1) == ((rd_T24 l1 x13_1).f1)))) = false := by simpa using c8
                  clear c8
                  have H' := Aside0.mk H
                  clear H
                  have p171 : 0 ≤ (x13_1 : Int) := of_decide_eq_true (by first | (with_reducible assumption) | assumption)
                  have q171 : x13_1 < (l0.length : Int) := of_decide_eq_true (by first | (with_reducible assumption) | assumption)
                  obtain ⟨ad171, e171, hx171_0, hx171_1⟩ := at_T24 HR0.out x13_1 p171 q171
                  cases e171
                  replace p171 := eq_true p171
                  replace q171 := eq_true q171
                  have p172 : 0 ≤ (x13_1 : Int) := of_decide_eq_true (by first | (with_reducible assumption) | assumption)
                  have q172 : x13_1 < (l1.length : Int) := of_decide_eq_true (by first | (with_reducible assumption) | assumption)
                  obtain ⟨ad172, e172, hx172_0, hx172_1⟩ := at_T24 HR1.out x13_1 p172 q172
                  cases e172
                  replace p172 := eq_true p172
                  replace q172 := eq_true q172
                  go_wp2
                  repeat (go_quiet (fail); try go_wp2)
                  go_roundg k1
                  case measure => have := HK1.out; omega
                  case rel => exact ⟨(wrap64 (x13_1 + 1)), (by first | rfl | (simp; done) | (simp [*]; done)), H', ⟨by have := HK1.out; omega⟩, by repeat (first | exact Drawn0.refl _ | apply Drawn0.step)⟩
              · rw [if_neg c7] at H
                exact absurd H (by simp)
            · rw [if_neg c6] at H
              exact absurd H (by simp)
          · rw [if_neg c5] at H
            exact absurd H (by simp)
        · rw [if_neg c4] at H
          have c4b0 : decide (x13_1 < (l0.length : Int)) = false := decide_eq_false c4
          clear c4
          obtain rfl := Option.some.inj H
          go_wp2
          repeat (go_quiet (fail); try go_wp2)
          go_ret
          exact ⟨by first | rfl | (simp; done) | (simp [*]; done), by repeat (first | exact Drawn0.refl _ | apply Drawn0.step)⟩
  · rw [if_neg c3] at H
    have c3b0 : ((l0.length : Int) == (l1.length : Int)) = false := beq_eq_false_iff_ne.mpr c3
    have c3b1 : ((l0.length : Int) != (l1.length : Int)) = true := bne_iff_ne.mpr c3
    have c3b2 : (l0.length == l1.length) = false := by first | simpa using c3 | (simp at c3 ⊢; omega)
    obtain rfl := Option.some.inj H
    go_enter Try.func74, Try.ntmps74
    go_wp2
    repeat (go_quiet (fail); try go_wp2)
    go_ret
    exact ⟨by first | rfl | (simp; done) | (simp [*]; done), by repeat (first | exact Drawn0.refl _ | apply Drawn0.step)⟩
end Go.Proofs.Ytjbimnicnehnaaa.A
end
section
namespace Go.Proofs.Ytjbimnicnehnaaa.Hand
open Go.RowKit Go.Proofs.YtjbimnicnehnaaaW.PrintWords Go.Proofs.YtjbimnicnehnaaaW.PrintLast Go.Proofs.YtjbimnicnehnaaaW.PrintMore Go.Proofs.Ytjbimnicnehnaaa.A
set_option linter.unusedVariables false
set_option linter.unusedSimpArgs false
attribute [local go_sem] max2_int min2_int max_two min_two max_three min_three max_four min_four
def setArr (s : List Bool) : Array Value := (s.map Value.bool).toArray
theorem setArr_get (s : List Bool) (i : Nat) (h : i < s.length) : (setArr s)[i]? = some (.bool (s.getD i false)) := by
  unfold setArr
  rw [List.getElem?_toArray, List.getElem?_map, List.getElem?_eq_getElem h, List.getD_eq_getElem?_getD, List.getElem?_eq_getElem h]; rfl
theorem setArr_size (s : List Bool) : (setArr s).size = s.length := by unfold setArr; simp
theorem setArr_one (s : List Bool) : (setArr s).all (·.oneCell') = true := by
  unfold setArr
  rw [List.all_toArray, List.all_map, List.all_eq_true]
  intro b _; rfl
theorem info30 : (Try.prog.info? 30).map (·.size) = some 64 := by kernel_rfl
theorem setArr_set (s : List Bool) (i : Nat) (b : Bool) : (setArr s).setIfInBounds i (.bool b) = setArr (s.set i b) := by
  unfold setArr
  rw [List.setIfInBounds_toArray, List.map_set]
/-- Blocks from one on, so many, are as they are told. -/
def setN (s : List Bool) (f : Nat) (on : Bool) : Nat → List Bool
  | 0 => s
  | n + 1 => (setN s f on n).set (f + n) on
theorem setN_length (s : List Bool) (f : Nat) (on : Bool) : ∀ n, (setN s f on n).length = s.length
  | 0 => rfl
  | n + 1 => by rw [setN, List.length_set, setN_length s f on n]
def putOne (s : List Bool) (x : S24) (on : Bool) : List Bool := if wh x.f0 x.f1 then setN s x.f0.toNat on x.f1.toNat else s
theorem putOne_length (s : List Bool) (x : S24) (on : Bool) : (putOne s x on).length = s.length := by
  unfold putOne; split
  · exact setN_length _ _ _ _
  · rfl
def putS (s : List Bool) (l : List S24) (on : Bool) : List Bool := l.foldl (fun s x => putOne s x on) s
theorem putS_length (l : List S24) (on : Bool) : ∀ s : List Bool, (putS s l on).length = s.length := by
  induction l with
  | nil => intro s; rfl
  | cons x l ih => intro s; exact (ih (putOne s x on)).trans (putOne_length s x on)
theorem putS_snoc (s : List Bool) (l : List S24) (on : Bool) (i : Nat) (h : i < l.length) : putS s (l.take (i + 1)) on = putOne (putS s (l.take i) on) (rd_T24 l i) on := by
  unfold putS
  rw [List.take_succ_eq_append_getElem h, List.foldl_append]
  show putOne _ l[i] on = putOne _ (l.getD (i : Int).toNat z24) on
  rw [Int.toNat_natCast, List.getD_eq_getElem?_getD, List.getElem?_eq_getElem h]; rfl
set_option maxRecDepth 100000 in
set_option maxHeartbeats 1600000 in
theorem emulsionref1_Set_Put.calls (s : List Bool) (hs : Aside0 (s.length = 64)) (A : Option Addr) (c : Nat) (l : List S24) (on : Bool) (w : World) (hr : Kd.C k24 w A l.length l) (hc : l.length ≤ c) :
    Calls Try.prog 19 #[.agg (setArr s), .slice A l.length c, .bool on] w fun e w' => (e = .returned (.agg (setArr (putS s l on)))) ∧ Below w.heap.size w w' := by
  have HR := Aside0.mk hr
  have hl64 : (l.length : Int) ≤ 9223372036854775807 := by have := hr.2.1; omega
  clear hr hc
  go_enter Try.func19, Try.ntmps19
  go_wp2_with fail
  go_loopg [7] l.length (fun kq v wq => ∃ i : Nat, i + kq = l.length ∧ v = .int .i64 i ∧ Aside0 (Below w.heap.size w wq) ∧ Aside0 (Blk wq w.heap.size 30 (setArr (putS s (l.take i) on))) ∧ Aside0 (Blk wq (w.heap.size + 1) 30 (setArr (List.replicate 64 false))))
  case atStart =>
    exact ⟨0, by omega, rfl, ⟨by repeat (first | exact Below.refl _ _ | apply below_alloc)⟩, ⟨(Blk.new w 30 (setArr s)).alloc _⟩, ⟨by unfold Blk; rw [show w.heap.size + 1 = (w.alloc (.cells (setArr s) 30)).heap.size by simp]; exact heap_alloc_new _ _⟩⟩
  case round =>
    obtain ⟨i, hi, rfl, HB, HX, HZ⟩ := hrel
    by_cases hlt : i < l.length
    · obtain ⟨ad, e1, x0, x1⟩ := at_T24 (Kd.C_below HR.out HB.out) (i : Int) (by omega) (by omega)
      subst e1
      rw [Int.toNat_natCast] at x0 x1
      obtain ⟨ad', e1, z0, z1⟩ := at_T24 HR.out (i : Int) (by omega) (by omega)
      cases e1
      have hadb : (ad.add (i * 2)).block < w.heap.size := World.block_lt_of_cell? _ _ z0
      clear z0 z1
      obtain ⟨og, rfl⟩ : ∃ q, gk = q + 1 := ⟨gk - 1, by omega⟩
      have hlt' : (i : Int) < (l.length : Int) := by omega
      have hone := Aside0.mk (putS_snoc s l on i hlt)
      have hSl := Aside0.mk ((putS_length (l.take i) on s).trans hs.out)
      clear hs
      generalize rd_T24 l (i : Int) = X at *
      obtain ⟨F, M⟩ := X
      generalize putS s (l.take i) on = S0 at *
      by_cases hw : wh F M
      · obtain ⟨f, rfl⟩ := Int.eq_ofNat_of_zero_le hw.1
        obtain ⟨m, rfl⟩ := Int.eq_ofNat_of_zero_le (show 0 ≤ M by have := hw.2.1; omega)
        have hfm : f + m ≤ 64 := by have := hw.2.2; omega
        have Hw : Aside0 (emulsionref1_Whole.f (f : Int) (m : Int) = some true) := ⟨by rw [rwhole_eq, decide_eq_true hw]⟩
        have hone2 : Aside0 (putS s (l.take (i + 1)) on = setN S0 f on m) := ⟨by rw [hone.out]; unfold putOne; rw [if_pos hw]; simp⟩
        clear hw hone
        go_wp2_with fail
        go_loopg [8] m (fun kq v wq => ∃ k : Nat, k + kq = m ∧ v = .int .i64 k ∧ Aside0 (Below w.heap.size w wq) ∧ Aside0 (Blk wq w.heap.size 30 (setArr (setN S0 f on k))) ∧ Aside0 (Blk wq (w.heap.size + 1) 30 (setArr (List.replicate 64 false))) ∧ wq.cell? (ad.add (i * 2)) = some (.int .i64 (f : Int)) ∧ wq.cell? { block := (ad.add (i * 2)).block, off := (ad.add (i * 2)).off + 1 } = some (.int .i64 (m : Int)))
        case atStart => exact ⟨0, by omega, rfl, HB, HX, HZ, x0, x1⟩
        case round =>
          obtain ⟨k, hk, rfl, HB1, HX1, HZ1, y0, y1⟩ := hrel
          go_wp2_with fail
          refine (emulsionref1_Whole.calls (f : Int) (m : Int) true _ Hw.out).mono ?_
          rintro e w1 ⟨rfl, hB⟩
          have HB2 : Aside0 (Below w.heap.size w w1) := ⟨below_step HB1.out hB⟩
          have HX2 := Aside0.mk (HX1.out.keep hB)
          have HZ2 := Aside0.mk (HZ1.out.keep hB)
          replace y0 := keepP hB y0
          replace y1 := keepP hB y1
          clear HB1 HX1 HZ1 hB
          have hf0 : (0 : Int) ≤ (f : Int) + (k : Int) := by omega
          by_cases hkm : k < m
          · have hkm' : (k : Int) < (m : Int) := by omega
            have hf1 : (f : Int) + (k : Int) < 64 := by omega
            have hcell : w1.cell? ⟨w.heap.size, f + k, none⟩ = some (.bool ((setN S0 f on k).getD (f + k) false)) := HX2.out.cell (setArr_get _ _ (by rw [setN_length, hSl.out]; omega))
            have hfroz : w1.frozen? ⟨w.heap.size, f + k, none⟩ = false := HX2.out.frozen _
            obtain ⟨ig, rfl⟩ : ∃ q, gk = q + 1 := ⟨gk - 1, by omega⟩
            go_wp2_with fail
            go_roundg ig
            case measure => omega
            case rel =>
              refine ⟨k + 1, by omega, by go_num, ⟨below_set HB2.out (Nat.le_refl _)⟩, ⟨?_⟩, ⟨HZ2.out.far (by simp) _⟩, ?_, ?_⟩
              · have h := HX2.out.set_ (f + k) (.bool on)
                rwa [setArr_set] at h
              · exact (World.cell?_setCell_other _ _ _ _ (fun e => by have := congrArg Addr.block e; simp at this; omega)).trans y0
              · exact (World.cell?_setCell_other _ _ _ _ (fun e => by have := congrArg Addr.block e; simp at this; omega)).trans y1
          · have hkm' : ¬ (k : Int) < (m : Int) := by omega
            obtain rfl : k = m := by omega
            go_wp2_with fail
            go_roundg og
            case measure => omega
            case rel => exact ⟨i + 1, by omega, by go_num, HB2, ⟨by rw [hone2.out]; exact HX2.out⟩, HZ2⟩
      · have Hw : Aside0 (emulsionref1_Whole.f F M = some false) := ⟨by rw [rwhole_eq, decide_eq_false hw]⟩
        have hone2 : Aside0 (putS s (l.take (i + 1)) on = S0) := ⟨by rw [hone.out]; unfold putOne; rw [if_neg hw]⟩
        clear hw hone
        go_wp2_with fail
        go_loopg [8] 0 (fun kq v wq => v = .int .i64 0 ∧ Aside0 (Below w.heap.size w wq) ∧ Aside0 (Blk wq w.heap.size 30 (setArr S0)) ∧ Aside0 (Blk wq (w.heap.size + 1) 30 (setArr (List.replicate 64 false))) ∧ wq.cell? (ad.add (i * 2)) = some (.int .i64 F) ∧ wq.cell? { block := (ad.add (i * 2)).block, off := (ad.add (i * 2)).off + 1 } = some (.int .i64 M))
        case atStart => exact ⟨rfl, HB, HX, HZ, x0, x1⟩
        case round =>
          obtain ⟨rfl, HB1, HX1, HZ1, y0, y1⟩ := hrel
          go_wp2_with fail
          refine (emulsionref1_Whole.calls F M false _ Hw.out).mono ?_
          rintro e w1 ⟨rfl, hB⟩
          have HB2 : Aside0 (Below w.heap.size w w1) := ⟨below_step HB1.out hB⟩
          have HX2 := Aside0.mk (HX1.out.keep hB)
          have HZ2 := Aside0.mk (HZ1.out.keep hB)
          clear HB1 HX1 HZ1 hB
          go_wp2_with fail
          go_roundg og
          case measure => omega
          case rel => exact ⟨i + 1, by omega, by go_num, HB2, ⟨by rw [hone2.out]; exact HX2.out⟩, HZ2⟩
    · have hlt' : ¬ (i : Int) < (l.length : Int) := by omega
      obtain rfl : i = l.length := by omega
      have hF : Aside0 ((putS s l on).length = 64) := ⟨(putS_length l on s).trans hs.out⟩
      rw [List.take_length] at HX
      go_wp2_with (first | (with_reducible refine wpList_load_row rfl 30 (.tmp 3) rfl w.heap.size rfl 30 _ (0, 0) _ HX.out.hd Try.underlying30 rfl (by rw [setArr_size, hF.out]; exact info30) ?_) | (with_reducible refine wpList_store_row rfl 30 (.tmp 6) (.tmp 40) rfl (w.heap.size + 1) (setArr (putS s l on)) rfl rfl 30 (setArr (List.replicate 64 false)) HZ.out.hd (by rw [setArr_size, hF.out]; exact info30) (by rw [setArr_size, setArr_size, hF.out, List.length_replicate]) (setArr_one _) ?_))
      have HZ2 : Blk (wr.setRow (w.heap.size + 1) (setArr (putS s l on))) (w.heap.size + 1) 30 (setArr (putS s l on)) := setRow_heap _ _ _ _ _ _ HZ.out.hd
      exact bodyPost_ret (v := .agg (setArr (putS s l on))) (results_cell_row rfl _ _ (w.heap.size + 1) 30 _ (0, 0) _ rfl HZ2.hd Try.underlying30 rfl (by rw [setArr_size, hF.out]; exact info30)) rfl ⟨rfl, below_setRow HB.out (by omega) _⟩
end Go.Proofs.Ytjbimnicnehnaaa.Hand
end
section
namespace Go.Proofs.Ytjbimnicnehnaaa.Hand
open Go.RowKit Go.Proofs.YtjbimnicnehnaaaW.PrintWords Go.Proofs.Ytjbimnicnehnaaa.A
set_option linter.unusedVariables false
theorem setN_get (s : List Bool) (f : Nat) (on : Bool) (k : Nat) : ∀ m, f + m ≤ s.length → (setN s f on m).getD k false = if f ≤ k ∧ k < f + m then on else s.getD k false
  | 0, _ => by rw [if_neg (by omega)]; rfl
  | m + 1, h => by
    have ih := setN_get s f on k m (by omega)
    have hl := setN_length s f on m
    show ((setN s f on m).set (f + m) on).getD k false = _
    rw [List.getD_eq_getElem?_getD, List.getElem?_set]
    by_cases hk : f + m = k
    · rw [if_pos hk, if_pos (by omega), if_pos (by omega)]; rfl
    · rw [if_neg hk, ← List.getD_eq_getElem?_getD, ih]
      by_cases h2 : f ≤ k ∧ k < f + m
      · rw [if_pos h2, if_pos (by omega)]
      · rw [if_neg h2, if_neg (by omega)]
theorem putOne_get (s : List Bool) (x : S24) (on : Bool) (k : Nat) (hs : s.length = 64) : (putOne s x on).getD k false = if wh x.f0 x.f1 ∧ x.f0 ≤ k ∧ (k : Int) < x.f0 + x.f1 then on else s.getD k false := by
  unfold putOne
  by_cases h : wh x.f0 x.f1
  · have h' := h
    unfold wh at h'
    rw [if_pos h, setN_get _ _ _ _ _ (by omega)]
    by_cases h2 : x.f0 ≤ k ∧ (k : Int) < x.f0 + x.f1
    · rw [if_pos (by omega), if_pos ⟨h, h2⟩]
    · rw [if_neg (by omega), if_neg (fun z => h2 z.2)]
  · rw [if_neg h, if_neg (fun z => h z.1)]
abbrev none64 : List Bool := List.replicate 64 false
theorem none64_get (k : Nat) : none64.getD k false = false := by
  rw [List.getD_eq_getElem?_getD, List.getElem?_replicate]; split <;> rfl
end Go.Proofs.Ytjbimnicnehnaaa.Hand
end
section
namespace Go.Proofs.Ytjbimnicnehnaaa.Hand
open Go.RowKit Go.Proofs.YtjbimnicnehnaaaW.PrintWords Go.Proofs.YtjbimnicnehnaaaW.PrintLast Go.Proofs.YtjbimnicnehnaaaW.PrintMore Go.Proofs.Ytjbimnicnehnaaa.A
set_option linter.unusedVariables false
set_option linter.unusedSimpArgs false
attribute [local go_sem] max2_int min2_int max_two min_two max_three min_three max_four min_four
abbrev SPN := S24
theorem tidy_snoc : ∀ {T : List SPN} {lo : Int} {x : SPN}, Tidy lo T → lo ≤ x.f0 → 1 ≤ x.f1 → x.f0 + x.f1 ≤ 64 → (∀ j, mem T j → j + 1 < x.f0) → Tidy lo (T ++ [x])
  | [], _, x, _, h1, h2, h3, _ => ⟨h1, h2, h3, trivial⟩
  | y :: l, lo, x, ⟨g1, g2, g3, g4⟩, h1, h2, h3, h => ⟨g1, g2, g3, tidy_snoc g4 (by have := h (y.f0 + y.f1 - 1) ((mem_cons y l _).2 (.inl ⟨by omega, by omega⟩)); omega) h2 h3 (fun j hj => h j ((mem_cons y l j).2 (.inr hj)))⟩
theorem tidy_split : ∀ {T : List SPN} {lo : Int} {x : SPN}, Tidy lo (T ++ [x]) → Tidy lo T ∧ lo ≤ x.f0 ∧ 1 ≤ x.f1 ∧ x.f0 + x.f1 ≤ 64 ∧ ∀ j, mem T j → j + 1 < x.f0
  | [], _, x, ⟨h1, h2, h3, _⟩ => ⟨trivial, h1, h2, h3, fun j hj => absurd hj (mem_nil j)⟩
  | y :: l, lo, x, ⟨g1, g2, g3, g4⟩ => by
    obtain ⟨a, b, c, d, e⟩ := tidy_split g4
    refine ⟨⟨g1, g2, g3, a⟩, by omega, c, d, fun j hj => ?_⟩
    rcases (mem_cons y l j).1 hj with hj | hj
    · unfold inSp at hj; omega
    · exact e j hj
/-- What is told of the blocks below one. -/
def SpT (s : List Bool) (k : Nat) (T : List SPN) : Prop := Tidy 0 T ∧ (∀ j, mem T j ↔ 0 ≤ j ∧ j < k ∧ s.getD j.toNat false = true) ∧ T.length ≤ k
theorem SpT.zero (s : List Bool) : SpT s 0 [] := ⟨trivial, fun j => ⟨fun h => absurd h (mem_nil j), fun h => by omega⟩, Nat.le_refl _⟩
theorem SpT.no {s : List Bool} {k : Nat} {T : List SPN} (h : SpT s k T) (hk : s.getD k false = false) : SpT s (k + 1) T := by
  refine ⟨h.1, fun j => (h.2.1 j).trans ⟨fun ⟨a, b, c⟩ => ⟨a, by omega, c⟩, fun ⟨a, b, c⟩ => ⟨a, ?_, c⟩⟩, by have := h.2.2; omega⟩
  rcases Int.lt_or_le j k with hj | hj
  · exact hj
  · have : j.toNat = k := by omega
    rw [this, hk] at c
    cases c
theorem SpT.new {s : List Bool} {k : Nat} {T : List SPN} (h : SpT s k T) (h64 : k < 64) (hk : s.getD k false = true) (hp : k = 0 ∨ s.getD (k - 1) false = false) : SpT s (k + 1) (T ++ [⟨(k : Int), 1⟩]) := by
  refine ⟨tidy_snoc h.1 (by simp only; omega) (by simp only; omega) (by simp only; omega) (fun j hj => ?_), fun j => ?_, by have := h.2.2; rw [List.length_append, List.length_singleton]; omega⟩
  · obtain ⟨a, b, c⟩ := (h.2.1 j).1 hj
    rcases hp with hp | hp
    · omega
    · simp only
      rcases Int.lt_or_le (j + 1) k with hh | hh
      · exact hh
      · have : j.toNat = k - 1 := by omega
        rw [this, hp] at c; cases c
  · rw [mem_append, h.2.1]
    have hone : mem [(⟨(k : Int), 1⟩ : SPN)] j ↔ j = k := by
      unfold mem inSp
      simp only [List.mem_singleton, exists_eq_left]
      omega
    rw [hone]
    constructor
    · rintro (⟨a, b, c⟩ | rfl)
      · exact ⟨a, by omega, c⟩
      · exact ⟨by omega, by omega, by rw [Int.toNat_natCast]; exact hk⟩
    · rintro ⟨a, b, c⟩
      by_cases hj : j = k
      · exact .inr hj
      · exact .inl ⟨a, by omega, c⟩
theorem SpT.more {s : List Bool} {k : Nat} {T : List SPN} (h : SpT s k T) (h64 : k < 64) (hk : s.getD k false = true) (h0 : 0 < k) (hp : s.getD (k - 1) false = true) : ∃ T' x, T = T' ++ [x] ∧ x.f0 + x.f1 = (k : Int) ∧ 0 ≤ x.f0 ∧ 1 ≤ x.f1 ∧ SpT s (k + 1) (T' ++ [⟨x.f0, x.f1 + 1⟩]) := by
  have hm : mem T ((k - 1 : Nat) : Int) := (h.2.1 _).2 ⟨by omega, by omega, by rw [Int.toNat_natCast]; exact hp⟩
  rcases List.eq_nil_or_concat T with rfl | ⟨T', x, rfl⟩
  · exact absurd hm (mem_nil _)
  · rw [List.concat_eq_append] at h hm ⊢
    obtain ⟨t1, t2, t3, t4, t5⟩ := tidy_split h.1
    have hone : ∀ (y : SPN) (j : Int), mem [y] j ↔ y.f0 ≤ j ∧ j < y.f0 + y.f1 := fun y j => by
      unfold mem inSp
      simp only [List.mem_singleton, exists_eq_left]
    have hl := ((h.2.1 (x.f0 + x.f1 - 1)).1 ((mem_append _ _ _).2 (.inr ((hone x _).2 ⟨by omega, by omega⟩)))).2.1
    have he : x.f0 + x.f1 = (k : Int) := by
      rcases (mem_append _ _ _).1 hm with hm | hm
      · have := t5 _ hm; omega
      · have := (hone x _).1 hm; omega
    refine ⟨T', x, rfl, he, t2, t3, tidy_snoc t1 t2 (by simp only; omega) (by simp only; omega) t5, fun j => ?_, by have := h.2.2; simp only [List.length_append, List.length_singleton] at this ⊢; omega⟩
    have hj := h.2.1 j
    rw [mem_append, hone] at hj ⊢
    simp only
    constructor
    · rintro (a | a)
      · obtain ⟨b, c, d⟩ := hj.1 (.inl a); exact ⟨b, by omega, d⟩
      · by_cases hjk : j = k
        · subst hjk
          exact ⟨by omega, by omega, by rw [Int.toNat_natCast]; exact hk⟩
        · obtain ⟨b, c, d⟩ := hj.1 (.inr ⟨a.1, by omega⟩); exact ⟨b, by omega, d⟩
    · rintro ⟨a, b, c⟩
      by_cases hjk : j = k
      · exact .inr ⟨by omega, by omega⟩
      · rcases hj.2 ⟨a, by omega, c⟩ with d | d
        · exact .inl d
        · exact .inr ⟨d.1, by omega⟩
theorem SpT.all {s : List Bool} {T : List SPN} (h : SpT s 64 T) : T = spansOf s :=
  tidy_eq h.1 (fun k hk => (h.2.1 k).trans ⟨fun ⟨_, _, c⟩ => by rwa [Int.toNat_natCast] at c, fun c => ⟨by omega, by omega, by rw [Int.toNat_natCast]; exact c⟩⟩)
/-- The last span's length is written. -/
theorem ORow.last {w : World} {base g c : Nat} {T' : List SPN} {x : SPN} (h : ORow w base (.slice (some ⟨g, 0, none⟩) (T'.length + 1) c) (T' ++ [x])) (q : Int) : ORow (w.setCell ⟨g, T'.length * 2 + 1, none⟩ (.int .i64 q)) base (.slice (some ⟨g, 0, none⟩) (T'.length + 1) c) (T' ++ [⟨x.f0, q⟩]) := by
  have hr := h.to_R
  obtain ⟨gg, cc, he, _, _, _, hcell, _⟩ := h.opened (by simp)
  injection he with q1 q2 q3
  injection q1 with q1; injection q1 with q1
  subst q1
  obtain ⟨x0, x1⟩ := hcell T'.length x (by rw [List.getElem?_append_right (Nat.le_refl _), Nat.sub_self]; rfl)
  have hs := (Kd.R_seg (j := 1) (seg := [.int .i64 q]) (x' := (⟨x.f0, q⟩ : SPN)) (c := [.int .i64 x.f0, .int .i64 x.f1]) (okp := fun _ => False) hr ((T'.length : Nat) : Int) (by omega) (by omega) rfl (fun j u hu => by
    rw [Int.toNat_natCast]
    match j, hu with
    | 0, hu => injection hu with hu; subst hu; exact x0
    | 1, hu => injection hu with hu; subst hu; exact x1
    | j + 2, hu => simp at hu) (Nat.le_refl 2) (k24_mkM _ _ _ _) (fun _ h => h.elim)).1
  rw [Int.toNat_natCast, List.set_append_right _ _ (Nat.le_refl _), Nat.sub_self] at hs
  exact ORow.of_R hs
set_option maxRecDepth 100000 in
set_option maxHeartbeats 1600000 in
theorem set_spans (s : List Bool) (hs : s.length = 64) (w : World) :
    Calls Try.prog 27 #[.agg (setArr s)] w fun e w' => ∃ v, e = .returned v ∧ ORow w' w.heap.size v (spansOf s) ∧ Below w.heap.size w w' := by
  have Hs := Aside0.mk hs
  clear hs
  go_enter Try.func27, Try.ntmps27
  go_wp2_with fail
  go_loopg [3, 4] 64 (fun kq v3 v4 wq => ∃ k : Nat, k + kq = 64 ∧ v4 = .int .i64 (k : Int) ∧ Aside0 (Below w.heap.size w wq) ∧ Aside0 (Blk wq w.heap.size 30 (setArr s)) ∧ Aside0 (∃ T, SpT s k T ∧ ORow wq w.heap.size v3 T))
  case atStart => exact ⟨0, by omega, rfl, ⟨below_alloc (Below.refl _ _) _⟩, ⟨Blk.new w _ _⟩, ⟨[], SpT.zero s, ORow.nil _ _⟩⟩
  case round =>
    obtain ⟨k, hk, rfl, HB, HX, HT⟩ := hrel
    obtain ⟨T, hT, ho⟩ := HT.out
    obtain ⟨A, c, rfl, hlc, _, _⟩ := ho.reads
    have HO := Aside0.mk ho
    have HP := Aside0.mk hT
    clear ho hT HT
    by_cases hlt : k < 64
    · have hlt' : (k : Int) < 64 := by omega
      obtain ⟨kk, rfl⟩ : ∃ z, gk = z + 1 := ⟨gk - 1, by omega⟩
      have x0 := HX.out.cell (setArr_get s k (by rw [Hs.out]; exact hlt))
      cases hb : s.getD k false with
      | false =>
        rw [hb] at x0
        have HP1 := Aside0.mk (HP.out.no hb)
        clear hb
        go_wp2_with fail
        go_roundg kk
        case measure => omega
        case rel => exact ⟨k + 1, by omega, by go_num, HB, HX, ⟨T, HP1.out, HO.out⟩⟩
      | true =>
        rw [hb] at x0
        have Hk := Aside0.mk hb
        clear hb
        have hnew : ∀ (hp : k = 0 ∨ s.getD (k - 1) false = false), Aside0 (SpT s (k + 1) (T ++ [⟨(k : Int), 1⟩])) := fun hp => ⟨HP.out.new hlt Hk.out hp⟩
        have hTl : T.length ≤ 64 := by have := HP.out.2.2; omega
        rcases Nat.eq_zero_or_pos k with h0 | h0
        · have HN := hnew (.inl h0)
          clear hnew
          subst h0
          go_wp2_with (first | ((with_reducible refine gate_builtin (b := .append) (xs := #[.tmp 31, .tmp 34]) rfl ?_); at_builtin; refine print_append_cells (w0 := wr) w.heap.size rfl (.tmp 31) (.tmp 34) 31 24 (.agg #[.int .i64 0, .int .i64 0]) 2 16 rfl Try.underlying31 info24' rfl (by decide) (by decide) (.slice A T.length c) T.length (flat T) [.int .i64 0, .int .i64 1] rfl rfl rfl (one_two _ _) HO.out (Below.refl _ _) (below_size HB.out) (by omega) ?_; intro v7 w7 ho7 hb7 hg7 hat7; have HO7 := Aside0.mk (ORow.snoc ho7); have HB7 := Aside0.mk (HB.out.trans hb7); have HX7 := Aside0.mk (HX.out.grown hg7 (HO.out.ne HX.out (by decide))); clear ho7 hb7 hg7 hat7))
          go_roundg kk
          case measure => omega
          case rel => exact ⟨_, by omega, by go_num, HB7, HX7, ⟨_, HN.out, HO7.out⟩⟩
        · obtain ⟨k', rfl⟩ : ∃ z, k = z + 1 := ⟨k - 1, by omega⟩
          have y0 := HX.out.cell (setArr_get s k' (by rw [Hs.out]; omega))
          have hpos : (0 : Int) < (k' : Int) + 1 := by omega
          cases hb : s.getD k' false with
          | false =>
            rw [hb] at y0
            have HN := hnew (.inr hb)
            clear hnew hb
            go_wp2_with (first | ((with_reducible refine gate_builtin (b := .append) (xs := #[.tmp 31, .tmp 34]) rfl ?_); at_builtin; refine print_append_cells (w0 := wr) w.heap.size rfl (.tmp 31) (.tmp 34) 31 24 (.agg #[.int .i64 0, .int .i64 0]) 2 16 rfl Try.underlying31 info24' rfl (by decide) (by decide) (.slice A T.length c) T.length (flat T) [.int .i64 ((k' : Int) + 1), .int .i64 1] rfl rfl rfl (one_two _ _) HO.out (Below.refl _ _) (below_size HB.out) (by omega) ?_; intro v7 w7 ho7 hb7 hg7 hat7; have HO7 := Aside0.mk (ORow.snoc ho7); have HB7 := Aside0.mk (HB.out.trans hb7); have HX7 := Aside0.mk (HX.out.grown hg7 (HO.out.ne HX.out (by decide))); clear ho7 hb7 hg7 hat7))
            go_roundg kk
            case measure => omega
            case rel => exact ⟨_, by omega, by go_num, HB7, HX7, ⟨_, HN.out, HO7.out⟩⟩
          | true =>
            rw [hb] at y0
            obtain ⟨T', x, hTe, he, hx0, hx1, hM⟩ := HP.out.more hlt Hk.out (by omega) hb
            clear hnew hb
            subst hTe
            have HM := Aside0.mk hM
            have HO1 := Aside0.mk HO.out
            rw [List.length_append, List.length_singleton] at HO1 hlc
            clear hM HP HO
            obtain ⟨gv, cv, hve, _, _, _, hcell, hfr⟩ := HO1.out.opened (by simp)
            injection hve with q1 q2 q3
            subst q1
            clear q3
            obtain ⟨z0, z1⟩ := hcell T'.length x (by rw [List.getElem?_append_right (Nat.le_refl _), Nat.sub_self]; rfl)
            have zf := hfr (T'.length * 2 + 1)
            clear hcell hfr
            have hlen : (T' ++ [x]).length = T'.length + 1 := by simp
            rw [hlen]
            clear hlen
            have hml : (T'.length : Int) ≤ 64 := by rw [List.length_append, List.length_singleton] at hTl; omega
            obtain ⟨N, hN⟩ : ∃ N, N = T'.length + 1 := ⟨_, rfl⟩
            rw [← hN] at HO1 hlc ⊢
            have hN1 : (N : Int) - 1 = (T'.length : Int) := by omega
            have hN2 : (T'.length : Int) < (N : Int) := by omega
            have hN3 : (N : Int) ≤ 65 := by omega
            have HNe := Aside0.mk hN
            clear hN
            generalize hm : T'.length = m at *
            have Hm := Aside0.mk hm
            have hw1 : wrap64 (x.f1 + 1) = x.f1 + 1 := w_id (by omega) (by omega)
            have HO7 : Aside0 (ORow (wr.setCell ⟨gv, m * 2 + 1, none⟩ (.int .i64 (x.f1 + 1))) w.heap.size (.slice (some ⟨gv, 0, none⟩) N c) (T' ++ [⟨x.f0, x.f1 + 1⟩])) := ⟨by
              have h := HO1.out
              rw [HNe.out, ← Hm.out] at h ⊢
              exact h.last _⟩
            have hgb : w.heap.size ≤ gv := own_base HO1.out gv rfl
            have HB7 : Aside0 (Below w.heap.size w (wr.setCell ⟨gv, m * 2 + 1, none⟩ (.int .i64 (x.f1 + 1)))) := ⟨HB.out.setCell hgb _⟩
            have HX7 : Aside0 (Blk (wr.setCell ⟨gv, m * 2 + 1, none⟩ (.int .i64 (x.f1 + 1))) w.heap.size 30 (setArr s)) := ⟨HX.out.far (fun e => HO1.out.ne HX.out (by decide) (by rw [e]; rfl)) _⟩
            clear hm q2 he hx0 hx1 hgb
            go_wp2_with fail
            go_roundg kk
            case measure => omega
            case rel => exact ⟨_, by omega, by go_num, HB7, HX7, ⟨_, HM.out, HO7.out⟩⟩
    · obtain rfl : k = 64 := by omega
      have hl := HP.out.all
      subst hl
      go_wp2_with fail
      go_ret
      exact ⟨_, rfl, HO.out, HB.out⟩
end Go.Proofs.Ytjbimnicnehnaaa.Hand
end
section
namespace Go.Proofs.Ytjbimnicnehnaaa.Hand
open Go.RowKit Go.Proofs.YtjbimnicnehnaaaW.PrintWords Go.Proofs.YtjbimnicnehnaaaW.PrintLast Go.Proofs.YtjbimnicnehnaaaW.PrintMore Go.Proofs.Ytjbimnicnehnaaa.A
set_option linter.unusedVariables false
set_option linter.unusedSimpArgs false
attribute [local go_sem] max2_int min2_int max_two min_two max_three min_three max_four min_four
theorem cut_up {P : Program} (t e : TypeId) (kh : IntKind) {i : TypeInfo} (ht : P.underlying t = some (.slice e)) (hi : P.info? e = some i) (A : Option Addr) (n c : Nat) (j : Int) (m : Nat) (hj : j = (m : Int)) (hm : m ≤ c) :
    ∀ W : World, (Instr.slice t (.slice A n c) none (some (.int kh j)) none).run P W = .ok (.slice A m c) W := by
  intro W
  subst hj
  have hel : P.elem t = e := by simp [Program.elem, ht]
  have hu : P.underlying t = some (.slice (P.elem t)) := by rw [hel]; exact ht
  have ha : (A.map fun x => x.add 0) = A := by cases A <;> simp [Addr.add]
  rw [run_slice_h W t A n c hu kh (m : Int) (by omega) (by omega), hel]
  simp [sizeOf, typeInfo, hi, sliced, Result.andThen, ha]
theorem R_len {α : Type} {d : Kd α} {e : Nat} {w : World} {B n c : Nat} {A : Option Addr} {ok : Nat → Prop} {xs : List α} (h : Kd.R d e w B ok (.slice A n c) xs) : n = xs.length ∧ n ≤ c := ⟨(Kd.R_reads' h).1, (Kd.R_reads' h).2.1⟩
set_option maxRecDepth 100000 in
theorem lent_Spans (A : Option Addr) (c : Nat) (l : List S24) (hl : l.length ≤ 1000000) (w : World) (hC : Kd.C k24 w A l.length l) :
    Calls Try.prog 39 #[.slice A l.length c] w fun e w' => ∃ A' c', e = .returned (.slice A' l.length c') ∧ Kd.R k24 24 w' w.heap.size (fun _ => True) (.slice A' (l.length + 1) c') (l ++ [(⟨-77, 0⟩ : S24)]) ∧ Below w.heap.size w w' := by
  have HC := Aside0.mk hC
  have Hl := Aside0.mk hl
  have hi : (l.length : Int) ≤ 1000000 := by omega
  clear hC hl
  go_enter Try.func39, Try.ntmps39
  go_wp2_with fail
  refine (copy_Spans A c l Hl.out _ HC.out).mono ?_
  rintro e w1 ⟨u, rfl, hu, hB⟩
  have HU := Aside0.mk hu
  have HB := Aside0.mk hB
  obtain ⟨Au, cu, hue, _⟩ := Kd.R_reads hu
  subst hue
  clear hu hB
  obtain ⟨ti, hti, _⟩ := info_parts ginfoSpans
  have Hti := Aside0.mk hti
  clear hti
  go_wp2_with (at_builtin; refine Kd.R_append k24 (w0 := w) w.heap.size rfl (.tmp 4) (.tmp 6) 31 24 (.agg #[.int .i64 0, .int .i64 0]) 16 rfl Try.underlying31 ginfoSpans rfl (by decide) (by decide) (.slice Au l.length cu) l (⟨-77, 0⟩ : S24) [.int .i64 (-77), .int .i64 0] (fun _ => True) (fun _ => False) rfl (by first | (go_simp; done) | (go_simp; rfl)) (k24_mkM _ _ _ (⟨-77, 0⟩ : S24)) (fun _ hk => hk.elim) (fun _ _ => trivial) HU.out HB.out HB.out.size (by have := Hl.out; omega) ?_; intro v1 w2 hr hb hg hat; have HR := Aside0.mk hr; have HB2 := Aside0.mk hb; obtain ⟨A2, c2, hv, hle, _⟩ := Kd.R_reads hr; rw [List.length_append, List.length_singleton] at hv hle; subst hv; have hcut := cut_up (P := Try.prog) 31 24 .i64 Try.underlying31 Hti.out A2 (l.length + 1) c2 (l.length : Int) l.length rfl (by omega); clear hr hb hg hat)
  go_ret
  exact ⟨_, _, rfl, HR.out, HB2.out⟩
set_option maxRecDepth 100000 in
theorem stays_Spans {B : Nat} (A' : Option Addr) (c' : Nat) (A : Option Addr) (c : Nat) (l : List S24) (hl : l.length ≤ 1000000) (w : World) (hR : Kd.R k24 24 w B (fun _ => True) (.slice A' (l.length + 1) c') (l ++ [(⟨-77, 0⟩ : S24)])) (hc : l.length ≤ c) (hC : Kd.C k24 w A l.length l) :
    Calls Try.prog 40 #[.slice A' l.length c', .slice A l.length c] w fun e w' => e = .returned (.bool true) ∧ Below w.heap.size w w' := by
  obtain ⟨g, rfl, hg1, hg2, hCg⟩ := row_at0 hR (by simp)
  have hle : l.length + 1 ≤ c' := (R_len hR).2
  have hC0 : Kd.C k24 w (some ⟨g, 0, none⟩) l.length l := by have h := Kd.C_take (m := l.length) hCg (by simp); rw [List.take_left'] at h; exact h; rfl
  obtain ⟨cs, hK, hcs⟩ := C_at0 hCg (k := l.length) (x := (⟨-77, 0⟩ : S24)) (by rw [List.getElem?_append_right (Nat.le_refl _), Nat.sub_self]; rfl)
  obtain rfl : cs = [.int .i64 (-77), .int .i64 0] := k24_open hK
  have c0 : w.cell? ⟨g, (l.length * 2), none⟩ = some (.int .i64 (-77)) := by have h := hcs 0 _ rfl; simpa [show Kd.sz k24 = 2 from rfl] using h
  have Hc := Aside0.mk hc
  have HC := Aside0.mk hC
  have HC0 := Aside0.mk hC0
  have Hl := Aside0.mk hl
  have Hle := Aside0.mk hle
  have hi : (l.length : Int) ≤ 1000000 := by omega
  clear hR hCg hC0 hcs hK hC hc hl hle hg1 hg2
  obtain ⟨ti, hti, _⟩ := info_parts ginfoSpans
  have hcut := cut_up (P := Try.prog) 31 24 .i64 Try.underlying31 hti (some ⟨g, 0, none⟩) l.length c' ((l.length : Int) + 1) (l.length + 1) (by omega) (by have := Hle.out; omega)
  clear hti
  have hlt : (l.length : Int) < ((l.length + 1 : Nat) : Int) := by omega
  have hlt2 : (l.length : Int) < (l.length : Int) + 1 := by omega
  go_enter Try.func40, Try.ntmps40
  go_wp2_with fail
  refine (emulsionbook_SameSpans.calls (l.length + 1) _ _ l _ _ l true _ HC0.out (by have := Hle.out; omega) HC.out Hc.out (sameSpans_f l (by have := Hl.out; omega) _ (by omega))).mono ?_
  rintro e w1 ⟨rfl, hd⟩
  have hB := drawnB hd
  have c1 := keep hB c0
  clear c0 hd
  have HB := Aside0.mk hB
  clear hB
  go_wp2_with fail
  go_ret
  exact ⟨rfl, HB.out⟩
end Go.Proofs.Ytjbimnicnehnaaa.Hand
end
section
namespace Go.Proofs.Ytjbimnicnehnaaa.A
open Go.RowKit Go.Proofs.YtjbimnicnehnaaaW.PrintWords Go.Proofs.YtjbimnicnehnaaaW.PrintLast Go.Proofs.YtjbimnicnehnaaaW.PrintMore
set_option linter.unusedVariables false
set_option linter.unusedSimpArgs false
structure S66 where
  f0 : Int
  f1 : List S24
def z66 : S66 := ⟨(0 : Int), []⟩
def k66 : Kd S66 := Kd.iso (Kd.pair (Kd.int .i64) (Kd.slice 24 k24)) (fun x : S66 => (x.f0, x.f1))
theorem k66_open {w : World} {x : S66} {cs : List Value} (h : k66.K w x cs) : ∃ A1 c1, cs = [.int .i64 x.f0, .slice A1 (x.f1).length c1] ∧ (x.f1).length ≤ c1 ∧ Kd.C k24 w A1 (x.f1).length x.f1 := by
  obtain ⟨_, _, rfl, rfl, ⟨A1, c1, rfl, h1a, h1b⟩⟩ := h
  exact ⟨A1, c1, rfl, h1a, h1b⟩
theorem k66_mk (w : World) (x : S66) (A1 : Option Addr) (c1 : Nat) (h1a : (x.f1).length ≤ c1) (h1b : Kd.C k24 w A1 (x.f1).length x.f1) : k66.K w x [.int .i64 x.f0, .slice A1 (x.f1).length c1] := ⟨[.int .i64 x.f0], [.slice A1 (x.f1).length c1], rfl, rfl, ⟨A1, c1, rfl, h1a, h1b⟩⟩
def rd_T66 (xs : List S66) (i : Int) : S66 := xs.getD i.toNat z66
theorem at_T66 {w : World} {A : Option Addr} {n : Nat} {xs : List S66} (h : Kd.C k66 w A n xs) (i : Int) (h0 : 0 ≤ i) (h1 : i < n) : ∃ ad A1 c1, A = some ad ∧ w.cell? (ad.add (i.toNat * 2)) = some (.int .i64 (rd_T66 xs i).f0) ∧ w.cell? ⟨(ad.add (i.toNat * 2)).block, (ad.add (i.toNat * 2)).off + 1, none⟩ = some (.slice A1 ((rd_T66 xs i).f1).length c1) ∧ ((rd_T66 xs i).f1).length ≤ c1 ∧ Kd.C k24 w A1 ((rd_T66 xs i).f1).length (rd_T66 xs i).f1 := by
  obtain ⟨ad, c, e, _, hK, hc0⟩ := Kd.C_get h z66 i h0 h1
  have hc : ∀ j u, c[j]? = some u → w.cell? (ad.add (i.toNat * 2 + j)) = some u := hc0
  obtain ⟨A1, c1, rfl, h1a, h1b⟩ := k66_open hK
  exact ⟨ad, A1, c1, e, hc 0 _ rfl, by rw [← add_field _ _ 1 (by omega)]; exact hc 1 _ rfl, h1a, h1b⟩
end Go.Proofs.Ytjbimnicnehnaaa.A
end
