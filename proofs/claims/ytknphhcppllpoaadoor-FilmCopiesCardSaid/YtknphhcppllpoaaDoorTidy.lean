/- Lists of spans that are tidy, as sets of blocks. No program. -/
import Derived.Test.YtknphhcppllpoaaDoorSpanB
namespace Go.Proofs.YtknphhcppllpoaaDoor.Hand
open Go.RowKit Go.Proofs.YtknphhcppllpoaaDoorW.PrintWords Go.Proofs.YtknphhcppllpoaaDoor.A
set_option linter.unusedVariables false
set_option linter.unusedSimpArgs false
instance decS : DecidableEq S55 := fun a b => decidable_of_iff (a.f0 = b.f0 ∧ a.f1 = b.f1) ⟨fun h => by cases a; cases b; simp_all, fun h => by rw [h]; exact ⟨rfl, rfl⟩⟩
/-- Blocks that a list of spans has. -/
def inSp (x : S55) (k : Int) : Prop := x.f0 ≤ k ∧ k < x.f0 + x.f1
def mem (l : List S55) (k : Int) : Prop := ∃ x ∈ l, inSp x k
/-- As few spans as may be, rising, from a place on. -/
def Tidy : Int → List S55 → Prop
  | _, [] => True
  | lo, x :: l => lo ≤ x.f0 ∧ 1 ≤ x.f1 ∧ x.f0 + x.f1 ≤ 64 ∧ Tidy (x.f0 + x.f1 + 1) l
theorem mem_nil (k : Int) : ¬ mem [] k := fun ⟨_, h, _⟩ => by simp at h
theorem mem_cons (x : S55) (l : List S55) (k : Int) : mem (x :: l) k ↔ inSp x k ∨ mem l k := by
  unfold mem; simp
theorem mem_append (a b : List S55) (k : Int) : mem (a ++ b) k ↔ mem a k ∨ mem b k := by
  unfold mem
  constructor
  · rintro ⟨x, h, hk⟩
    rcases List.mem_append.1 h with h | h
    · exact .inl ⟨x, h, hk⟩
    · exact .inr ⟨x, h, hk⟩
  · rintro (⟨x, h, hk⟩ | ⟨x, h, hk⟩)
    · exact ⟨x, List.mem_append.2 (.inl h), hk⟩
    · exact ⟨x, List.mem_append.2 (.inr h), hk⟩
theorem Tidy.lo : ∀ {l : List S55} {lo lo' : Int}, Tidy lo l → lo' ≤ lo → Tidy lo' l
  | [], _, _, _, _ => trivial
  | _ :: _, _, _, ⟨h1, h2, h3, h4⟩, h => ⟨by omega, h2, h3, h4⟩
theorem Tidy.ge : ∀ {l : List S55} {lo k : Int}, Tidy lo l → mem l k → lo ≤ k ∧ k < 64
  | [], _, k, _, h => absurd h (mem_nil k)
  | x :: l, lo, k, ⟨h1, h2, h3, h4⟩, h => by
    rcases (mem_cons x l k).1 h with h | h
    · unfold inSp at h; omega
    · have := h4.ge h; omega
theorem Tidy.ext : ∀ {l l' : List S55} {lo lo' : Int}, Tidy lo l → Tidy lo' l' → (∀ k, mem l k ↔ mem l' k) → l = l'
  | [], [], _, _, _, _, _ => rfl
  | [], y :: l', _, _, _, ⟨_, h2, _, _⟩, h => absurd ((h y.f0).2 ((mem_cons y l' _).2 (.inl ⟨by omega, by omega⟩))) (mem_nil _)
  | x :: l, [], _, _, ⟨_, h2, _, _⟩, _, h => absurd ((h x.f0).1 ((mem_cons x l _).2 (.inl ⟨by omega, by omega⟩))) (mem_nil _)
  | x :: l, y :: l', lo, lo', ⟨_, h2, h3, h4⟩, ⟨_, g2, g3, g4⟩, h => by
    have lox : ∀ k, mem (x :: l) k → x.f0 ≤ k := fun k hk => by
      rcases (mem_cons x l k).1 hk with hk | hk
      · exact hk.1
      · have := h4.ge hk; omega
    have loy : ∀ k, mem (y :: l') k → y.f0 ≤ k := fun k hk => by
      rcases (mem_cons y l' k).1 hk with hk | hk
      · exact hk.1
      · have := g4.ge hk; omega
    have e0 : x.f0 = y.f0 := by
      have a := loy _ ((h x.f0).1 ((mem_cons x l _).2 (.inl ⟨by omega, by omega⟩)))
      have b := lox _ ((h y.f0).2 ((mem_cons y l' _).2 (.inl ⟨by omega, by omega⟩)))
      omega
    have nx : ¬ mem (x :: l) (x.f0 + x.f1) := fun hk => by
      rcases (mem_cons x l _).1 hk with hk | hk
      · unfold inSp at hk; omega
      · have := h4.ge hk; omega
    have ny : ¬ mem (y :: l') (y.f0 + y.f1) := fun hk => by
      rcases (mem_cons y l' _).1 hk with hk | hk
      · unfold inSp at hk; omega
      · have := g4.ge hk; omega
    have e1 : x.f1 = y.f1 := by
      rcases Int.lt_trichotomy x.f1 y.f1 with hlt | he | hgt
      · exact absurd ((h (x.f0 + x.f1)).2 ((mem_cons y l' _).2 (.inl ⟨by omega, by omega⟩))) nx
      · exact he
      · exact absurd ((h (y.f0 + y.f1)).1 ((mem_cons x l _).2 (.inl ⟨by omega, by omega⟩))) ny
    have e : x = y := by cases x; cases y; simp_all
    subst e
    have hl : l = l' := Tidy.ext h4 g4 (fun k => by
      constructor
      · intro hk
        have hge := h4.ge hk
        rcases (mem_cons x l' k).1 ((h k).1 ((mem_cons x l k).2 (.inr hk))) with hh | hh
        · unfold inSp at hh; omega
        · exact hh
      · intro hk
        have hge := g4.ge hk
        rcases (mem_cons x l k).1 ((h k).2 ((mem_cons x l' k).2 (.inr hk))) with hh | hh
        · unfold inSp at hh; omega
        · exact hh)
    rw [hl]
/-- A tidy list whose blocks all end ahead of a place, and more behind it. -/
def Ends (l : List S55) (p : Int) : Prop := ∀ x ∈ l, x.f0 + x.f1 ≤ p
theorem Tidy.snoc : ∀ {l : List S55} {lo : Int} {s : S55}, Tidy lo l → lo ≤ s.f0 → 1 ≤ s.f1 → s.f0 + s.f1 ≤ 64 → Ends l (s.f0 - 1) → Tidy lo (l ++ [s])
  | [], _, _, _, h0, h1, h2, _ => ⟨h0, h1, h2, trivial⟩
  | x :: l, lo, s, ⟨g1, g2, g3, g4⟩, h0, h1, h2, he => ⟨g1, g2, g3, g4.snoc (by have := he x (by simp); omega) h1 h2 (fun y hy => he y (by simp [hy]))⟩
theorem Ends.snoc {l : List S55} {p q : Int} {s : S55} (h : Ends l p) (hq : p ≤ q) (hs : s.f0 + s.f1 ≤ q) : Ends (l ++ [s]) q := by
  intro x hx
  rcases List.mem_append.1 hx with hx | hx
  · have := h x hx; omega
  · have : x = s := by simpa using hx
    subst this; exact hs
theorem Ends.mono {l : List S55} {p q : Int} (h : Ends l p) (hq : p ≤ q) : Ends l q := fun x hx => by have := h x hx; omega
/-- The state of add's loop: the span, whether it has been put, what has been put. -/
def joined (x s : S55) : S55 := ⟨min x.f0 s.f0, max (x.f0 + x.f1) (s.f0 + s.f1) - min x.f0 s.f0⟩
def addStep (t : S55 × Bool × List S55) (x : S55) : S55 × Bool × List S55 :=
  if touches x.f0 x.f1 t.1.f0 t.1.f1 then (joined x t.1, t.2.1, t.2.2)
  else if t.2.1 = false ∧ t.1.f0 < x.f0 then (t.1, true, t.2.2 ++ [t.1] ++ [x])
  else (t.1, t.2.1, t.2.2 ++ [x])
def addGo (l : List S55) (s : S55) : S55 × Bool × List S55 := l.foldl addStep (s, false, [])
def addV (l : List S55) (s : S55) : List S55 := if (addGo l s).2.1 then (addGo l s).2.2 else (addGo l s).2.2 ++ [(addGo l s).1]
/-- What holds behind some of the list: p is where it ended. -/
def AddInv (M : Int → Prop) (p : Int) (t : S55 × Bool × List S55) : Prop :=
  Tidy 0 t.2.2 ∧ Ends t.2.2 p ∧ wh t.1.f0 t.1.f1 ∧
  ((t.2.1 = false ∧ Ends t.2.2 (t.1.f0 - 1) ∧ ∀ k, (mem t.2.2 k ∨ inSp t.1 k) ↔ M k) ∨
   (t.2.1 = true ∧ t.1.f0 + t.1.f1 ≤ p ∧ ∀ k, mem t.2.2 k ↔ M k))
theorem AddInv.step {M : Int → Prop} {p : Int} {t : S55 × Bool × List S55} {x : S55} (h : AddInv M p t) (hx0 : p + 1 ≤ x.f0 ∨ (p = -1 ∧ 0 ≤ x.f0)) (hx1 : 1 ≤ x.f1) (hx2 : x.f0 + x.f1 ≤ 64) (hp : -1 ≤ p) :
    AddInv (fun k => M k ∨ inSp x k) (x.f0 + x.f1) (addStep t x) := by
  obtain ⟨s, d, o⟩ := t
  obtain ⟨h1, h2, h3, h4⟩ := h
  simp only at h1 h2 h3 h4
  have hx0' : 0 ≤ x.f0 := by omega
  have hpx : p + 1 ≤ x.f0 := by omega
  unfold addStep
  simp only
  by_cases ht : touches x.f0 x.f1 s.f0 s.f1
  · rw [if_pos ht]
    have ht' := ht
    unfold touches wh at ht'
    refine ⟨h1, h2.mono (by omega), by unfold wh joined; simp only; omega, ?_⟩
    rcases h4 with ⟨hd, he, hm⟩ | ⟨hd, he, hm⟩
    · refine .inl ⟨hd, fun y hy => ?_, fun k => ?_⟩
      · have a := he y hy
        have b := h2 y hy
        unfold joined; simp only; omega
      · have hmk := hm k
        simp only at hmk ⊢
        rw [← hmk]
        unfold joined inSp
        simp only
        constructor
        · rintro (h | h)
          · exact .inl (.inl h)
          · by_cases hk : s.f0 ≤ k ∧ k < s.f0 + s.f1
            · exact .inl (.inr hk)
            · exact .inr (by omega)
        · rintro ((h | h) | h)
          · exact .inl h
          · exact .inr (by omega)
          · exact .inr (by omega)
    · omega
  · rw [if_neg ht]
    unfold touches wh at ht
    unfold wh at h3
    by_cases hb : d = false ∧ s.f0 < x.f0
    · rw [if_pos hb]
      rcases h4 with ⟨hd, he, hm⟩ | ⟨hd, he, hm⟩
      · have hsx : s.f0 + s.f1 < x.f0 := by omega
        refine ⟨(h1.snoc h3.1 h3.2.1 h3.2.2 he).snoc hx0' hx1 hx2 (he.snoc (by omega) (by omega)), (he.snoc (q := x.f0 + x.f1) (by omega) (by omega)).snoc (Int.le_refl _) (Int.le_refl _), h3, .inr ⟨rfl, by simp only; omega, fun k => ?_⟩⟩
        have hmk := hm k
        simp only at hmk ⊢
        rw [mem_append, mem_append, mem_cons, mem_cons, ← hmk]
        have := mem_nil k
        simp only [this, or_false]
      · rw [hb.1] at hd; cases hd
    · rw [if_neg hb]
      rcases h4 with ⟨hd, he, hm⟩ | ⟨hd, he, hm⟩
      · have hsx : x.f0 + x.f1 < s.f0 := by
          have : ¬ s.f0 < x.f0 := fun z => hb ⟨hd, z⟩
          omega
        refine ⟨h1.snoc hx0' hx1 hx2 (h2.mono (by omega)), h2.snoc (by omega) (Int.le_refl _), h3, .inl ⟨hd, ?_, fun k => ?_⟩⟩
        · show Ends (o ++ [x]) (s.f0 - 1)
          exact (h2.mono (q := s.f0 - 1) (by omega)).snoc (Int.le_refl _) (by omega)
        · have hmk := hm k
          simp only at hmk ⊢
          rw [mem_append, mem_cons, ← hmk]
          have := mem_nil k
          simp only [this, or_false]
          constructor
          · rintro ((h | h) | h)
            · exact .inl (.inl h)
            · exact .inr h
            · exact .inl (.inr h)
          · rintro ((h | h) | h)
            · exact .inl (.inl h)
            · exact .inr h
            · exact .inl (.inr h)
      · refine ⟨h1.snoc hx0' hx1 hx2 (h2.mono (by omega)), h2.snoc (by omega) (Int.le_refl _), h3, .inr ⟨hd, by simp only; omega, fun k => ?_⟩⟩
        have hmk := hm k
        show mem (o ++ [x]) k ↔ M k ∨ inSp x k
        rw [← hmk, mem_append, mem_cons]
        have := mem_nil k
        simp only [this, or_false]
theorem addInv_all : ∀ (l : List S55) (M : Int → Prop) (p : Int) (t : S55 × Bool × List S55), -1 ≤ p → AddInv M p t → Tidy (p + 1) l → ∃ q, AddInv (fun k => M k ∨ mem l k) q (l.foldl addStep t)
  | [], M, p, t, _, h, _ => ⟨p, by simpa [mem_nil] using h⟩
  | x :: l, M, p, t, hp, h, ⟨g1, g2, g3, g4⟩ => by
    have h' := h.step (x := x) (.inl g1) g2 g3 hp
    obtain ⟨q, hq⟩ := addInv_all l _ _ _ (by omega) h' g4
    refine ⟨q, ?_⟩
    have e : (fun k => (M k ∨ inSp x k) ∨ mem l k) = fun k => M k ∨ mem (x :: l) k := by
      funext k; rw [mem_cons, or_assoc]
    rw [e] at hq
    exact hq
theorem addV_spec {l : List S55} {s : S55} (h : Tidy 0 l) (hs : wh s.f0 s.f1) : Tidy 0 (addV l s) ∧ ∀ k, mem (addV l s) k ↔ mem l k ∨ inSp s k := by
  have hnil : ∀ p, Ends ([] : List S55) p := fun p x hx => by cases hx
  have h0 : AddInv (inSp s) (-1) (s, false, []) := ⟨trivial, hnil _, hs, .inl ⟨rfl, hnil _, fun k => by simp [mem_nil]⟩⟩
  obtain ⟨q, hq⟩ := addInv_all l _ _ _ (Int.le_refl _) h0 h
  unfold addV addGo
  generalize l.foldl addStep (s, false, []) = t at *
  obtain ⟨g1, g2, g3, g4⟩ := hq
  rcases g4 with ⟨hd, he, hm⟩ | ⟨hd, he, hm⟩
  · rw [hd]
    simp only [Bool.false_eq_true, if_false]
    refine ⟨g1.snoc g3.1 g3.2.1 g3.2.2 he, fun k => ?_⟩
    rw [mem_append, mem_cons]
    have := hm k
    have hn := mem_nil k
    simp only [hn, or_false]
    rw [this, or_comm]
  · rw [hd]
    simp only [if_true]
    exact ⟨g1, fun k => by rw [hm k, or_comm]⟩
def cutV (l : List S55) (s : S55) : List S55 := l.flatMap (fun x => lessV x.f0 x.f1 s.f0 s.f1)
theorem cutV_spec {s : S55} (hs : wh s.f0 s.f1) : ∀ {l : List S55} {lo : Int}, 0 ≤ lo → Tidy lo l → Tidy lo (cutV l s) ∧ ∀ k, mem (cutV l s) k ↔ mem l k ∧ ¬ inSp s k
  | [], lo, _, _ => ⟨trivial, fun k => by simp [cutV, mem_nil]⟩
  | x :: l, lo, h0, ⟨h1, h2, h3, h4⟩ => by
    obtain ⟨g1, g2⟩ := cutV_spec hs (lo := x.f0 + x.f1 + 1) (by omega) h4
    have e : cutV (x :: l) s = lessV x.f0 x.f1 s.f0 s.f1 ++ cutV l s := rfl
    rw [e]
    have hw : wh x.f0 x.f1 := by unfold wh; omega
    unfold wh at hs
    have hn := fun k => mem_nil k
    unfold lessV
    rw [if_pos hw]
    by_cases c : laps x.f0 x.f1 s.f0 s.f1
    · rw [if_pos c]
      unfold laps wh at c
      by_cases c1 : x.f0 < s.f0
      · rw [if_pos c1]
        by_cases c2 : s.f0 + s.f1 < x.f0 + x.f1
        · rw [if_pos c2]
          refine ⟨⟨h1, by simp only; omega, by simp only; omega, by simp only; omega, by simp only; omega, by simp only; omega, g1.lo (by simp only; omega)⟩, fun k => ?_⟩
          simp only [List.cons_append, List.nil_append]
          rw [mem_cons, mem_cons, g2 k, mem_cons]
          unfold inSp; simp only
          constructor
          · rintro (h | h | h)
            · exact ⟨.inl (by omega), by omega⟩
            · exact ⟨.inl (by omega), by omega⟩
            · exact ⟨.inr h.1, h.2⟩
          · rintro ⟨h | h, h'⟩
            · by_cases hk : k < s.f0
              · exact .inl (by omega)
              · exact .inr (.inl (by omega))
            · exact .inr (.inr ⟨h, h'⟩)
        · rw [if_neg c2]
          refine ⟨⟨h1, by simp only; omega, by simp only; omega, g1.lo (by simp only; omega)⟩, fun k => ?_⟩
          simp only [List.cons_append, List.nil_append]
          rw [mem_cons, g2 k, mem_cons]
          unfold inSp; simp only
          constructor
          · rintro (h | h)
            · exact ⟨.inl (by omega), by omega⟩
            · exact ⟨.inr h.1, h.2⟩
          · rintro ⟨h | h, h'⟩
            · exact .inl (by omega)
            · exact .inr ⟨h, h'⟩
      · rw [if_neg c1]
        by_cases c2 : s.f0 + s.f1 < x.f0 + x.f1
        · rw [if_pos c2]
          refine ⟨⟨by simp only; omega, by simp only; omega, by simp only; omega, g1.lo (by simp only; omega)⟩, fun k => ?_⟩
          simp only [List.cons_append, List.nil_append]
          rw [mem_cons, g2 k, mem_cons]
          unfold inSp; simp only
          constructor
          · rintro (h | h)
            · exact ⟨.inl (by omega), by omega⟩
            · exact ⟨.inr h.1, h.2⟩
          · rintro ⟨h | h, h'⟩
            · exact .inl (by omega)
            · exact .inr ⟨h, h'⟩
        · rw [if_neg c2]
          refine ⟨g1.lo (by omega), fun k => ?_⟩
          simp only [List.nil_append]
          rw [g2 k, mem_cons]
          unfold inSp
          constructor
          · rintro ⟨h, h'⟩
            exact ⟨.inr h, h'⟩
          · rintro ⟨h | h, h'⟩
            · omega
            · exact ⟨h, h'⟩
    · rw [if_neg c]
      unfold laps wh at c
      refine ⟨⟨h1, h2, h3, g1⟩, fun k => ?_⟩
      simp only [List.cons_append, List.nil_append]
      rw [mem_cons, g2 k, mem_cons]
      unfold inSp; simp only
      constructor
      · rintro (h | h)
        · exact ⟨.inl h, by omega⟩
        · exact ⟨.inr h.1, h.2⟩
      · rintro ⟨h | h, h'⟩
        · exact .inl h
        · exact .inr ⟨h, h'⟩
/-- How many blocks. -/
def sumN (l : List S55) : Int := (l.map (·.f1)).sum
theorem sumN_cons (x : S55) (l : List S55) : sumN (x :: l) = x.f1 + sumN l := by unfold sumN; simp
theorem sumN_append (a b : List S55) : sumN (a ++ b) = sumN a + sumN b := by unfold sumN; simp
theorem Tidy.sum : ∀ {l : List S55} {lo : Int}, lo ≤ 65 → Tidy lo l → 0 ≤ sumN l ∧ sumN l ≤ 65 - lo
  | [], lo, h, _ => by simp [sumN]; omega
  | x :: l, lo, h, ⟨h1, h2, h3, h4⟩ => by have := h4.sum (by omega); rw [sumN_cons]; omega
theorem Tidy.length : ∀ {l : List S55} {lo : Int}, lo ≤ 65 → Tidy lo l → (l.length : Int) ≤ 65 - lo
  | [], lo, h, _ => by simp; omega
  | x :: l, lo, h, ⟨h1, h2, h3, h4⟩ => by have := h4.length (by omega); rw [List.length_cons]; omega
theorem Tidy.whole : ∀ {l : List S55} {lo : Int}, 0 ≤ lo → Tidy lo l → ∀ x ∈ l, wh x.f0 x.f1
  | [], _, _, _, x, hx => by simp at hx
  | y :: l, lo, h, ⟨h1, h2, h3, h4⟩, x, hx => by
    rcases List.mem_cons.1 hx with rfl | hx
    · unfold wh; omega
    · exact h4.whole (by omega) x hx
theorem Tidy.tail {x : S55} {l : List S55} {lo : Int} (h : Tidy lo (x :: l)) : Tidy (x.f0 + x.f1 + 1) l := h.2.2.2
theorem Tidy.take : ∀ {l : List S55} {lo : Int} (n : Nat), Tidy lo l → Tidy lo (l.take n)
  | [], _, _, _ => by simp [Tidy]
  | x :: l, _, 0, _ => trivial
  | x :: l, _, n + 1, ⟨h1, h2, h3, h4⟩ => ⟨h1, h2, h3, h4.take n⟩
/-- A set of blocks, as a list of bools, as spans. -/
def spansFrom (s : List Bool) : Nat → Nat → List S55
  | _, 0 => []
  | k, n + 1 => if s.getD k false then
      match spansFrom s (k + 1) n with
      | y :: r => if y.f0 = ((k + 1 : Nat) : Int) then ⟨(k : Int), y.f1 + 1⟩ :: r else ⟨(k : Int), 1⟩ :: y :: r
      | [] => [⟨(k : Int), 1⟩]
    else spansFrom s (k + 1) n
theorem spansFrom_spec (s : List Bool) : ∀ (n k : Nat), k + n ≤ 64 → Tidy (k : Int) (spansFrom s k n) ∧ ∀ j : Int, mem (spansFrom s k n) j ↔ (k : Int) ≤ j ∧ j < k + n ∧ s.getD j.toNat false = true
  | 0, k, _ => ⟨trivial, fun j => by simp only [spansFrom, mem_nil, false_iff]; omega⟩
  | n + 1, k, h => by
    obtain ⟨g1, g2⟩ := spansFrom_spec s n (k + 1) (by omega)
    unfold spansFrom
    by_cases c : s.getD k false = true
    · rw [if_pos c]
      cases hl : spansFrom s (k + 1) n with
      | nil =>
        rw [hl] at g2
        refine ⟨⟨Int.le_refl _, by simp only; omega, by simp only; omega, trivial⟩, fun j => ?_⟩
        have := g2 j
        rw [mem_cons]
        have hn := mem_nil j
        simp only [hn, or_false, false_iff] at this ⊢
        unfold inSp
        simp only
        constructor
        · intro hj
          obtain rfl : j = k := by omega
          exact ⟨by omega, by omega, by simpa using c⟩
        · rintro ⟨a, b, d⟩
          by_cases hj : j = k
          · omega
          · exact absurd ⟨by omega, by omega, d⟩ this
      | cons y r =>
        rw [hl] at g1 g2
        obtain ⟨t1, t2, t3, t4⟩ := g1
        have key : ∀ j : Int, (mem (y :: r) j ∨ j = k) ↔ (k : Int) ≤ j ∧ j < k + (n + 1 : Nat) ∧ s.getD j.toNat false = true := by
          intro j
          rw [g2 j]
          constructor
          · rintro (⟨a, b, d⟩ | rfl)
            · exact ⟨by omega, by omega, d⟩
            · exact ⟨by omega, by omega, by simpa using c⟩
          · rintro ⟨a, b, d⟩
            by_cases hj : j = k
            · exact .inr hj
            · exact .inl ⟨by omega, by omega, d⟩
        simp only
        by_cases e : y.f0 = ((k + 1 : Nat) : Int)
        · rw [if_pos e]
          refine ⟨⟨Int.le_refl _, by simp only; omega, by simp only; omega, t4.lo (by simp only; omega)⟩, fun j => ?_⟩
          rw [← key j, mem_cons, mem_cons]
          unfold inSp
          simp only
          constructor
          · rintro (a | a)
            · by_cases hj : j = k
              · exact .inr hj
              · exact .inl (.inl (by omega))
            · exact .inl (.inr a)
          · rintro ((a | a) | a)
            · exact .inl (by omega)
            · exact .inr a
            · exact .inl (by omega)
        · rw [if_neg e]
          refine ⟨⟨Int.le_refl _, by simp only; omega, by simp only; omega, ?_, t2, t3, t4⟩, fun j => ?_⟩
          · simp only; omega
          · rw [← key j, mem_cons]
            unfold inSp
            simp only
            constructor
            · rintro (a | a)
              · exact .inr (by omega)
              · exact .inl a
            · rintro (a | a)
              · exact .inr a
              · exact .inl (by omega)
    · rw [if_neg c]
      refine ⟨g1.lo (by omega), fun j => ?_⟩
      rw [g2 j]
      constructor
      · rintro ⟨a, b, d⟩
        exact ⟨by omega, by omega, d⟩
      · rintro ⟨a, b, d⟩
        by_cases hj : j = k
        · subst hj; simp at d; simp [d] at c
        · exact ⟨by omega, by omega, d⟩
def spansOf (s : List Bool) : List S55 := spansFrom s 0 64
theorem spansOf_tidy (s : List Bool) : Tidy 0 (spansOf s) := (spansFrom_spec s 64 0 (by decide)).1
theorem spansOf_mem (s : List Bool) (j : Int) : mem (spansOf s) j ↔ 0 ≤ j ∧ j < 64 ∧ s.getD j.toNat false = true := by
  have := (spansFrom_spec s 64 0 (by decide)).2 j
  rw [spansOf, this]; simp
/-- A tidy list is the set that has its blocks. -/
theorem tidy_eq {l : List S55} {s : List Bool} (h : Tidy 0 l) (hm : ∀ k : Nat, k < 64 → (mem l k ↔ s.getD k false = true)) : l = spansOf s :=
  h.ext (spansOf_tidy s) (fun j => by
    rw [spansOf_mem]
    constructor
    · intro hj
      have := h.ge hj
      obtain ⟨q, rfl⟩ := Int.eq_ofNat_of_zero_le this.1
      exact ⟨by omega, by omega, by rw [Int.toNat_natCast]; exact (hm q (by omega)).1 hj⟩
    · rintro ⟨a, b, c⟩
      obtain ⟨q, rfl⟩ := Int.eq_ofNat_of_zero_le a
      exact (hm q (by omega)).2 (by rwa [Int.toNat_natCast] at c))
end Go.Proofs.YtknphhcppllpoaaDoor.Hand
