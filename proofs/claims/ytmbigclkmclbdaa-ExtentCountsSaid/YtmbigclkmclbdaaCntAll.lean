/- Lists of spans that are tidy, as sets of blocks. No program. -/
import Derived.Test.YtmbigclkmclbdaaSpanB
import Derived.Test.YtmbigclkmclbdaaSpan
import Derived.Lib.SliceRun
import Derived.Test.YtmbigclkmclbdaaExtAll
import Derived.Test.YtmbigclkmclbdaaAx0
import Derived.Test.YtmbigclkmclbdaaAx10
import Derived.Test.YtmbigclkmclbdaaAx12
import Derived.Test.YtmbigclkmclbdaaAx18
import Derived.Test.YtmbigclkmclbdaaAx19
import Derived.Test.YtmbigclkmclbdaaAx20
import Derived.Test.YtmbigclkmclbdaaAx4
namespace Go.Proofs.Ytmbigclkmclbdaa.Hand
open Go.RowKit Go.Proofs.YtmbigclkmclbdaaW.PrintWords Go.Proofs.Ytmbigclkmclbdaa.A
set_option linter.unusedVariables false
set_option linter.unusedSimpArgs false
instance decS : DecidableEq S34 := fun a b => decidable_of_iff (a.f0 = b.f0 ∧ a.f1 = b.f1) ⟨fun h => by cases a; cases b; simp_all, fun h => by rw [h]; exact ⟨rfl, rfl⟩⟩
/-- Blocks that a list of spans has. -/
def inSp (x : S34) (k : Int) : Prop := x.f0 ≤ k ∧ k < x.f0 + x.f1
def mem (l : List S34) (k : Int) : Prop := ∃ x ∈ l, inSp x k
/-- As few spans as may be, rising, from a place on. -/
def Tidy : Int → List S34 → Prop
  | _, [] => True
  | lo, x :: l => lo ≤ x.f0 ∧ 1 ≤ x.f1 ∧ x.f0 + x.f1 ≤ 64 ∧ Tidy (x.f0 + x.f1 + 1) l
theorem mem_nil (k : Int) : ¬ mem [] k := fun ⟨_, h, _⟩ => by simp at h
theorem mem_cons (x : S34) (l : List S34) (k : Int) : mem (x :: l) k ↔ inSp x k ∨ mem l k := by
  unfold mem; simp
theorem mem_append (a b : List S34) (k : Int) : mem (a ++ b) k ↔ mem a k ∨ mem b k := by
  unfold mem
  constructor
  · rintro ⟨x, h, hk⟩
    rcases List.mem_append.1 h with h | h
    · exact .inl ⟨x, h, hk⟩
    · exact .inr ⟨x, h, hk⟩
  · rintro (⟨x, h, hk⟩ | ⟨x, h, hk⟩)
    · exact ⟨x, List.mem_append.2 (.inl h), hk⟩
    · exact ⟨x, List.mem_append.2 (.inr h), hk⟩
theorem Tidy.lo : ∀ {l : List S34} {lo lo' : Int}, Tidy lo l → lo' ≤ lo → Tidy lo' l
  | [], _, _, _, _ => trivial
  | _ :: _, _, _, ⟨h1, h2, h3, h4⟩, h => ⟨by omega, h2, h3, h4⟩
theorem Tidy.ge : ∀ {l : List S34} {lo k : Int}, Tidy lo l → mem l k → lo ≤ k ∧ k < 64
  | [], _, k, _, h => absurd h (mem_nil k)
  | x :: l, lo, k, ⟨h1, h2, h3, h4⟩, h => by
    rcases (mem_cons x l k).1 h with h | h
    · unfold inSp at h; omega
    · have := h4.ge h; omega
theorem Tidy.ext : ∀ {l l' : List S34} {lo lo' : Int}, Tidy lo l → Tidy lo' l' → (∀ k, mem l k ↔ mem l' k) → l = l'
  | [], [], _, _, _, _, _ => rfl
  | [], y :: l', _, _, _, ⟨_, h2, _, _⟩, h => absurd ((h y.f0).2 ((mem_cons y l' _).2 (.inl ⟨by omega, by omega⟩))) (mem_nil _)
  | x :: l, [], _, _, ⟨_, h2, _, _⟩, _, h => absurd ((h x.f0).1 ((mem_cons x l _).2 (.inl ⟨by omega, by omega⟩))) (mem_nil _)
  | x :: l, y :: l', lo, lo', ⟨_, h2, h3, h4⟩, ⟨_, g2, g3, g4⟩, h => by
    have lox : ∀ k, mem (x :: l) k → x.f0 ≤ k := fun k hk => by
      rcases (mem_cons x l k).1 hk with hk | hk
      · exact hk.1
      · have := h4.ge hk; omega
    have loy : ∀ k, mem (y :: l') k → y.f0 ≤ k := fun k hk => by
      rcases (mem_cons y l' k).1 hk with hk | hk
      · exact hk.1
      · have := g4.ge hk; omega
    have e0 : x.f0 = y.f0 := by
      have a := loy _ ((h x.f0).1 ((mem_cons x l _).2 (.inl ⟨by omega, by omega⟩)))
      have b := lox _ ((h y.f0).2 ((mem_cons y l' _).2 (.inl ⟨by omega, by omega⟩)))
      omega
    have nx : ¬ mem (x :: l) (x.f0 + x.f1) := fun hk => by
      rcases (mem_cons x l _).1 hk with hk | hk
      · unfold inSp at hk; omega
      · have := h4.ge hk; omega
    have ny : ¬ mem (y :: l') (y.f0 + y.f1) := fun hk => by
      rcases (mem_cons y l' _).1 hk with hk | hk
      · unfold inSp at hk; omega
      · have := g4.ge hk; omega
    have e1 : x.f1 = y.f1 := by
      rcases Int.lt_trichotomy x.f1 y.f1 with hlt | he | hgt
      · exact absurd ((h (x.f0 + x.f1)).2 ((mem_cons y l' _).2 (.inl ⟨by omega, by omega⟩))) nx
      · exact he
      · exact absurd ((h (y.f0 + y.f1)).1 ((mem_cons x l _).2 (.inl ⟨by omega, by omega⟩))) ny
    have e : x = y := by cases x; cases y; simp_all
    subst e
    have hl : l = l' := Tidy.ext h4 g4 (fun k => by
      constructor
      · intro hk
        have hge := h4.ge hk
        rcases (mem_cons x l' k).1 ((h k).1 ((mem_cons x l k).2 (.inr hk))) with hh | hh
        · unfold inSp at hh; omega
        · exact hh
      · intro hk
        have hge := g4.ge hk
        rcases (mem_cons x l k).1 ((h k).2 ((mem_cons x l' k).2 (.inr hk))) with hh | hh
        · unfold inSp at hh; omega
        · exact hh)
    rw [hl]
/-- A tidy list whose blocks all end ahead of a place, and more behind it. -/
def Ends (l : List S34) (p : Int) : Prop := ∀ x ∈ l, x.f0 + x.f1 ≤ p
theorem Tidy.snoc : ∀ {l : List S34} {lo : Int} {s : S34}, Tidy lo l → lo ≤ s.f0 → 1 ≤ s.f1 → s.f0 + s.f1 ≤ 64 → Ends l (s.f0 - 1) → Tidy lo (l ++ [s])
  | [], _, _, _, h0, h1, h2, _ => ⟨h0, h1, h2, trivial⟩
  | x :: l, lo, s, ⟨g1, g2, g3, g4⟩, h0, h1, h2, he => ⟨g1, g2, g3, g4.snoc (by have := he x (by simp); omega) h1 h2 (fun y hy => he y (by simp [hy]))⟩
theorem Ends.snoc {l : List S34} {p q : Int} {s : S34} (h : Ends l p) (hq : p ≤ q) (hs : s.f0 + s.f1 ≤ q) : Ends (l ++ [s]) q := by
  intro x hx
  rcases List.mem_append.1 hx with hx | hx
  · have := h x hx; omega
  · have : x = s := by simpa using hx
    subst this; exact hs
theorem Ends.mono {l : List S34} {p q : Int} (h : Ends l p) (hq : p ≤ q) : Ends l q := fun x hx => by have := h x hx; omega
/-- The state of add's loop: the span, whether it has been put, what has been put. -/
def joined (x s : S34) : S34 := ⟨min x.f0 s.f0, max (x.f0 + x.f1) (s.f0 + s.f1) - min x.f0 s.f0⟩
def addStep (t : S34 × Bool × List S34) (x : S34) : S34 × Bool × List S34 :=
  if touches x.f0 x.f1 t.1.f0 t.1.f1 then (joined x t.1, t.2.1, t.2.2)
  else if t.2.1 = false ∧ t.1.f0 < x.f0 then (t.1, true, t.2.2 ++ [t.1] ++ [x])
  else (t.1, t.2.1, t.2.2 ++ [x])
def addGo (l : List S34) (s : S34) : S34 × Bool × List S34 := l.foldl addStep (s, false, [])
def addV (l : List S34) (s : S34) : List S34 := if (addGo l s).2.1 then (addGo l s).2.2 else (addGo l s).2.2 ++ [(addGo l s).1]
/-- What holds behind some of the list: p is where it ended. -/
def AddInv (M : Int → Prop) (p : Int) (t : S34 × Bool × List S34) : Prop :=
  Tidy 0 t.2.2 ∧ Ends t.2.2 p ∧ wh t.1.f0 t.1.f1 ∧
  ((t.2.1 = false ∧ Ends t.2.2 (t.1.f0 - 1) ∧ ∀ k, (mem t.2.2 k ∨ inSp t.1 k) ↔ M k) ∨
   (t.2.1 = true ∧ t.1.f0 + t.1.f1 ≤ p ∧ ∀ k, mem t.2.2 k ↔ M k))
theorem AddInv.step {M : Int → Prop} {p : Int} {t : S34 × Bool × List S34} {x : S34} (h : AddInv M p t) (hx0 : p + 1 ≤ x.f0 ∨ (p = -1 ∧ 0 ≤ x.f0)) (hx1 : 1 ≤ x.f1) (hx2 : x.f0 + x.f1 ≤ 64) (hp : -1 ≤ p) :
    AddInv (fun k => M k ∨ inSp x k) (x.f0 + x.f1) (addStep t x) := by
  obtain ⟨s, d, o⟩ := t
  obtain ⟨h1, h2, h3, h4⟩ := h
  simp only at h1 h2 h3 h4
  have hx0' : 0 ≤ x.f0 := by omega
  have hpx : p + 1 ≤ x.f0 := by omega
  unfold addStep
  simp only
  by_cases ht : touches x.f0 x.f1 s.f0 s.f1
  · rw [if_pos ht]
    have ht' := ht
    unfold touches wh at ht'
    refine ⟨h1, h2.mono (by omega), by unfold wh joined; simp only; omega, ?_⟩
    rcases h4 with ⟨hd, he, hm⟩ | ⟨hd, he, hm⟩
    · refine .inl ⟨hd, fun y hy => ?_, fun k => ?_⟩
      · have a := he y hy
        have b := h2 y hy
        unfold joined; simp only; omega
      · have hmk := hm k
        simp only at hmk ⊢
        rw [← hmk]
        unfold joined inSp
        simp only
        constructor
        · rintro (h | h)
          · exact .inl (.inl h)
          · by_cases hk : s.f0 ≤ k ∧ k < s.f0 + s.f1
            · exact .inl (.inr hk)
            · exact .inr (by omega)
        · rintro ((h | h) | h)
          · exact .inl h
          · exact .inr (by omega)
          · exact .inr (by omega)
    · omega
  · rw [if_neg ht]
    unfold touches wh at ht
    unfold wh at h3
    by_cases hb : d = false ∧ s.f0 < x.f0
    · rw [if_pos hb]
      rcases h4 with ⟨hd, he, hm⟩ | ⟨hd, he, hm⟩
      · have hsx : s.f0 + s.f1 < x.f0 := by omega
        refine ⟨(h1.snoc h3.1 h3.2.1 h3.2.2 he).snoc hx0' hx1 hx2 (he.snoc (by omega) (by omega)), (he.snoc (q := x.f0 + x.f1) (by omega) (by omega)).snoc (Int.le_refl _) (Int.le_refl _), h3, .inr ⟨rfl, by simp only; omega, fun k => ?_⟩⟩
        have hmk := hm k
        simp only at hmk ⊢
        rw [mem_append, mem_append, mem_cons, mem_cons, ← hmk]
        have := mem_nil k
        simp only [this, or_false]
      · rw [hb.1] at hd; cases hd
    · rw [if_neg hb]
      rcases h4 with ⟨hd, he, hm⟩ | ⟨hd, he, hm⟩
      · have hsx : x.f0 + x.f1 < s.f0 := by
          have : ¬ s.f0 < x.f0 := fun z => hb ⟨hd, z⟩
          omega
        refine ⟨h1.snoc hx0' hx1 hx2 (h2.mono (by omega)), h2.snoc (by omega) (Int.le_refl _), h3, .inl ⟨hd, ?_, fun k => ?_⟩⟩
        · show Ends (o ++ [x]) (s.f0 - 1)
          exact (h2.mono (q := s.f0 - 1) (by omega)).snoc (Int.le_refl _) (by omega)
        · have hmk := hm k
          simp only at hmk ⊢
          rw [mem_append, mem_cons, ← hmk]
          have := mem_nil k
          simp only [this, or_false]
          constructor
          · rintro ((h | h) | h)
            · exact .inl (.inl h)
            · exact .inr h
            · exact .inl (.inr h)
          · rintro ((h | h) | h)
            · exact .inl (.inl h)
            · exact .inr h
            · exact .inl (.inr h)
      · refine ⟨h1.snoc hx0' hx1 hx2 (h2.mono (by omega)), h2.snoc (by omega) (Int.le_refl _), h3, .inr ⟨hd, by simp only; omega, fun k => ?_⟩⟩
        have hmk := hm k
        show mem (o ++ [x]) k ↔ M k ∨ inSp x k
        rw [← hmk, mem_append, mem_cons]
        have := mem_nil k
        simp only [this, or_false]
theorem addInv_all : ∀ (l : List S34) (M : Int → Prop) (p : Int) (t : S34 × Bool × List S34), -1 ≤ p → AddInv M p t → Tidy (p + 1) l → ∃ q, AddInv (fun k => M k ∨ mem l k) q (l.foldl addStep t)
  | [], M, p, t, _, h, _ => ⟨p, by simpa [mem_nil] using h⟩
  | x :: l, M, p, t, hp, h, ⟨g1, g2, g3, g4⟩ => by
    have h' := h.step (x := x) (.inl g1) g2 g3 hp
    obtain ⟨q, hq⟩ := addInv_all l _ _ _ (by omega) h' g4
    refine ⟨q, ?_⟩
    have e : (fun k => (M k ∨ inSp x k) ∨ mem l k) = fun k => M k ∨ mem (x :: l) k := by
      funext k; rw [mem_cons, or_assoc]
    rw [e] at hq
    exact hq
theorem addV_spec {l : List S34} {s : S34} (h : Tidy 0 l) (hs : wh s.f0 s.f1) : Tidy 0 (addV l s) ∧ ∀ k, mem (addV l s) k ↔ mem l k ∨ inSp s k := by
  have hnil : ∀ p, Ends ([] : List S34) p := fun p x hx => by cases hx
  have h0 : AddInv (inSp s) (-1) (s, false, []) := ⟨trivial, hnil _, hs, .inl ⟨rfl, hnil _, fun k => by simp [mem_nil]⟩⟩
  obtain ⟨q, hq⟩ := addInv_all l _ _ _ (Int.le_refl _) h0 h
  unfold addV addGo
  generalize l.foldl addStep (s, false, []) = t at *
  obtain ⟨g1, g2, g3, g4⟩ := hq
  rcases g4 with ⟨hd, he, hm⟩ | ⟨hd, he, hm⟩
  · rw [hd]
    simp only [Bool.false_eq_true, if_false]
    refine ⟨g1.snoc g3.1 g3.2.1 g3.2.2 he, fun k => ?_⟩
    rw [mem_append, mem_cons]
    have := hm k
    have hn := mem_nil k
    simp only [hn, or_false]
    rw [this, or_comm]
  · rw [hd]
    simp only [if_true]
    exact ⟨g1, fun k => by rw [hm k, or_comm]⟩
def cutV (l : List S34) (s : S34) : List S34 := l.flatMap (fun x => lessV x.f0 x.f1 s.f0 s.f1)
theorem cutV_spec {s : S34} (hs : wh s.f0 s.f1) : ∀ {l : List S34} {lo : Int}, 0 ≤ lo → Tidy lo l → Tidy lo (cutV l s) ∧ ∀ k, mem (cutV l s) k ↔ mem l k ∧ ¬ inSp s k
  | [], lo, _, _ => ⟨trivial, fun k => by simp [cutV, mem_nil]⟩
  | x :: l, lo, h0, ⟨h1, h2, h3, h4⟩ => by
    obtain ⟨g1, g2⟩ := cutV_spec hs (lo := x.f0 + x.f1 + 1) (by omega) h4
    have e : cutV (x :: l) s = lessV x.f0 x.f1 s.f0 s.f1 ++ cutV l s := rfl
    rw [e]
    have hw : wh x.f0 x.f1 := by unfold wh; omega
    unfold wh at hs
    have hn := fun k => mem_nil k
    unfold lessV
    rw [if_pos hw]
    by_cases c : laps x.f0 x.f1 s.f0 s.f1
    · rw [if_pos c]
      unfold laps wh at c
      by_cases c1 : x.f0 < s.f0
      · rw [if_pos c1]
        by_cases c2 : s.f0 + s.f1 < x.f0 + x.f1
        · rw [if_pos c2]
          refine ⟨⟨h1, by simp only; omega, by simp only; omega, by simp only; omega, by simp only; omega, by simp only; omega, g1.lo (by simp only; omega)⟩, fun k => ?_⟩
          simp only [List.cons_append, List.nil_append]
          rw [mem_cons, mem_cons, g2 k, mem_cons]
          unfold inSp; simp only
          constructor
          · rintro (h | h | h)
            · exact ⟨.inl (by omega), by omega⟩
            · exact ⟨.inl (by omega), by omega⟩
            · exact ⟨.inr h.1, h.2⟩
          · rintro ⟨h | h, h'⟩
            · by_cases hk : k < s.f0
              · exact .inl (by omega)
              · exact .inr (.inl (by omega))
            · exact .inr (.inr ⟨h, h'⟩)
        · rw [if_neg c2]
          refine ⟨⟨h1, by simp only; omega, by simp only; omega, g1.lo (by simp only; omega)⟩, fun k => ?_⟩
          simp only [List.cons_append, List.nil_append]
          rw [mem_cons, g2 k, mem_cons]
          unfold inSp; simp only
          constructor
          · rintro (h | h)
            · exact ⟨.inl (by omega), by omega⟩
            · exact ⟨.inr h.1, h.2⟩
          · rintro ⟨h | h, h'⟩
            · exact .inl (by omega)
            · exact .inr ⟨h, h'⟩
      · rw [if_neg c1]
        by_cases c2 : s.f0 + s.f1 < x.f0 + x.f1
        · rw [if_pos c2]
          refine ⟨⟨by simp only; omega, by simp only; omega, by simp only; omega, g1.lo (by simp only; omega)⟩, fun k => ?_⟩
          simp only [List.cons_append, List.nil_append]
          rw [mem_cons, g2 k, mem_cons]
          unfold inSp; simp only
          constructor
          · rintro (h | h)
            · exact ⟨.inl (by omega), by omega⟩
            · exact ⟨.inr h.1, h.2⟩
          · rintro ⟨h | h, h'⟩
            · exact .inl (by omega)
            · exact .inr ⟨h, h'⟩
        · rw [if_neg c2]
          refine ⟨g1.lo (by omega), fun k => ?_⟩
          simp only [List.nil_append]
          rw [g2 k, mem_cons]
          unfold inSp
          constructor
          · rintro ⟨h, h'⟩
            exact ⟨.inr h, h'⟩
          · rintro ⟨h | h, h'⟩
            · omega
            · exact ⟨h, h'⟩
    · rw [if_neg c]
      unfold laps wh at c
      refine ⟨⟨h1, h2, h3, g1⟩, fun k => ?_⟩
      simp only [List.cons_append, List.nil_append]
      rw [mem_cons, g2 k, mem_cons]
      unfold inSp; simp only
      constructor
      · rintro (h | h)
        · exact ⟨.inl h, by omega⟩
        · exact ⟨.inr h.1, h.2⟩
      · rintro ⟨h | h, h'⟩
        · exact .inl h
        · exact .inr ⟨h, h'⟩
/-- How many blocks. -/
def sumN (l : List S34) : Int := (l.map (·.f1)).sum
theorem sumN_cons (x : S34) (l : List S34) : sumN (x :: l) = x.f1 + sumN l := by unfold sumN; simp
theorem sumN_append (a b : List S34) : sumN (a ++ b) = sumN a + sumN b := by unfold sumN; simp
theorem Tidy.sum : ∀ {l : List S34} {lo : Int}, lo ≤ 65 → Tidy lo l → 0 ≤ sumN l ∧ sumN l ≤ 65 - lo
  | [], lo, h, _ => by simp [sumN]; omega
  | x :: l, lo, h, ⟨h1, h2, h3, h4⟩ => by have := h4.sum (by omega); rw [sumN_cons]; omega
theorem Tidy.length : ∀ {l : List S34} {lo : Int}, lo ≤ 65 → Tidy lo l → (l.length : Int) ≤ 65 - lo
  | [], lo, h, _ => by simp; omega
  | x :: l, lo, h, ⟨h1, h2, h3, h4⟩ => by have := h4.length (by omega); rw [List.length_cons]; omega
theorem Tidy.whole : ∀ {l : List S34} {lo : Int}, 0 ≤ lo → Tidy lo l → ∀ x ∈ l, wh x.f0 x.f1
  | [], _, _, _, x, hx => by simp at hx
  | y :: l, lo, h, ⟨h1, h2, h3, h4⟩, x, hx => by
    rcases List.mem_cons.1 hx with rfl | hx
    · unfold wh; omega
    · exact h4.whole (by omega) x hx
theorem Tidy.tail {x : S34} {l : List S34} {lo : Int} (h : Tidy lo (x :: l)) : Tidy (x.f0 + x.f1 + 1) l := h.2.2.2
theorem Tidy.take : ∀ {l : List S34} {lo : Int} (n : Nat), Tidy lo l → Tidy lo (l.take n)
  | [], _, _, _ => by simp [Tidy]
  | x :: l, _, 0, _ => trivial
  | x :: l, _, n + 1, ⟨h1, h2, h3, h4⟩ => ⟨h1, h2, h3, h4.take n⟩
/-- A set of blocks, as a list of bools, as spans. -/
def spansFrom (s : List Bool) : Nat → Nat → List S34
  | _, 0 => []
  | k, n + 1 => if s.getD k false then
      match spansFrom s (k + 1) n with
      | y :: r => if y.f0 = ((k + 1 : Nat) : Int) then ⟨(k : Int), y.f1 + 1⟩ :: r else ⟨(k : Int), 1⟩ :: y :: r
      | [] => [⟨(k : Int), 1⟩]
    else spansFrom s (k + 1) n
theorem spansFrom_spec (s : List Bool) : ∀ (n k : Nat), k + n ≤ 64 → Tidy (k : Int) (spansFrom s k n) ∧ ∀ j : Int, mem (spansFrom s k n) j ↔ (k : Int) ≤ j ∧ j < k + n ∧ s.getD j.toNat false = true
  | 0, k, _ => ⟨trivial, fun j => by simp only [spansFrom, mem_nil, false_iff]; omega⟩
  | n + 1, k, h => by
    obtain ⟨g1, g2⟩ := spansFrom_spec s n (k + 1) (by omega)
    unfold spansFrom
    by_cases c : s.getD k false = true
    · rw [if_pos c]
      cases hl : spansFrom s (k + 1) n with
      | nil =>
        rw [hl] at g2
        refine ⟨⟨Int.le_refl _, by simp only; omega, by simp only; omega, trivial⟩, fun j => ?_⟩
        have := g2 j
        rw [mem_cons]
        have hn := mem_nil j
        simp only [hn, or_false, false_iff] at this ⊢
        unfold inSp
        simp only
        constructor
        · intro hj
          obtain rfl : j = k := by omega
          exact ⟨by omega, by omega, by simpa using c⟩
        · rintro ⟨a, b, d⟩
          by_cases hj : j = k
          · omega
          · exact absurd ⟨by omega, by omega, d⟩ this
      | cons y r =>
        rw [hl] at g1 g2
        obtain ⟨t1, t2, t3, t4⟩ := g1
        have key : ∀ j : Int, (mem (y :: r) j ∨ j = k) ↔ (k : Int) ≤ j ∧ j < k + (n + 1 : Nat) ∧ s.getD j.toNat false = true := by
          intro j
          rw [g2 j]
          constructor
          · rintro (⟨a, b, d⟩ | rfl)
            · exact ⟨by omega, by omega, d⟩
            · exact ⟨by omega, by omega, by simpa using c⟩
          · rintro ⟨a, b, d⟩
            by_cases hj : j = k
            · exact .inr hj
            · exact .inl ⟨by omega, by omega, d⟩
        simp only
        by_cases e : y.f0 = ((k + 1 : Nat) : Int)
        · rw [if_pos e]
          refine ⟨⟨Int.le_refl _, by simp only; omega, by simp only; omega, t4.lo (by simp only; omega)⟩, fun j => ?_⟩
          rw [← key j, mem_cons, mem_cons]
          unfold inSp
          simp only
          constructor
          · rintro (a | a)
            · by_cases hj : j = k
              · exact .inr hj
              · exact .inl (.inl (by omega))
            · exact .inl (.inr a)
          · rintro ((a | a) | a)
            · exact .inl (by omega)
            · exact .inr a
            · exact .inl (by omega)
        · rw [if_neg e]
          refine ⟨⟨Int.le_refl _, by simp only; omega, by simp only; omega, ?_, t2, t3, t4⟩, fun j => ?_⟩
          · simp only; omega
          · rw [← key j, mem_cons]
            unfold inSp
            simp only
            constructor
            · rintro (a | a)
              · exact .inr (by omega)
              · exact .inl a
            · rintro (a | a)
              · exact .inr a
              · exact .inl (by omega)
    · rw [if_neg c]
      refine ⟨g1.lo (by omega), fun j => ?_⟩
      rw [g2 j]
      constructor
      · rintro ⟨a, b, d⟩
        exact ⟨by omega, by omega, d⟩
      · rintro ⟨a, b, d⟩
        by_cases hj : j = k
        · subst hj; simp at d; simp [d] at c
        · exact ⟨by omega, by omega, d⟩
def spansOf (s : List Bool) : List S34 := spansFrom s 0 64
theorem spansOf_tidy (s : List Bool) : Tidy 0 (spansOf s) := (spansFrom_spec s 64 0 (by decide)).1
theorem spansOf_mem (s : List Bool) (j : Int) : mem (spansOf s) j ↔ 0 ≤ j ∧ j < 64 ∧ s.getD j.toNat false = true := by
  have := (spansFrom_spec s 64 0 (by decide)).2 j
  rw [spansOf, this]; simp
/-- A tidy list is the set that has its blocks. -/
theorem tidy_eq {l : List S34} {s : List Bool} (h : Tidy 0 l) (hm : ∀ k : Nat, k < 64 → (mem l k ↔ s.getD k false = true)) : l = spansOf s :=
  h.ext (spansOf_tidy s) (fun j => by
    rw [spansOf_mem]
    constructor
    · intro hj
      have := h.ge hj
      obtain ⟨q, rfl⟩ := Int.eq_ofNat_of_zero_le this.1
      exact ⟨by omega, by omega, by rw [Int.toNat_natCast]; exact (hm q (by omega)).1 hj⟩
    · rintro ⟨a, b, c⟩
      obtain ⟨q, rfl⟩ := Int.eq_ofNat_of_zero_le a
      exact (hm q (by omega)).2 (by rwa [Int.toNat_natCast] at c))
end Go.Proofs.Ytmbigclkmclbdaa.Hand
namespace Go.Proofs.Ytmbigclkmclbdaa.Hand
open Go.RowKit Go.Proofs.YtmbigclkmclbdaaW.PrintWords Go.Proofs.YtmbigclkmclbdaaW.PrintLast Go.Proofs.YtmbigclkmclbdaaW.PrintMore Go.Proofs.Ytmbigclkmclbdaa.A
set_option linter.unusedVariables false
set_option linter.unusedSimpArgs false
/-- The cells of spans. -/
def flat (l : List S34) : List Value := l.flatMap fun x => [.int .i64 x.f0, .int .i64 x.f1]
theorem flat_cons (x : S34) (l : List S34) : flat (x :: l) = .int .i64 x.f0 :: .int .i64 x.f1 :: flat l := rfl
theorem flat_append (a b : List S34) : flat (a ++ b) = flat a ++ flat b := by unfold flat; rw [List.flatMap_append]
theorem flat_length : ∀ l : List S34, (flat l).length = l.length * 2
  | [] => rfl
  | x :: l => by rw [flat_cons, List.length_cons, List.length_cons, flat_length l, List.length_cons]; omega
theorem flat_one : ∀ (l : List S34), ∀ u ∈ flat l, u.oneCell' = true
  | [], u, h => by simp [flat] at h
  | x :: l, u, h => by
    rw [flat_cons] at h
    rcases List.mem_cons.1 h with rfl | h
    · rfl
    · rcases List.mem_cons.1 h with rfl | h
      · rfl
      · exact flat_one l u h
theorem flat_get : ∀ (l : List S34) (i : Nat) (x : S34), l[i]? = some x → (flat l)[i * 2]? = some (.int .i64 x.f0) ∧ (flat l)[i * 2 + 1]? = some (.int .i64 x.f1)
  | [], i, x, h => by simp at h
  | y :: l, 0, x, h => by
    injection h with h; subst h
    exact ⟨rfl, rfl⟩
  | y :: l, i + 1, x, h => by
    have := flat_get l i x (by simpa using h)
    rw [flat_cons, show (i + 1) * 2 = i * 2 + 1 + 1 by omega]
    exact this
theorem flat_set : ∀ (l : List S34) (i : Nat) (x : S34), ((flat l).set (i * 2) (.int .i64 x.f0)).set (i * 2 + 1) (.int .i64 x.f1) = flat (l.set i x)
  | [], i, x => rfl
  | y :: l, 0, x => rfl
  | y :: l, i + 1, x => by
    rw [flat_cons, show (i + 1) * 2 = i * 2 + 1 + 1 by omega]
    show _ :: _ :: _ = _
    rw [flat_set l i x]; rfl
/-- A row of spans of one's own, from a block on. -/
abbrev ORow (w : World) (base : Nat) (v : Value) (l : List S34) : Prop := w.ownsRow base 34 2 v l.length (flat l)
theorem ORow.nil (w : World) (base : Nat) : ORow w base (.slice none 0 0) [] := World.ownsRow_nil w base _ 2
theorem ORow.reads {w : World} {base : Nat} {v : Value} {l : List S34} (h : ORow w base v l) : ∃ A c, v = .slice A l.length c ∧ l.length ≤ c ∧ Kd.C k34 w A l.length l ∧ v.ownBlock = A.map (·.block) := by
  rcases h.2 with ⟨rfl, h0⟩ | ⟨g, cap, cur, rfl, hb, hh, hn, hm, hs, ht⟩
  · obtain rfl : l = [] := List.eq_nil_of_length_eq_zero h0
    exact ⟨none, 0, rfl, Nat.le_refl _, ⟨rfl, by decide, fun h => by simp at h⟩, rfl⟩
  · refine ⟨some ⟨g, 0, none⟩, cap, rfl, hn, ⟨rfl, Nat.le_trans hn hm, fun _ => ⟨_, rfl, fun j x hj => ⟨[.int .i64 x.f0, .int .i64 x.f1], rfl, k34_mk w x, fun q u hq => ?_⟩⟩⟩, rfl⟩
    have hc := h.cells (g := g) rfl
    obtain ⟨g0, g1⟩ := flat_get l j x hj
    match q, hq with
    | 0, hq => injection hq with hq; subst hq; exact hc _ _ g0
    | 1, hq => injection hq with hq; subst hq; exact hc _ _ g1
    | q + 2, hq => simp at hq
theorem ORow.opened {w : World} {base : Nat} {v : Value} {l : List S34} (h : ORow w base v l) (h0 : 0 < l.length) : ∃ g c, v = .slice (some ⟨g, 0, none⟩) l.length c ∧ l.length ≤ c ∧ base ≤ g ∧ g < w.heap.size ∧ (∀ i x, l[i]? = some x → w.cell? ⟨g, i * 2, none⟩ = some (.int .i64 x.f0) ∧ w.cell? ⟨g, i * 2 + 1, none⟩ = some (.int .i64 x.f1)) ∧ ∀ i, w.frozen? ⟨g, i, none⟩ = false := by
  rcases h.2 with ⟨_, h1⟩ | ⟨g, cap, cur, rfl, hb, hh, hn, hm, hs, ht⟩
  · omega
  · refine ⟨g, cap, rfl, hn, hb, (Array.getElem?_eq_some_iff.1 hh).1, fun i x hx => ?_, fun i => frozen_of_row w g i cur _ hh⟩
    have hil : i < l.length := by
      rcases Nat.lt_or_ge i l.length with h | h
      · exact h
      · rw [List.getElem?_eq_none h] at hx; cases hx
    obtain ⟨g0, g1⟩ := flat_get l i x hx
    exact ⟨(World.ownsRow.cellAt h (i * 2) (by omega)).trans g0, (World.ownsRow.cellAt h (i * 2 + 1) (by omega)).trans g1⟩
theorem ORow.below {w w1 : World} {base : Nat} {v : Value} {l : List S34} (h : ORow w base v l) (hb : Below w.heap.size w w1) : ORow w1 base v l := own_move h (fun k hk => hb.block k (own_lt h k hk))
theorem ORow.only {w w1 : World} {base g : Nat} {v : Value} {l : List S34} (h : ORow w base v l) (ho : Only w w1 g) (hne : v.ownBlock ≠ some g) : ORow w1 base v l :=
  own_move h (fun k hk => ho.block k (own_lt h k hk) (fun e => hne (by rw [hk]; exact e)))
theorem ORow.far {w : World} {base : Nat} {v : Value} {l : List S34} (h : ORow w base v l) {p : Addr} (hne : v.ownBlock ≠ some p.block) (u : Value) : ORow (w.setCell p u) base v l :=
  own_move h (fun k hk => Below.heap_setCell w p u k (fun e => hne (by rw [hk, e])))
theorem ORow.lower {w : World} {base base' : Nat} {v : Value} {l : List S34} (h : ORow w base v l) (hb : base' ≤ base) : ORow w base' v l := own_weaken h hb
/-- By types: a block of another type is not the row's. -/
theorem ORow.ne {w : World} {base g t : Nat} {v : Value} {l : List S34} {cs : Array Value} (h : ORow w base v l) (hb : Blk w g t cs) (ht : 34 ≠ t) : v.ownBlock ≠ some g := fun e => own_ne h hb.hd ht e.symm
theorem reps_flat : ∀ (l : List S34) (inner : List Value) (w : World) (base : Nat) (ok : Nat → Prop), Reps (k34.M w base ok) 2 l inner → inner = flat l := by
  intro l inner w base ok h
  apply List.ext_getElem?
  intro j
  have hl : inner.length = l.length * 2 := h.1
  by_cases hj : j < l.length * 2
  · obtain ⟨i, hi⟩ : ∃ i, j = i * 2 ∨ j = i * 2 + 1 := ⟨j / 2, by omega⟩
    have hil : i < l.length := by omega
    have hx : l[i]? = some l[i] := List.getElem?_eq_getElem hil
    have hm := k34_openM (h.2 i l[i] hx)
    obtain ⟨g0, g1⟩ := flat_get l i l[i] hx
    have e : ∀ q, q < 2 → inner[i * 2 + q]? = (((inner.drop (i * 2)).take 2))[q]? := by
      intro q hq
      rw [List.getElem?_take, if_pos hq, List.getElem?_drop]
    rcases hi with rfl | rfl
    · rw [g0, show i * 2 = i * 2 + 0 by omega, e 0 (by omega), hm]; rfl
    · rw [g1, e 1 (by omega), hm]; rfl
  · rw [List.getElem?_eq_none (by omega), List.getElem?_eq_none (by rw [flat_length]; omega)]
theorem flat_reps (w : World) (base : Nat) (ok : Nat → Prop) : ∀ l : List S34, Reps (k34.M w base ok) 2 l (flat l)
  | [] => Reps.none _ _
  | x :: l => by
    have ih := flat_reps w base ok l
    refine ⟨flat_length _, fun j p hj => ?_⟩
    cases j with
    | zero => injection hj with hj; subst hj; exact k34_mkM _ _ _ _
    | succ j =>
      have := ih.2 j p (by simpa using hj)
      rw [flat_cons, show (j + 1) * 2 = j * 2 + 1 + 1 by omega]
      exact this
theorem ORow.to_R {w : World} {base : Nat} {v : Value} {l : List S34} (h : ORow w base v l) : Kd.R k34 34 w base (fun _ => True) v l :=
  ⟨fun _ _ => trivial, flat l, h, flat_reps _ _ _ l⟩
theorem ORow.of_R {w : World} {base : Nat} {ok : Nat → Prop} {v : Value} {l : List S34} (h : Kd.R k34 34 w base ok v l) : ORow w base v l := by
  obtain ⟨_, inner, ho, hr⟩ := h
  have := reps_flat l inner _ _ _ hr
  subst this
  exact ho
/-! ### appending -/
theorem Blk.grown {w w1 : World} {g t : Nat} {cs : Array Value} {row : Option Nat} (h : Blk w g t cs) (hg : w.grownBy w1 row) (hne : row ≠ some g) : Blk w1 g t cs := (hg.block g h.lt (fun e => hne e.symm)).trans h
theorem app_ne {v v1 : Value} {g n : Nat} (hN : v.ownBlock ≠ some g) (hg : g < n) (hat : v1.ownBlock = v.ownBlock ∨ ∃ b, v1.ownBlock = some b ∧ n ≤ b) : v1.ownBlock ≠ some g := by
  rcases hat with h | ⟨b, h, hb⟩
  · rw [h]; exact hN
  · rw [h]; intro e; injection e; omega
theorem ORow.snoc {w : World} {base : Nat} {v : Value} {l : List S34} {p q : Int} (h : w.ownsRow base 34 2 v (l.length + 1) (flat l ++ [.int .i64 p, .int .i64 q])) : ORow w base v (l ++ [⟨p, q⟩]) := by
  unfold ORow; rw [flat_append, List.length_append]; exact h
theorem ORow.ne_new {w : World} {base n : Nat} {v : Value} {l : List S34} (h : ORow w base v l) (hn : w.heap.size ≤ n) : v.ownBlock ≠ some n := fun e => by have := own_lt h n e; omega
theorem ORow.ne_old {w : World} {base n : Nat} {v : Value} {l : List S34} (h : ORow w base v l) (hn : n < base) : v.ownBlock ≠ some n := fun e => by have := own_base h n e; omega
theorem one_two (p q : Int) : ∀ u ∈ [Value.int .i64 p, Value.int .i64 q], u.oneCell' = true := by
  intro u h
  rcases List.mem_cons.1 h with rfl | h
  · rfl
  · rcases List.mem_cons.1 h with rfl | h
    · rfl
    · cases h
theorem info34' : (Try.prog.info? 34).map (fun i => (i.zero, i.size, i.bytes)) = some (some (.agg #[.int .i64 0, .int .i64 0]), 2, 16) := by kernel_rfl
end Go.Proofs.Ytmbigclkmclbdaa.Hand
namespace Go.Proofs.Ytmbigclkmclbdaa.Hand
open Go.RowKit Go.Proofs.YtmbigclkmclbdaaW.PrintWords Go.Proofs.YtmbigclkmclbdaaW.PrintLast Go.Proofs.YtmbigclkmclbdaaW.PrintMore Go.Proofs.Ytmbigclkmclbdaa.A
set_option linter.unusedVariables false
set_option linter.unusedSimpArgs false
attribute [local go_sem] max2_int min2_int max_two min_two max_three min_three max_four min_four
theorem touch_eq (a m b n : Int) : span_Touch.f a m b n = some (decide (touches a m b n)) := by
  unfold span_Touch.f
  rw [whole_eq, Option.bind_some]
  by_cases h : wh a m
  · rw [if_pos (decide_eq_true h), whole_eq, Option.bind_some]
    by_cases h2 : wh b n
    · rw [if_pos (decide_eq_true h2), end_eq, end_eq, Option.bind_some, Option.bind_some, mx_eq, mn_eq]
      unfold endV
      rw [if_pos h, if_pos h2]
      congr 1
      rw [decide_eq_decide]
      exact ⟨fun x => ⟨h, h2, x⟩, fun x => x.2.2⟩
    · rw [if_neg (by rw [decide_eq_true_eq]; exact h2), decide_eq_false (fun x => h2 x.2.1)]
  · rw [if_neg (by rw [decide_eq_true_eq]; exact h), decide_eq_false (fun x => h x.1)]
theorem join_eq (a m b n : Int) : span_Join.f a m b n = some (joinV a m b n) := by
  unfold span_Join.f joinV
  rw [touch_eq, Option.bind_some]
  by_cases h : touches a m b n
  · have h' := h
    unfold touches wh at h'
    rw [if_pos (decide_eq_true h), end_eq, end_eq, Option.bind_some, Option.bind_some, mx_eq, mn_eq]
    unfold endV
    rw [if_pos h.1, if_pos h.2.1, of_yes (by omega) (by omega) (by omega), if_pos h]; rfl
  · rw [if_neg (by rw [decide_eq_true_eq]; exact h), if_neg h]
end Go.Proofs.Ytmbigclkmclbdaa.Hand
namespace Go.Proofs.Ytmbigclkmclbdaa.Hand
open Go.RowKit Go.Proofs.YtmbigclkmclbdaaW.PrintWords Go.Proofs.YtmbigclkmclbdaaW.PrintLast Go.Proofs.YtmbigclkmclbdaaW.PrintMore Go.Proofs.Ytmbigclkmclbdaa.A
set_option linter.unusedVariables false
set_option linter.unusedSimpArgs false
attribute [local go_sem] max2_int min2_int max_two min_two max_three min_three max_four min_four
/-- A set of blocks that is there: its spans. -/
def RunsAt (w : World) (base g : Nat) (l : List S34) : Prop := ∃ v, Blk w g 122 #[v] ∧ ORow w base v l
abbrev ptrR (g : Nat) : Value := .pointer (some ⟨g, 0, none⟩)
section
variable {w w1 : World} {base g : Nat} {l : List S34}
theorem RunsAt.lt (h : RunsAt w base g l) : g < w.heap.size := by obtain ⟨v, hb, _⟩ := h; exact hb.lt
theorem RunsAt.keep (h : RunsAt w base g l) (hB : Below w.heap.size w w1) : RunsAt w1 base g l := by
  obtain ⟨v, hb, ho⟩ := h
  exact ⟨v, hb.keep hB, ho.below hB⟩
theorem RunsAt.lower {base' : Nat} (h : RunsAt w base g l) (hb : base' ≤ base) : RunsAt w base' g l := by
  obtain ⟨v, hk, ho⟩ := h
  exact ⟨v, hk, ho.lower hb⟩
theorem RunsAt.only {g' t : Nat} {cs : Array Value} (h : RunsAt w base g l) (ho : Only w w1 g') (hne : g ≠ g') (hb : Blk w g' t cs) (ht : 34 ≠ t) : RunsAt w1 base g l := by
  obtain ⟨v, hk, hr⟩ := h
  exact ⟨v, hk.only ho hne, hr.only ho (hr.ne hb ht)⟩
theorem RunsAt.onlyR {g' base' : Nat} {l' : List S34} (h : RunsAt w base g l) (ho : Only w w1 g') (hne : g ≠ g') (hb : RunsAt w base' g' l') : RunsAt w1 base g l := by
  obtain ⟨v', hb', _⟩ := hb
  exact h.only ho hne hb' (by decide)
end
theorem addStep_len : ∀ (l : List S34) (t : S34 × Bool × List S34), (l.foldl addStep t).2.2.length ≤ t.2.2.length + 2 * l.length
  | [], t => by simp
  | x :: l, t => by
    have h := addStep_len l (addStep t x)
    have h2 : (addStep t x).2.2.length ≤ t.2.2.length + 2 := by
      unfold addStep; split
      · simp
      · split
        · simp
        · simp
    rw [List.foldl_cons, List.length_cons]
    omega
theorem foldl_snoc {α β : Type} (f : β → α → β) (b : β) (l : List α) (i : Nat) (h : i < l.length) : (l.take (i + 1)).foldl f b = f ((l.take i).foldl f b) l[i] := by
  rw [List.take_succ_eq_append_getElem h, List.foldl_append]; rfl
theorem rd_get (l : List S34) (i : Nat) (h : i < l.length) : rd_T34 l (i : Int) = l[i] := by
  show l.getD (i : Int).toNat z34 = l[i]
  rw [Int.toNat_natCast, List.getD_eq_getElem?_getD, List.getElem?_eq_getElem h]; rfl
set_option maxRecDepth 100000 in
set_option maxHeartbeats 1600000 in
theorem runs_add (base g : Nat) (l : List S34) (a m : Int) (w : World) (hr : RunsAt w base g l) (hT : Tidy 0 l) (hs : wh a m) (hbase : base ≤ w.heap.size) :
    Calls Try.prog 103 #[ptrR g, .agg #[.int .i64 a, .int .i64 m]] w fun e w' => e = .returned (.tuple #[]) ∧ RunsAt w' base g (addV l ⟨a, m⟩) ∧ Only w w' g := by
  obtain ⟨v0, hb0, ho0⟩ := hr
  obtain ⟨A, c, rfl, hlc, hC, hob⟩ := ho0.reads
  have c0 : w.cell? ⟨g, 0, none⟩ = some (.slice A l.length c) := hb0.cell rfl
  have f0 := hb0.frozen 0
  have HB0 := Aside0.mk hb0
  have HC := Aside0.mk hC
  have hlen : (l.length : Int) ≤ 65 := by have := hT.length (by decide); omega
  have HT := Aside0.mk hT
  have Hs := Aside0.mk hs
  have hg : g < w.heap.size := hb0.lt
  have Hbase := Aside0.mk hbase
  clear hb0 ho0 hC hT hs hob hlc hbase
  go_enter Try.func103, Try.ntmps103
  go_wp2_with fail
  go_loopg [4, 5, 13] l.length (fun kq u d v wq => ∃ i : Nat, i + kq = l.length ∧ v = .int .i64 (i : Int) ∧ d = .bool ((l.take i).foldl addStep (⟨a, m⟩, false, [])).2.1 ∧ Aside0 (Below w.heap.size w wq) ∧ Aside0 (ORow wq w.heap.size u ((l.take i).foldl addStep (⟨a, m⟩, false, [])).2.2) ∧ Aside0 (u.ownBlock ≠ some w.heap.size) ∧ Aside0 (Blk wq w.heap.size 34 #[.int .i64 ((l.take i).foldl addStep (⟨a, m⟩, false, [])).1.f0, .int .i64 ((l.take i).foldl addStep (⟨a, m⟩, false, [])).1.f1]))
  case atStart => exact ⟨0, by omega, rfl, rfl, ⟨below_alloc (Below.refl _ _) _⟩, ⟨ORow.nil _ _⟩, ⟨by simp [Value.ownBlock]⟩, ⟨Blk.new _ _ _⟩⟩
  case round =>
    obtain ⟨i, hi, rfl, rfl, HB, HO, HN, HS⟩ := hrel
    by_cases hlt : i < l.length
    · obtain ⟨ad, e1, x0, x1⟩ := at_T34 (Kd.C_below HC.out HB.out) (i : Int) (by omega) (by omega)
      subst e1
      rw [Int.toNat_natCast] at x0 x1
      have hlt' : (i : Int) < (l.length : Int) := by omega
      have hone := Aside0.mk (foldl_snoc addStep (⟨a, m⟩, false, []) l i hlt)
      have hlen2 : Aside0 (((l.take i).foldl addStep (⟨a, m⟩, false, [])).2.2.length ≤ 130) := ⟨by have := addStep_len (l.take i) (⟨a, m⟩, false, []); rw [List.length_take] at this; simp only [List.length_nil] at this; omega⟩
      have hwX : Aside0 (wh l[i].f0 l[i].f1) := ⟨HT.out.whole (Int.le_refl _) _ (List.getElem_mem hlt)⟩
      have hx : rd_T34 l (i : Int) = l[i] := rd_get l i hlt
      rw [hx] at x0 x1
      clear hx
      generalize l[i] = X at *
      generalize (l.take i).foldl addStep (⟨a, m⟩, false, []) = T at *
      obtain ⟨F, M⟩ := X
      obtain ⟨⟨p, q⟩, d, o⟩ := T
      simp only at HO HS x0 x1 hwX hlen2
      obtain ⟨kk, rfl⟩ : ∃ z, gk = z + 1 := ⟨gk - 1, by omega⟩
      have Ht := Aside0.mk (touch_eq F M p q)
      have hgs := HS.out.lt
      have d0 := HS.out.cell (i := 0) rfl
      have d1 := HS.out.cell (i := 1) rfl
      by_cases ht : touches F M p q
      · rw [decide_eq_true ht] at Ht
        have Hj : Aside0 (span_Join.f F M p q = some (min F p, max (F + M) (p + q) - min F p, true)) := ⟨by rw [join_eq]; unfold joinV; rw [if_pos ht]⟩
        have Hst : Aside0 (((l.take (i + 1)).foldl addStep (⟨a, m⟩, false, [])) = (⟨min F p, max (F + M) (p + q) - min F p⟩, d, o)) := ⟨by rw [hone.out]; unfold addStep; rw [if_pos ht]; rfl⟩
        clear ht hone
        go_wp2_with fail
        refine (span_Touch.calls F M p q true _ Ht.out).mono ?_
        rintro e w1 ⟨rfl, hB⟩
        have HB1 : Aside0 (Below w.heap.size w w1) := ⟨below_step (below_alloc HB.out _) hB⟩
        have HX1 : Aside0 (Blk w1 wr.heap.size 34 #[.int .i64 F, .int .i64 M]) := ⟨(Blk.new wr _ _).keep hB⟩
        have HS1 := Aside0.mk ((HS.out.alloc _).keep hB)
        have HO1 := Aside0.mk (ORow.below (own_alloc HO.out _) hB)
        have c1 := HX1.out.cell (i := 0) rfl
        have c2 := HX1.out.cell (i := 1) rfl
        have c3 := HS1.out.cell (i := 0) rfl
        have c4 := HS1.out.cell (i := 1) rfl
        clear hB HB HO HS x0 x1 d0 d1 hgs
        go_wp2_with fail
        refine (span_Join.calls F M p q _ _ true _ Hj.out).mono ?_
        rintro e w2 ⟨rfl, hB⟩
        have HB2 : Aside0 (Below w.heap.size w w2) := ⟨below_step HB1.out hB⟩
        have HS2 := Aside0.mk (HS1.out.keep hB)
        have HO2 := Aside0.mk (ORow.below HO1.out hB)
        have c3 := HS2.out.cell (i := 0) rfl
        have c4 := HS2.out.cell (i := 1) rfl
        have f3 := HS2.out.frozen 0
        have f4 := HS2.out.frozen 1
        clear hB HB1 HO1 HS1 c1 c2 HX1
        go_wp2_with fail
        go_roundg kk
        case measure => omega
        case rel =>
          refine ⟨i + 1, by omega, by go_num, by rw [Hst.out], ⟨below_set (below_set HB2.out (Nat.le_refl _)) (Nat.le_refl _)⟩, ?_, HN, ?_⟩
          · rw [Hst.out]
            exact ⟨(HO2.out.far HN.out _).far HN.out _⟩
          · rw [Hst.out]
            exact ⟨(HS2.out.set_ 0 _).set_ 1 _⟩
      · rw [decide_eq_false ht] at Ht
        by_cases hb : d = false ∧ p < F
        · have Hst : Aside0 (((l.take (i + 1)).foldl addStep (⟨a, m⟩, false, [])) = (⟨p, q⟩, true, o ++ [⟨p, q⟩] ++ [⟨F, M⟩])) := ⟨by rw [hone.out]; unfold addStep; rw [if_neg ht, if_pos hb]⟩
          obtain ⟨rfl, hpF⟩ := hb
          clear ht hone
          go_wp2_with fail
          refine (span_Touch.calls F M p q false _ Ht.out).mono ?_
          rintro e w1 ⟨rfl, hB⟩
          have HX0 : Aside0 (u4.ownBlock ≠ some wr.heap.size) := ⟨HO.out.ne_new (Nat.le_refl _)⟩
          have HB1 : Aside0 (Below w.heap.size w w1) := ⟨below_step (below_alloc HB.out _) hB⟩
          have HX1 : Aside0 (Blk w1 wr.heap.size 34 #[.int .i64 F, .int .i64 M]) := ⟨(Blk.new wr _ _).keep hB⟩
          have HS1 := Aside0.mk ((HS.out.alloc _).keep hB)
          have HO1 := Aside0.mk (ORow.below (own_alloc HO.out _) hB)
          have hgs1 := Aside0.mk HS1.out.lt
          have c1 := HX1.out.cell (i := 0) rfl
          have c2 := HX1.out.cell (i := 1) rfl
          have c3 := HS1.out.cell (i := 0) rfl
          have c4 := HS1.out.cell (i := 1) rfl
          clear hB HB HO HS x0 x1 d0 d1 hgs
          go_wp2_with (first | ((with_reducible refine gate_builtin (b := .append) (xs := #[.tmp 37, .tmp 39]) rfl ?_); at_builtin; refine print_append_cells (w0 := w) w.heap.size rfl (.tmp 37) (.tmp 39) 40 34 (.agg #[(.int .i64 0), (.int .i64 0)]) 2 16 rfl Try.underlying40 info34' rfl (by decide) (by omega) u4 (o).length (flat (o)) [.int .i64 p, .int .i64 q] rfl (by first | (go_simp; done) | (go_simp; rfl)) rfl (one_two _ _) HO1.out HB1.out (below_size HB1.out) ?aL ?_; (case aL => (have := hlen2.out; (try simp only [List.length_append, List.length_singleton]); omega)); intro v2 W2 ho hb hg hat; have HB2 := Aside0.mk hb; have HO2 := Aside0.mk (ORow.snoc ho); have HN2 := Aside0.mk (app_ne HN.out hgs1.out hat); have HS2 := Aside0.mk (HS1.out.grown hg HN.out); have HX2 := Aside0.mk (HX1.out.grown hg HX0.out); have HNX2 := Aside0.mk (app_ne HX0.out HX1.out.lt hat); have c5 := HX2.out.cell (i := 0) rfl; have c6 := HX2.out.cell (i := 1) rfl; clear ho hb hg hat) | ((with_reducible refine gate_builtin (b := .append) (xs := #[.tmp 41, .tmp 43]) rfl ?_); at_builtin; refine print_append_cells (w0 := w) w.heap.size rfl (.tmp 41) (.tmp 43) 40 34 (.agg #[(.int .i64 0), (.int .i64 0)]) 2 16 rfl Try.underlying40 info34' rfl (by decide) (by omega) v2 (o ++ [(⟨p, q⟩ : S34)]).length (flat (o ++ [(⟨p, q⟩ : S34)])) [.int .i64 F, .int .i64 M] rfl (by first | (go_simp; done) | (go_simp; rfl)) rfl (one_two _ _) HO2.out HB2.out (below_size HB2.out) ?aL ?_; (case aL => (have := hlen2.out; (try simp only [List.length_append, List.length_singleton]); omega)); intro v3 W3 ho hb hg hat; have HB3 := Aside0.mk hb; have HO3 := Aside0.mk (ORow.snoc ho); have HN3 := Aside0.mk (app_ne HN2.out HS2.out.lt hat); have HS3 := Aside0.mk (HS2.out.grown hg HN2.out); clear ho hb hg hat))
          go_roundg kk
          case measure => omega
          case rel =>
            refine ⟨i + 1, by omega, by go_num, ?_⟩
            rw [Hst.out]
            exact ⟨rfl, HB3, HO3, HN3, HS3⟩
        · have Hst : Aside0 (((l.take (i + 1)).foldl addStep (⟨a, m⟩, false, [])) = (⟨p, q⟩, d, o ++ [⟨F, M⟩])) := ⟨by rw [hone.out]; unfold addStep; rw [if_neg ht, if_neg hb]⟩
          clear ht hone
          have hor : d = true ∨ (d = false ∧ ¬ p < F) := by
            cases d
            · exact .inr ⟨rfl, fun h => hb ⟨rfl, h⟩⟩
            · exact .inl rfl
          clear hb
          rcases hor with rfl | ⟨rfl, hpF⟩
          all_goals
            go_wp2_with fail
            refine (span_Touch.calls F M p q false _ Ht.out).mono ?_
            rintro e w1 ⟨rfl, hB⟩
            have HX0 : Aside0 (u4.ownBlock ≠ some wr.heap.size) := ⟨HO.out.ne_new (Nat.le_refl _)⟩
            have HB1 : Aside0 (Below w.heap.size w w1) := ⟨below_step (below_alloc HB.out _) hB⟩
            have HX1 : Aside0 (Blk w1 wr.heap.size 34 #[.int .i64 F, .int .i64 M]) := ⟨(Blk.new wr _ _).keep hB⟩
            have HS1 := Aside0.mk ((HS.out.alloc _).keep hB)
            have HO1 := Aside0.mk (ORow.below (own_alloc HO.out _) hB)
            have hgs1 := Aside0.mk HS1.out.lt
            have c1 := HX1.out.cell (i := 0) rfl
            have c2 := HX1.out.cell (i := 1) rfl
            have c3 := HS1.out.cell (i := 0) rfl
            have c4 := HS1.out.cell (i := 1) rfl
            clear hB HB HO HS x0 x1 d0 d1 hgs
            go_wp2_with (first | ((with_reducible refine gate_builtin (b := .append) (xs := #[.tmp 41, .tmp 43]) rfl ?_); at_builtin; refine print_append_cells (w0 := w) w.heap.size rfl (.tmp 41) (.tmp 43) 40 34 (.agg #[(.int .i64 0), (.int .i64 0)]) 2 16 rfl Try.underlying40 info34' rfl (by decide) (by omega) u4 (o).length (flat (o)) [.int .i64 F, .int .i64 M] rfl (by first | (go_simp; done) | (go_simp; rfl)) rfl (one_two _ _) HO1.out HB1.out (below_size HB1.out) ?aL ?_; (case aL => (have := hlen2.out; (try simp only [List.length_append, List.length_singleton]); omega)); intro v3 W3 ho hb hg hat; have HB3 := Aside0.mk hb; have HO3 := Aside0.mk (ORow.snoc ho); have HN3 := Aside0.mk (app_ne HN.out hgs1.out hat); have HS3 := Aside0.mk (HS1.out.grown hg HN.out); clear ho hb hg hat))
            go_roundg kk
            case measure => omega
            case rel =>
              refine ⟨i + 1, by omega, by go_num, ?_⟩
              rw [Hst.out]
              exact ⟨rfl, HB3, HO3, HN3, HS3⟩
    · have hlt' : ¬ (i : Int) < (l.length : Int) := by omega
      have hlen2 : Aside0 (((l.take i).foldl addStep (⟨a, m⟩, false, [])).2.2.length ≤ 130) := ⟨by have := addStep_len (l.take i) (⟨a, m⟩, false, []); rw [List.length_take] at this; simp only [List.length_nil] at this; omega⟩
      have hi' : i = l.length := by omega
      subst hi'
      have hV : Aside0 (addV l ⟨a, m⟩ = if ((l.take l.length).foldl addStep (⟨a, m⟩, false, [])).2.1 then ((l.take l.length).foldl addStep (⟨a, m⟩, false, [])).2.2 else ((l.take l.length).foldl addStep (⟨a, m⟩, false, [])).2.2 ++ [((l.take l.length).foldl addStep (⟨a, m⟩, false, [])).1]) := ⟨by rw [List.take_length]; rfl⟩
      generalize (l.take l.length).foldl addStep (⟨a, m⟩, false, []) = T at *
      obtain ⟨⟨p, q⟩, d, o⟩ := T
      simp only at HO HS hlen2 hV
      have HR := Aside0.mk (HB0.out.below HB.out hg)
      have Hg := Aside0.mk hg
      have c3 := HS.out.cell (i := 0) rfl
      have c4 := HS.out.cell (i := 1) rfl
      cases d
      · go_wp2_with ((with_reducible refine gate_builtin (b := .append) (xs := #[.tmp 48, .tmp 50]) rfl ?_); at_builtin; refine print_append_cells (w0 := w) w.heap.size rfl (.tmp 48) (.tmp 50) 40 34 (.agg #[(.int .i64 0), (.int .i64 0)]) 2 16 rfl Try.underlying40 info34' rfl (by decide) (by omega) u4 (o).length (flat (o)) [.int .i64 p, .int .i64 q] rfl (by first | (go_simp; done) | (go_simp; rfl)) rfl (one_two _ _) HO.out HB.out (below_size HB.out) ?aL ?_; (case aL => (have := hlen2.out; (try simp only [List.length_append, List.length_singleton]); omega)); intro v3 W3 ho hb hg hat; have HB3 := Aside0.mk hb; have HO3 := Aside0.mk (ORow.snoc ho); have HR3 := Aside0.mk (HR.out.grown hg (HO.out.ne_old Hg.out)); obtain ⟨A3, k3, hv3, _, _, _⟩ := HO3.out.reads; rw [List.length_append, List.length_singleton] at hv3; subst hv3; have g1 := HR3.out.lt; have c5 := HR3.out.cell (i := 0) rfl; have f5 := HR3.out.frozen 0; clear ho hb hg hat)
        go_end0
        refine ⟨rfl, ⟨_, HR3.out.set_ 0 _, ?_⟩, only_set (only_below (only_refl _ _) HB3.out) 0 _⟩
        rw [hV.out]
        exact (HO3.out.far (p := ⟨g, 0, none⟩) (HO3.out.ne_old Hg.out) _).lower Hbase.out
      · obtain ⟨A3, k3, rfl, _, _, _⟩ := HO.out.reads
        have c5 := HR.out.cell (i := 0) rfl
        have f5 := HR.out.frozen 0
        go_wp2_with fail
        go_end0
        refine ⟨rfl, ⟨_, HR.out.set_ 0 _, ?_⟩, only_set (only_below (only_refl _ _) HB.out) 0 _⟩
        rw [hV.out]
        exact (HO.out.far (p := ⟨g, 0, none⟩) (HO.out.ne_old Hg.out) _).lower Hbase.out
end Go.Proofs.Ytmbigclkmclbdaa.Hand
namespace Go.Proofs.Ytmbigclkmclbdaa.Hand
open Go.RowKit Go.Proofs.YtmbigclkmclbdaaW.PrintWords Go.Proofs.YtmbigclkmclbdaaW.PrintLast Go.Proofs.YtmbigclkmclbdaaW.PrintMore Go.Proofs.Ytmbigclkmclbdaa.A
set_option linter.unusedVariables false
set_option linter.unusedSimpArgs false
attribute [local go_sem] max2_int min2_int max_two min_two max_three min_three max_four min_four
theorem clone_nil (w : World) :
    Calls Try.prog 104 #[.slice none 0 0] w fun e w' => ∃ v, e = .returned v ∧ ORow w' w.heap.size v [] ∧ Below w.heap.size w w' := by
  have q0 := fun W => Lib.run_eql_slice_nil (P := Try.prog) W 40 34 none 0 0 0 0 Try.underlying40
  go_enter Try.func104, Try.ntmps104
  go_wp2_with fail
  go_ret
  exact ⟨_, rfl, ORow.nil _ _, Below.refl _ _⟩
set_option maxRecDepth 100000 in
theorem clone_some (a : Addr) (c : Nat) (l : List S34) (hn : l.length ≤ 1000000) (w : World) (hC : Kd.C k34 w (some a) l.length l) :
    Calls Try.prog 104 #[.slice (some a) l.length c] w fun e w' => ∃ v, e = .returned v ∧ ORow w' w.heap.size v l ∧ Below w.heap.size w w' := by
  have q0 := fun W => Lib.run_eql_slice_nil (P := Try.prog) W 40 34 (some a) l.length c 0 0 Try.underlying40
  have HC := Aside0.mk hC
  have Hn := Aside0.mk hn
  clear hC hn
  go_enter Try.func104, Try.ntmps104
  go_wp2_with ((with_reducible refine gate_builtin (b := .append) (xs := #[.tmp 5, .tmp 6]) rfl ?_); at_builtin; refine Kd.R_append_rows k34 (Rr := k34.K (w.alloc (.cells #[] 34))) (w0 := w) w.heap.size rfl (.tmp 5) (.tmp 6) 40 34 (.agg #[(.int .i64 0), (.int .i64 0)]) 16 rfl Try.underlying40 info34' rfl (by decide) (by decide) (.slice (some ⟨w.heap.size, 0, none⟩) 0 0) [] l (some a) l.length c (fun _ => True) (fun _ => False) rfl rfl ?aO ?aR ?aK (fun _ h => h.elim) (fun _ _ => trivial) ?aB ?aS ?aL ?_; (case aO => exact ⟨fun _ _ => trivial, [], World.ownsRow_lit w #[] 0 (Nat.le_refl _) (by decide) rfl, Reps.none _ _⟩); (case aR => exact Kd.C_below HC.out (below_alloc (Below.refl _ _) _)); (case aK => (intro x cs hk; rw [k34_open hk]; exact k34_mkM _ _ _ _)); (case aB => exact below_alloc (Below.refl _ _) _); (case aS => simp); (case aL => (have := Hn.out; simp only [List.length_nil]; omega)); intro v1 w1 ho hb hg hat; have HO := Aside0.mk (ORow.of_R ho); have HB := Aside0.mk hb; clear ho hb hg hat)
  obtain ⟨A1, c1, hv, _⟩ := HO.out.reads
  subst hv
  go_ret
  exact ⟨_, rfl, HO.out, HB.out⟩
set_option maxRecDepth 100000 in
theorem runs_all (base g : Nat) (l : List S34) (hn : l.length ≤ 1000000) (w : World) (h : RunsAt w base g l) :
    Calls Try.prog 60 #[ptrR g] w fun e w' => ∃ v, e = .returned v ∧ ORow w' w.heap.size v l ∧ Below w.heap.size w w' := by
  obtain ⟨v0, hb, ho⟩ := h
  have hcl : ∀ v0, ORow w base v0 l → Calls Try.prog 104 #[v0] w fun e w' => ∃ v, e = .returned v ∧ ORow w' w.heap.size v l ∧ Below w.heap.size w w' := by
    intro v0 ho
    obtain ⟨A, c, rfl, hlc, hC, _⟩ := ho.reads
    cases A with
    | none =>
      rcases ho.2 with ⟨he, h0⟩ | ⟨g', cap, cur, he, _⟩
      · obtain rfl : l = [] := List.eq_nil_of_length_eq_zero h0
        rw [he]; exact clone_nil w
      · cases he
    | some a => exact clone_some a c l hn w hC
  have Hcl := Aside0.mk (hcl v0 ho)
  obtain ⟨A, c, rfl, hlc, hC, _⟩ := ho.reads
  have c0 := hb.cell (i := 0) rfl
  clear hb ho hcl hC hlc
  go_enter Try.func60, Try.ntmps60
  go_wp2_with fail
  refine Hcl.out.mono ?_
  rintro e w1 ⟨v, rfl, ho, hB⟩
  have HO := Aside0.mk ho
  have HB := Aside0.mk hB
  clear ho hB
  obtain ⟨A1, c1, hv, _⟩ := HO.out.reads
  subst hv
  go_wp2_with fail
  go_ret
  exact ⟨_, rfl, HO.out, HB.out⟩
theorem runs_all_nil (w : World) :
    Calls Try.prog 60 #[.pointer none] w fun e w' => ∃ v, e = .returned v ∧ ORow w' w.heap.size v [] ∧ Below w.heap.size w w' := by
  go_enter Try.func60, Try.ntmps60
  go_wp2_with fail
  go_ret
  exact ⟨_, rfl, ORow.nil _ _, Below.refl _ _⟩
theorem sumN_step (l : List S34) (i : Nat) (h : i < l.length) : sumN (l.take (i + 1)) = sumN (l.take i) + l[i].f1 := by
  rw [List.take_succ_eq_append_getElem h, sumN_append, sumN_cons]; simp [sumN]
set_option maxRecDepth 100000 in
theorem runs_count_of (P0 : Value) (l : List S34) (w : World) (hT : Tidy 0 l) (ha : Calls Try.prog 60 #[P0] w fun e w' => ∃ v, e = .returned v ∧ ORow w' w.heap.size v l ∧ Below w.heap.size w w') :
    Calls Try.prog 102 #[P0] w fun e w' => e = .returned (.int .i64 (sumN l)) ∧ Below w.heap.size w w' := by
  have hlen := hT.length (by decide)
  have HT := Aside0.mk hT
  have Hc := Aside0.mk ha
  clear ha hT
  go_enter Try.func102, Try.ntmps102
  go_wp2_with fail
  refine Hc.out.mono ?_
  rintro e w1 ⟨v, rfl, ho, hB⟩
  obtain ⟨A, c, rfl, hlc, hC, _⟩ := ho.reads
  have HB1 := Aside0.mk hB
  have HC := Aside0.mk hC
  clear ho hC hB Hc hlc
  go_wp2_with fail
  go_loopg [3, 9] l.length (fun kq u v wq => ∃ i : Nat, i + kq = l.length ∧ v = .int .i64 (i : Int) ∧ u = .int .i64 (sumN (l.take i)) ∧ Aside0 (Below w1.heap.size w1 wq))
  case atStart => exact ⟨0, by omega, rfl, rfl, ⟨Below.refl _ _⟩⟩
  case round =>
    obtain ⟨i, hi, rfl, rfl, HB⟩ := hrel
    by_cases hlt : i < l.length
    · obtain ⟨ad, e1, x0, x1⟩ := at_T34 (Kd.C_below HC.out HB.out) (i : Int) (by omega) (by omega)
      subst e1
      rw [Int.toNat_natCast, rd_get l i hlt] at x0 x1
      have hlt' : (i : Int) < (l.length : Int) := by omega
      have hs := (HT.out.take i).sum (by decide)
      obtain ⟨hs0, hs1⟩ := hs
      have hw := HT.out.whole (Int.le_refl _) _ (List.getElem_mem hlt)
      obtain ⟨hw0, hw1, hw2⟩ := hw
      have hs2 := Aside0.mk (sumN_step l i hlt)
      generalize sumN (l.take i) = z at *
      generalize l[i] = X at *
      obtain ⟨F, M⟩ := X
      simp only at x0 x1 hw0 hw1 hw2 hs2
      obtain ⟨kk, rfl⟩ : ∃ z, gk = z + 1 := ⟨gk - 1, by omega⟩
      go_wp2_with fail
      go_roundg kk
      case measure => omega
      case rel => exact ⟨i + 1, by omega, by go_num, by rw [hs2.out], ⟨below_alloc HB.out _⟩⟩
    · have hlt' : ¬ (i : Int) < (l.length : Int) := by omega
      obtain rfl : i = l.length := by omega
      rw [List.take_length]
      go_wp2_with fail
      go_ret
      exact ⟨rfl, below_step HB1.out HB.out⟩
theorem runs_count (base g : Nat) (l : List S34) (w : World) (hT : Tidy 0 l) (h : RunsAt w base g l) :
    Calls Try.prog 102 #[ptrR g] w fun e w' => e = .returned (.int .i64 (sumN l)) ∧ Below w.heap.size w w' :=
  runs_count_of _ l w hT (runs_all base g l (by have := hT.length (by decide); omega) w h)
theorem runs_count_nil (w : World) : Calls Try.prog 102 #[.pointer none] w fun e w' => e = .returned (.int .i64 0) ∧ Below w.heap.size w w' :=
  runs_count_of _ [] w trivial (runs_all_nil w)
/-! ### alike -/
theorem drawn_below {w w1 : World} (h : Drawn0 w w1) : Below w.heap.size w w1 := by
  obtain ⟨n, rfl⟩ := h.out
  exact pw_below_drewN (Below.refl _ _) n
instance (x : S34) (k : Int) : Decidable (inSp x k) := by unfold inSp; infer_instance
/-- Whether a block is in one of them. -/
def memB (l : List S34) (k : Int) : Bool := l.any fun x => decide (inSp x k)
theorem memB_iff (l : List S34) (k : Int) : memB l k = true ↔ mem l k := by
  unfold memB mem
  rw [List.any_eq_true]
  constructor
  · rintro ⟨x, h, hk⟩
    exact ⟨x, h, of_decide_eq_true hk⟩
  · rintro ⟨x, h, hk⟩
    exact ⟨x, h, decide_eq_true hk⟩
theorem memB_snoc (l : List S34) (i : Nat) (k : Int) (h : i < l.length) : memB (l.take (i + 1)) k = (memB (l.take i) k || decide (inSp l[i] k)) := by
  unfold memB
  rw [List.take_succ_eq_append_getElem h, List.any_append]; simp
theorem memB_of (l : List S34) (i : Nat) (k : Int) (h : i < l.length) (hk : inSp l[i] k) : memB l k = true := (memB_iff l k).2 ⟨_, List.getElem_mem h, hk⟩
/-- The first blocks from one on. -/
def nextV : List S34 → Int → Int × Int × Bool
  | [], _ => (0, 0, false)
  | x :: l, from_ => if from_ < x.f0 + x.f1 then (max x.f0 from_, x.f0 + x.f1 - max x.f0 from_, true) else nextV l from_
theorem nextV_skip : ∀ (l : List S34) (k : Int) (i : Nat), (∀ j, (h : j < l.length) → j < i → ¬ k < l[j].f0 + l[j].f1) → nextV l k = nextV (l.drop i) k
  | l, k, 0, _ => by rw [List.drop_zero]
  | [], k, i + 1, _ => by simp
  | x :: l, k, i + 1, h => by
    have h0 := h 0 (by simp) (by omega)
    simp only [List.getElem_cons_zero] at h0
    show (if k < x.f0 + x.f1 then _ else nextV l k) = _
    rw [if_neg h0]
    exact nextV_skip l k i (fun j hj hji => by have := h (j + 1) (by simp; omega) (by omega); simpa using this)
theorem nextV_at (l : List S34) (k : Int) (i : Nat) (hl : i < l.length) (h : ∀ j, (h : j < l.length) → j < i → ¬ k < l[j].f0 + l[j].f1) (hk : k < l[i].f0 + l[i].f1) : nextV l k = (max l[i].f0 k, l[i].f0 + l[i].f1 - max l[i].f0 k, true) := by
  rw [nextV_skip l k i h, List.drop_eq_getElem_cons hl]
  show (if _ then _ else _) = _
  rw [if_pos hk]
theorem nextV_none (l : List S34) (k : Int) (h : ∀ j, (h : j < l.length) → ¬ k < l[j].f0 + l[j].f1) : nextV l k = (0, 0, false) := by
  rw [nextV_skip l k l.length (fun j hj _ => h j hj), List.drop_length]; rfl
end Go.Proofs.Ytmbigclkmclbdaa.Hand
namespace Go.Proofs.Ytmbigclkmclbdaa.Hand
open Go.RowKit Go.Proofs.YtmbigclkmclbdaaW.PrintWords Go.Proofs.YtmbigclkmclbdaaW.PrintLast Go.Proofs.YtmbigclkmclbdaaW.PrintMore Go.Proofs.Ytmbigclkmclbdaa.A
set_option linter.unusedVariables false
set_option linter.unusedSimpArgs false
attribute [local go_sem] max2_int min2_int max_two min_two max_three min_three max_four min_four
theorem add_block (a : Addr) (j : Nat) : (a.add j).block = a.block := by unfold Addr.add; split <;> rfl
/-- A row (if there is one) is not in a block. -/
def Off (A : Option Addr) (n g : Nat) : Prop := 0 < n → ∀ a, A = some a → a.block ≠ g
theorem off_lt {w : World} {n g : Nat} {A : Option Addr} {l : List S34} (h : Kd.C k34 w A n l) (hg : w.heap.size ≤ g) : Off A n g := by
  intro hn a ha e
  obtain ⟨ad, he, x0, _⟩ := at_T34 h 0 (Int.le_refl _) (by omega)
  rw [ha] at he
  injection he with he
  subst he
  have := World.block_lt_of_cell? _ _ x0
  simp only [add_block] at this
  omega
theorem off_row {w : World} {base g : Nat} {A : Option Addr} {c : Nat} {l : List S34} (h : ORow w base (.slice A l.length c) l) (hg : g < base) : Off A l.length g := by
  intro hn a ha e
  subst ha
  have := own_base h a.block (by rfl)
  omega
theorem C_only {w w1 : World} {g n : Nat} {A : Option Addr} {l : List S34} (h : Kd.C k34 w A n l) (ho : Only w w1 g) (hne : Off A n g) : Kd.C k34 w1 A n l := by
  refine ⟨h.1, h.2.1, fun hn => ?_⟩
  obtain ⟨ad, e, hc⟩ := h.2.2 hn
  refine ⟨ad, e, fun j p hj => ?_⟩
  obtain ⟨c, h1, h2, h3⟩ := hc j p hj
  refine ⟨c, h1, ?_, fun i u hu => keepO ho (h3 i u hu) (by rw [add_block]; exact hne hn ad e)⟩
  rw [k34_open h2]; exact k34_mk w1 p
def putOneV (l : List S34) (s : S34) : List S34 := if wh s.f0 s.f1 then addV l s else l
def putV (l ls : List S34) : List S34 := ls.foldl putOneV l
def cutOneV (l : List S34) (s : S34) : List S34 := if wh s.f0 s.f1 then cutV l s else l
def cutAllV (l ls : List S34) : List S34 := ls.foldl cutOneV l
/-- Blocks of whole spans. -/
def wmem (ls : List S34) (k : Int) : Prop := ∃ s ∈ ls, wh s.f0 s.f1 ∧ inSp s k
theorem putV_spec : ∀ (ls l : List S34), Tidy 0 l → Tidy 0 (putV l ls) ∧ ∀ k, mem (putV l ls) k ↔ mem l k ∨ wmem ls k
  | [], l, h => ⟨h, fun k => by show mem l k ↔ _; unfold wmem; simp⟩
  | s :: ls, l, h => by
    show Tidy 0 (putV (putOneV l s) ls) ∧ ∀ k, mem (putV (putOneV l s) ls) k ↔ _
    unfold putOneV wmem
    by_cases hs : wh s.f0 s.f1
    · rw [if_pos hs]
      obtain ⟨a1, a2⟩ := addV_spec h hs
      obtain ⟨b1, b2⟩ := putV_spec ls _ a1
      refine ⟨b1, fun k => ?_⟩
      rw [b2 k, a2 k]
      unfold wmem
      constructor
      · rintro ((h | h) | ⟨x, h1, h2⟩)
        · exact .inl h
        · exact .inr ⟨s, List.mem_cons_self, hs, h⟩
        · exact .inr ⟨x, List.mem_cons_of_mem _ h1, h2⟩
      · rintro (h | ⟨x, h1, h2⟩)
        · exact .inl (.inl h)
        · rcases List.mem_cons.1 h1 with rfl | h1
          · exact .inl (.inr h2.2)
          · exact .inr ⟨x, h1, h2⟩
    · rw [if_neg hs]
      obtain ⟨b1, b2⟩ := putV_spec ls _ h
      refine ⟨b1, fun k => ?_⟩
      rw [b2 k]
      unfold wmem
      constructor
      · rintro (h | ⟨x, h1, h2⟩)
        · exact .inl h
        · exact .inr ⟨x, List.mem_cons_of_mem _ h1, h2⟩
      · rintro (h | ⟨x, h1, h2⟩)
        · exact .inl h
        · rcases List.mem_cons.1 h1 with rfl | h1
          · exact absurd h2.1 hs
          · exact .inr ⟨x, h1, h2⟩
theorem cutAllV_spec : ∀ (ls l : List S34), Tidy 0 l → Tidy 0 (cutAllV l ls) ∧ ∀ k, mem (cutAllV l ls) k ↔ mem l k ∧ ¬ wmem ls k
  | [], l, h => ⟨h, fun k => by show mem l k ↔ _; unfold wmem; simp⟩
  | s :: ls, l, h => by
    show Tidy 0 (cutAllV (cutOneV l s) ls) ∧ ∀ k, mem (cutAllV (cutOneV l s) ls) k ↔ _
    unfold cutOneV wmem
    by_cases hs : wh s.f0 s.f1
    · rw [if_pos hs]
      obtain ⟨a1, a2⟩ := cutV_spec hs (Int.le_refl _) h
      obtain ⟨b1, b2⟩ := cutAllV_spec ls _ a1
      refine ⟨b1, fun k => ?_⟩
      rw [b2 k, a2 k]
      unfold wmem
      constructor
      · rintro ⟨⟨h, h'⟩, h2⟩
        refine ⟨h, ?_⟩
        rintro ⟨x, h1, h3⟩
        rcases List.mem_cons.1 h1 with rfl | h1
        · exact h' h3.2
        · exact h2 ⟨x, h1, h3⟩
      · rintro ⟨h, h'⟩
        exact ⟨⟨h, fun hk => h' ⟨s, List.mem_cons_self, hs, hk⟩⟩, fun ⟨x, h1, h2⟩ => h' ⟨x, List.mem_cons_of_mem _ h1, h2⟩⟩
    · rw [if_neg hs]
      obtain ⟨b1, b2⟩ := cutAllV_spec ls _ h
      refine ⟨b1, fun k => ?_⟩
      rw [b2 k]
      unfold wmem
      constructor
      · rintro ⟨h, h2⟩
        refine ⟨h, ?_⟩
        rintro ⟨x, h1, h3⟩
        rcases List.mem_cons.1 h1 with rfl | h1
        · exact hs h3.1
        · exact h2 ⟨x, h1, h3⟩
      · rintro ⟨h, h'⟩
        exact ⟨h, fun ⟨x, h1, h2⟩ => h' ⟨x, List.mem_cons_of_mem _ h1, h2⟩⟩
set_option maxRecDepth 100000 in
set_option maxHeartbeats 1600000 in
theorem runs_put (base g : Nat) (l ls : List S34) (A : Option Addr) (c : Nat) (w : World) (hT : Tidy 0 l) (h : RunsAt w base g l) (hbase : base ≤ w.heap.size) (hC : Kd.C k34 w A ls.length ls) (hne : Off A ls.length g) :
    Calls Try.prog 59 #[ptrR g, .slice A ls.length c] w fun e w' => e = .returned (.int .i64 (sumN (putV l ls) - sumN l)) ∧ RunsAt w' base g (putV l ls) ∧ Only w w' g := by
  have hln : ls.length ≤ 9223372036854775807 := by have := hC.2.1; unfold maxLen at this; omega
  have HT := Aside0.mk hT
  have H := Aside0.mk h
  have HC := Aside0.mk hC
  have Hne := Aside0.mk hne
  have Hbase := Aside0.mk hbase
  obtain ⟨s0, s1⟩ := hT.sum (by decide)
  clear h hT hC hne hbase
  go_enter Try.func59, Try.ntmps59
  go_wp2_with fail
  refine (runs_count base g l _ HT.out H.out).mono ?_
  rintro e w1 ⟨rfl, hB⟩
  have HO1 : Aside0 (Only w w1 g) := ⟨only_below (only_refl _ _) hB⟩
  have HR1 := Aside0.mk (H.out.keep hB)
  clear hB
  generalize hz : sumN l = z at *
  go_wp2_with fail
  go_loopg [14] ls.length (fun kq v wq => ∃ i : Nat, i + kq = ls.length ∧ v = .int .i64 (i : Int) ∧ Aside0 (Only w wq g) ∧ Aside0 (RunsAt wq base g (putV l (ls.take i))))
  case atStart => exact ⟨0, by omega, rfl, HO1, HR1⟩
  case round =>
    clear HO1 HR1
    obtain ⟨i, hi, rfl, HO, HR⟩ := hrel
    have HTi := Aside0.mk (putV_spec (ls.take i) l HT.out).1
    by_cases hlt : i < ls.length
    · obtain ⟨ad, e1, x0, x1⟩ := at_T34 (C_only HC.out HO.out Hne.out) (i : Int) (by omega) (by omega)
      subst e1
      rw [Int.toNat_natCast, rd_get ls i hlt] at x0 x1
      have hlt' : (i : Int) < (ls.length : Int) := by omega
      have hone : Aside0 (putV l (ls.take (i + 1)) = putOneV (putV l (ls.take i)) ls[i]) := ⟨foldl_snoc putOneV l ls i hlt⟩
      generalize ls[i] = X at *
      obtain ⟨F, M⟩ := X
      simp only at x0 x1
      have Hv := Aside0.mk (valid_eq F M 64 (by decide))
      obtain ⟨kk, rfl⟩ : ∃ z, gk = z + 1 := ⟨gk - 1, by omega⟩
      by_cases hw : wh F M
      · have Hv2 : Aside0 (span_Valid.f F M 64 = some true) := ⟨by rw [Hv.out, decide_eq_true ⟨hw, hw.2.2⟩]⟩
        have hone2 : Aside0 (putV l (ls.take (i + 1)) = addV (putV l (ls.take i)) ⟨F, M⟩) := ⟨by rw [hone.out]; unfold putOneV; rw [if_pos hw]⟩
        have Hw := Aside0.mk hw
        clear hw hone Hv
        go_wp2_with fail
        refine (span_Valid.calls F M 64 true _ Hv2.out).mono ?_
        rintro e w2 ⟨rfl, hB⟩
        have HX2 : Aside0 (Blk w2 wr.heap.size 34 #[.int .i64 F, .int .i64 M]) := ⟨(Blk.new wr _ _).keep hB⟩
        have HO2 : Aside0 (Only w w2 g) := ⟨only_below (only_alloc HO.out _) hB⟩
        have HR2 : Aside0 (RunsAt w2 base g (putV l (ls.take i))) := ⟨(HR.out.keep (below_alloc (Below.refl _ _) _)).keep hB⟩
        have c1 := HX2.out.cell (i := 0) rfl
        have c2 := HX2.out.cell (i := 1) rfl
        clear hB x0 x1
        go_wp2_with fail
        refine (runs_add base g _ F M _ HR2.out HTi.out Hw.out (by have := HO2.out.size; have := Hbase.out; omega)).mono ?_
        rintro e w3 ⟨rfl, hr, ho⟩
        have HO3 : Aside0 (Only w w3 g) := ⟨only_trans HO2.out ho⟩
        have HR3 := Aside0.mk hr
        clear hr ho c1 c2
        go_wp2_with fail
        go_roundg kk
        case measure => omega
        case rel => exact ⟨i + 1, by omega, by go_num, HO3, by rw [hone2.out]; exact HR3⟩
      · have Hv2 : Aside0 (span_Valid.f F M 64 = some false) := ⟨by rw [Hv.out, decide_eq_false (fun h => hw h.1)]⟩
        have hone2 : Aside0 (putV l (ls.take (i + 1)) = putV l (ls.take i)) := ⟨by rw [hone.out]; unfold putOneV; rw [if_neg hw]⟩
        clear hw hone Hv
        go_wp2_with fail
        refine (span_Valid.calls F M 64 false _ Hv2.out).mono ?_
        rintro e w2 ⟨rfl, hB⟩
        have HO2 : Aside0 (Only w w2 g) := ⟨only_below (only_alloc HO.out _) hB⟩
        have HR2 : Aside0 (RunsAt w2 base g (putV l (ls.take i))) := ⟨(HR.out.keep (below_alloc (Below.refl _ _) _)).keep hB⟩
        clear hB x0 x1
        go_wp2_with fail
        go_roundg kk
        case measure => omega
        case rel => exact ⟨i + 1, by omega, by go_num, HO2, by rw [hone2.out]; exact HR2⟩
    · have hlt' : ¬ (i : Int) < (ls.length : Int) := by omega
      obtain rfl : i = ls.length := by omega
      rw [List.take_length] at HR HTi
      go_wp2_with fail
      refine (runs_count base g _ _ HTi.out HR.out).mono ?_
      rintro e w2 ⟨rfl, hB⟩
      obtain ⟨t0, t1⟩ := HTi.out.sum (by decide)
      have HR2 := Aside0.mk (HR.out.keep hB)
      have HO2 : Aside0 (Only w w2 g) := ⟨only_below HO.out hB⟩
      clear hB
      generalize hy : sumN (putV l ls) = y at *
      go_wp2_with fail
      go_ret
      exact ⟨by rw [hz, hy]; rfl, HR2.out, HO2.out⟩
set_option maxRecDepth 100000 in
theorem runs_put_nil (v : Value) (w : World) :
    Calls Try.prog 59 #[.pointer none, v] w fun e w' => e = .returned (.int .i64 0) ∧ Below w.heap.size w w' := by
  go_enter Try.func59, Try.ntmps59
  go_wp2_with fail
  go_ret
  exact ⟨rfl, Below.refl _ _⟩
set_option maxRecDepth 100000 in
theorem runs_of (ls : List S34) (A : Option Addr) (c : Nat) (w : World) (hC : Kd.C k34 w A ls.length ls) :
    Calls Try.prog 58 #[.slice A ls.length c] w fun e w' => e = .returned (ptrR w.heap.size) ∧ RunsAt w' w.heap.size w.heap.size (putV [] ls) ∧ Below w.heap.size w w' := by
  have HC := Aside0.mk hC
  have Hne := Aside0.mk (off_lt hC (Nat.le_refl _))
  clear hC
  go_enter Try.func58, Try.ntmps58
  go_wp2_with fail
  refine (runs_put w.heap.size w.heap.size [] ls A c _ trivial ⟨_, Blk.new _ _ _, own_alloc (ORow.nil _ _) _⟩ (by simp) (Kd.C_below HC.out (below_alloc (Below.refl _ _) _)) Hne.out).mono ?_
  rintro e w1 ⟨rfl, hr, ho⟩
  have HR := Aside0.mk hr
  have HB : Aside0 (Below w.heap.size w w1) := ⟨below_only (below_alloc (Below.refl _ _) _) ho (Nat.le_refl _)⟩
  clear hr ho
  go_wp2_with fail
  go_ret
  exact ⟨rfl, HR.out, HB.out⟩
theorem cutV_snoc (l : List S34) (s : S34) (j : Nat) (h : j < l.length) : cutV (l.take (j + 1)) s = cutV (l.take j) s ++ lessV l[j].f0 l[j].f1 s.f0 s.f1 := by
  unfold cutV
  rw [List.take_succ_eq_append_getElem h, List.flatMap_append]; simp
theorem lessV_length (a m b n : Int) : (lessV a m b n).length ≤ 2 := by
  unfold lessV
  split
  · split
    · split <;> split <;> simp
    · simp
  · simp
theorem cutV_length {l : List S34} {s : S34} (hs : wh s.f0 s.f1) (h : Tidy 0 l) : (cutV l s).length ≤ 65 := by
  have := (cutV_spec hs (Int.le_refl _) h).1.length (by decide); omega
/-- What one span and one have in common is put in. -/
def meetStep (a : S34) (o : List S34) (b : S34) : List S34 :=
  if laps a.f0 a.f1 b.f0 b.f1 then addV o ⟨max a.f0 b.f0, min (a.f0 + a.f1) (b.f0 + b.f1) - max a.f0 b.f0⟩ else o
def meetAll (l' o : List S34) (a : S34) : List S34 := l'.foldl (meetStep a) o
def bothV (l l' : List S34) : List S34 := l.foldl (meetAll l') []
theorem laps_wh {a m b n : Int} (h : laps a m b n) : wh (max a b) (min (a + m) (b + n) - max a b) := by unfold laps wh at *; omega
theorem meetAll_spec (a : S34) (ha : wh a.f0 a.f1) : ∀ (l' o : List S34), Tidy 0 o → (∀ x ∈ l', wh x.f0 x.f1) → Tidy 0 (meetAll l' o a) ∧ ∀ k, mem (meetAll l' o a) k ↔ mem o k ∨ (inSp a k ∧ mem l' k)
  | [], o, h, _ => ⟨h, fun k => by show mem o k ↔ _; have := mem_nil k; simp [this]⟩
  | b :: l', o, h, hl => by
    show Tidy 0 (meetAll l' (meetStep a o b) a) ∧ ∀ k, mem (meetAll l' (meetStep a o b) a) k ↔ _
    have hb := hl b List.mem_cons_self
    unfold meetStep
    by_cases hs : laps a.f0 a.f1 b.f0 b.f1
    · rw [if_pos hs]
      obtain ⟨a1, a2⟩ := addV_spec (s := ⟨max a.f0 b.f0, min (a.f0 + a.f1) (b.f0 + b.f1) - max a.f0 b.f0⟩) h (laps_wh hs)
      obtain ⟨b1, b2⟩ := meetAll_spec a ha l' _ a1 (fun x hx => hl x (List.mem_cons_of_mem _ hx))
      refine ⟨b1, fun k => ?_⟩
      rw [b2 k, a2 k, mem_cons]
      unfold inSp; simp only
      constructor
      · rintro ((h | h) | h)
        · exact .inl h
        · exact .inr ⟨by omega, .inl (by omega)⟩
        · exact .inr ⟨h.1, .inr h.2⟩
      · rintro (h | ⟨h, h' | h'⟩)
        · exact .inl (.inl h)
        · exact .inl (.inr (by omega))
        · exact .inr ⟨h, h'⟩
    · rw [if_neg hs]
      obtain ⟨b1, b2⟩ := meetAll_spec a ha l' _ h (fun x hx => hl x (List.mem_cons_of_mem _ hx))
      refine ⟨b1, fun k => ?_⟩
      rw [b2 k, mem_cons]
      unfold laps at hs
      unfold inSp
      constructor
      · rintro (h | h)
        · exact .inl h
        · exact .inr ⟨h.1, .inr h.2⟩
      · rintro (h | ⟨h, h' | h'⟩)
        · exact .inl h
        · exact absurd ⟨ha, hb, by omega⟩ hs
        · exact .inr ⟨h, h'⟩
theorem bothGo_spec (l' : List S34) (hl' : ∀ x ∈ l', wh x.f0 x.f1) : ∀ (l o : List S34), Tidy 0 o → (∀ x ∈ l, wh x.f0 x.f1) → Tidy 0 (l.foldl (meetAll l') o) ∧ ∀ k, mem (l.foldl (meetAll l') o) k ↔ mem o k ∨ (mem l k ∧ mem l' k)
  | [], o, h, _ => ⟨h, fun k => by show mem o k ↔ _; have := mem_nil k; simp [this]⟩
  | a :: l, o, h, hl => by
    obtain ⟨a1, a2⟩ := meetAll_spec a (hl a List.mem_cons_self) l' o h hl'
    obtain ⟨b1, b2⟩ := bothGo_spec l' hl' l _ a1 (fun x hx => hl x (List.mem_cons_of_mem _ hx))
    refine ⟨b1, fun k => ?_⟩
    show mem (l.foldl (meetAll l') (meetAll l' o a)) k ↔ _
    rw [b2 k, a2 k, mem_cons]
    constructor
    · rintro ((h | h) | h)
      · exact .inl h
      · exact .inr ⟨.inl h.1, h.2⟩
      · exact .inr ⟨.inr h.1, h.2⟩
    · rintro (h | ⟨h | h, h'⟩)
      · exact .inl (.inl h)
      · exact .inl (.inr ⟨h, h'⟩)
      · exact .inr ⟨h, h'⟩
theorem bothV_spec {l l' : List S34} (h : Tidy 0 l) (h' : Tidy 0 l') : Tidy 0 (bothV l l') ∧ ∀ k, mem (bothV l l') k ↔ mem l k ∧ mem l' k := by
  obtain ⟨a, b⟩ := bothGo_spec l' (h'.whole (Int.le_refl _)) l [] trivial (h.whole (Int.le_refl _))
  exact ⟨a, fun k => by have := b k; have hn := mem_nil k; simp only [hn, false_or] at this; exact this⟩
end Go.Proofs.Ytmbigclkmclbdaa.Hand
namespace Go.Proofs.Ytmbigclkmclbdaa.Hand
open Go.RowKit Go.Proofs.YtmbigclkmclbdaaW.PrintWords Go.Proofs.YtmbigclkmclbdaaW.PrintLast Go.Proofs.YtmbigclkmclbdaaW.PrintMore Go.Proofs.Ytmbigclkmclbdaa.A
set_option linter.unusedVariables false
set_option linter.unusedSimpArgs false
attribute [local go_sem] max2_int min2_int max_two min_two max_three min_three max_four min_four
theorem none_C (w : World) : Kd.C k34 w none 0 [] := ⟨rfl, by decide, fun h => by omega⟩
theorem lit_C (w : World) (l : List S34) (hl : l.length ≤ 1000000) (cs : Array Value) (hcs : cs.toList = flat l) : Kd.C k34 (w.alloc (.cells cs 34)) (some ⟨w.heap.size, 0, none⟩) l.length l := by
  have h0 : ORow (w.alloc (.cells cs 34)) 0 (.slice (some ⟨w.heap.size, 0, none⟩) l.length l.length) l := by
    have h := World.ownsRow_lit (base := 0) (e := 34) (size := 2) w cs l.length (Nat.zero_le _) (by unfold maxLen; omega) (by rw [← Array.length_toList, hcs, flat_length])
    rw [hcs] at h
    exact h
  obtain ⟨A, c, he, _, hC, _⟩ := h0.reads
  injection he with he _ _
  rw [he]; exact hC
def ownS (x : S29) : S34 := ⟨x.f0, x.f1⟩
def spansX (l : List S29) : List S34 := putV [] (l.map ownS)
theorem spansX_snoc (l : List S29) (i : Nat) (h : i < l.length) : spansX (l.take (i + 1)) = putV (spansX (l.take i)) [⟨(rd_T29 l (i : Int)).f0, (rd_T29 l (i : Int)).f1⟩] := by
  have h1 : rd_T29 l (i : Int) = l[i] := by
    show l.getD _ _ = _
    rw [Int.toNat_natCast, List.getD_eq_getElem?_getD, List.getElem?_eq_getElem h]
    rfl
  unfold spansX putV
  rw [List.take_succ_eq_append_getElem h, List.map_append, List.foldl_append, h1]
  rfl
theorem spansX_tidy (l : List S29) : Tidy 0 (spansX l) := (putV_spec _ [] trivial).1
set_option maxRecDepth 100000 in
set_option maxHeartbeats 1600000 in
theorem spans_calls (A : Option Addr) (c : Nat) (l : List S29) (w : World) (hC : Kd.C k29 w A l.length l) :
    Calls Try.prog 21 #[.slice A l.length c] w fun e w' => ∃ v, e = .returned v ∧ ORow w' w.heap.size v (spansX l) ∧ Below w.heap.size w w' := by
  have hln : l.length ≤ 9223372036854775807 := by have := hC.2.1; unfold maxLen at this; omega
  have HC := Aside0.mk hC
  clear hC
  go_enter Try.func21, Try.ntmps21
  go_wp2_with fail
  refine (runs_of [] none 0 _ (none_C _)).mono ?_
  rintro e w1 ⟨rfl, hr, hB⟩
  have HB1 := Aside0.mk hB
  have HR1 : Aside0 (RunsAt w1 w.heap.size w.heap.size []) := ⟨hr⟩
  clear hr hB
  go_wp2_with fail
  go_loopg [9] l.length (fun kq v wq => ∃ i : Nat, i + kq = l.length ∧ v = .int .i64 (i : Int) ∧ Aside0 (Below w.heap.size w wq) ∧ Aside0 (RunsAt wq w.heap.size w.heap.size (spansX (l.take i))))
  case atStart => exact ⟨0, by omega, rfl, HB1, HR1⟩
  case round =>
    clear HB1 HR1
    obtain ⟨i, hi, rfl, HB, HR⟩ := hrel
    by_cases hlt : i < l.length
    · have hlt' : (i : Int) < (l.length : Int) := by omega
      have hs := Aside0.mk (spansX_snoc l i hlt)
      have hT := Aside0.mk (spansX_tidy (l.take i))
      obtain ⟨ad, e1, x0, x1, x2⟩ := at_T29 (Kd.C_below HC.out HB.out) (i : Int) (by omega) (by omega)
      subst e1
      rw [Int.toNat_natCast] at x0 x1 x2
      generalize rd_T29 l (i : Int) = X at *
      obtain ⟨F, M, D⟩ := X
      simp only at x0 x1 x2
      obtain ⟨kk, rfl⟩ : ∃ z, gk = z + 1 := ⟨gk - 1, by omega⟩
      go_wp2_with fail
      refine (extent_own.calls F M D F M _ rfl).mono ?_
      rintro e w3 ⟨rfl, hB⟩
      have HB3 := Aside0.mk (below_step (below_alloc HB.out _) hB)
      have HR3 := Aside0.mk ((HR.out.keep (below_alloc (Below.refl _ _) _)).keep hB)
      clear hB HB HR x0 x1 x2
      go_wp2_with fail
      refine (runs_put w.heap.size w.heap.size _ [⟨F, M⟩] (some ⟨w3.heap.size, 0, none⟩) 1 _ hT.out (HR3.out.keep (below_alloc (Below.refl _ _) _)) (below_size (below_alloc HB3.out _)) (lit_C w3 [⟨F, M⟩] (by simp) #[.int .i64 F, .int .i64 M] rfl) (fun _ a ha => by injection ha with ha; subst ha; have := HR3.out.lt; simp; omega)).mono ?_
      rintro e w4 ⟨rfl, hr, ho⟩
      have HB4 := Aside0.mk (below_only (below_alloc HB3.out _) ho (Nat.le_refl _))
      have HR4 := Aside0.mk hr
      clear hr ho HB3 HR3
      go_wp2_with fail
      go_roundg kk
      case measure => omega
      case rel => exact ⟨i + 1, by omega, by go_num, HB4, by rw [hs.out]; exact HR4⟩
    · have hlt' : ¬ (i : Int) < (l.length : Int) := by omega
      obtain rfl : i = l.length := by omega
      rw [List.take_length] at HR
      have hT := Aside0.mk (spansX_tidy l)
      go_wp2_with fail
      refine (runs_all w.heap.size w.heap.size _ (by have := hT.out.length (by decide); omega) _ HR.out).mono ?_
      rintro e w3 ⟨v, rfl, hr, hB⟩
      have HB3 := Aside0.mk (below_step HB.out hB)
      have HV := Aside0.mk (hr.lower HB.out.size)
      clear hr hB
      go_wp2_with fail
      go_ret
      exact ⟨_, rfl, HV.out, HB3.out⟩
end Go.Proofs.Ytmbigclkmclbdaa.Hand
namespace Go.Proofs.Ytmbigclkmclbdaa.ExtP
open Go.RowKit Go.Proofs.YtmbigclkmclbdaaW.PrintWords Go.Proofs.YtmbigclkmclbdaaW.PrintLast Go.Proofs.YtmbigclkmclbdaaW.PrintMore Go.Proofs.Ytmbigclkmclbdaa.A Go.Proofs.Ytmbigclkmclbdaa.Hand Go.Proofs.Ytmbigclkmclbdaa.Maps
set_option linter.unusedVariables false
set_option linter.unusedSimpArgs false
def cnt (p : Nat → Bool) : Nat → Int
  | 0 => 0
  | n + 1 => cnt p n + ((p n).toNat : Int)
theorem cnt_bound (p : Nat → Bool) : ∀ n, 0 ≤ cnt p n ∧ cnt p n ≤ n
  | 0 => by simp [cnt]
  | n + 1 => by
    have := cnt_bound p n
    show 0 ≤ cnt p n + ((p n).toNat : Int) ∧ cnt p n + ((p n).toNat : Int) ≤ _
    cases p n
    · show 0 ≤ cnt p n + 0 ∧ cnt p n + 0 ≤ _
      omega
    · show 0 ≤ cnt p n + 1 ∧ cnt p n + 1 ≤ _
      omega
theorem cnt_congr {p q : Nat → Bool} : ∀ n, (∀ k, k < n → p k = q k) → cnt p n = cnt q n
  | 0, _ => rfl
  | n + 1, h => by
    show cnt p n + ((p n).toNat : Int) = cnt q n + ((q n).toNat : Int)
    rw [cnt_congr n (fun k hk => h k (by omega)), h n (by omega)]
theorem cnt_or {p q : Nat → Bool} : ∀ n, (∀ k, k < n → p k = true → q k = true → False) → cnt (fun k => p k || q k) n = cnt p n + cnt q n
  | 0, _ => rfl
  | n + 1, h => by
    show cnt (fun k => p k || q k) n + (((p n || q n)).toNat : Int) = (cnt p n + ((p n).toNat : Int)) + (cnt q n + ((q n).toNat : Int))
    rw [cnt_or n (fun k hk => h k (by omega))]
    have h2 := h n (by omega)
    cases hp : p n <;> cases hq : q n <;> simp <;> first | omega | exact (h2 hp hq).elim
theorem cnt_none {p : Nat → Bool} : ∀ n, (∀ k, k < n → p k = false) → cnt p n = 0
  | 0, _ => rfl
  | n + 1, h => by
    show cnt p n + ((p n).toNat : Int) = 0
    rw [cnt_none n (fun k hk => h k (by omega)), h n (by omega)]; rfl
theorem cnt_int (a m : Int) (ha : 0 ≤ a) (hm : 0 ≤ m) : ∀ n : Nat, cnt (fun k => decide (a ≤ (k : Int) ∧ (k : Int) < a + m)) n = if (n : Int) ≤ a then 0 else if (n : Int) ≤ a + m then (n : Int) - a else m
  | 0 => by
    show (0 : Int) = _
    rw [if_pos (by omega)]
  | n + 1 => by
    show cnt (fun k => decide (a ≤ (k : Int) ∧ (k : Int) < a + m)) n + ((decide (a ≤ (n : Int) ∧ (n : Int) < a + m)).toNat : Int) = _
    rw [cnt_int a m ha hm n]
    by_cases h : a ≤ (n : Int) ∧ (n : Int) < a + m
    · rw [decide_eq_true h]
      simp only [Bool.toNat_true]
      (repeat' split) <;> omega
    · rw [decide_eq_false h]
      simp only [Bool.toNat_false]
      (repeat' split) <;> omega
theorem cnt_tidy : ∀ (l : List S34) (lo : Int), 0 ≤ lo → Tidy lo l → cnt (fun k => memB l (k : Int)) 64 = sumN l
  | [], lo, h0, h => by
    exact cnt_none 64 (fun k hk => rfl)
  | x :: l, lo, h0, h => by
    obtain ⟨h1, h2, h3, h4⟩ := h
    have ih := cnt_tidy l _ (by omega) h4
    have e : cnt (fun k => memB (x :: l) (k : Int)) 64 = cnt (fun k => decide (x.f0 ≤ (k : Int) ∧ (k : Int) < x.f0 + x.f1) || memB l (k : Int)) 64 := cnt_congr 64 fun k hk => by
      rw [Bool.eq_iff_iff, memB_iff, mem_cons, Bool.or_eq_true, decide_eq_true_eq, memB_iff]
      rfl
    rw [e, cnt_or 64 (fun k hk p q => by
      have p := of_decide_eq_true p
      have q := (Tidy.ge h4 ((memB_iff l (k : Int)).1 q)).1
      omega), cnt_int _ _ (by omega) (by omega), ih, sumN_cons, if_neg (by omega)]
    split <;> omega
def cntP (m : List Int) (n : Nat) : Int := cnt (fun k => decide (0 ≤ m.getD k 0)) n
def cntQ (m : List Int) (n : Nat) : Int := cnt (fun k => decide (0 < m.getD k 0)) n
theorem spans_mem {m : List Int} (hm : okM m) (k : Nat) (hk : k < 64) : memB (spansX (exM m)) (k : Int) = decide (0 ≤ m.getD k 0) := by
  rw [Bool.eq_iff_iff, memB_iff, decide_eq_true_eq]
  unfold spansX
  rw [(putV_spec _ [] trivial).2]
  unfold wmem
  have hal := exM_alone hm
  constructor
  · rintro (h | ⟨s, hs, _, h1, h2⟩)
    · exact absurd h (mem_nil _)
    · obtain ⟨x, hx, rfl⟩ := List.mem_map.1 hs
      have hx2 := un_has (hal x hx) h1 h2
      have hu : (⟨(k : Int), 1, if x.f2 = 0 then 0 else x.f2 + ((k : Int) - x.f0)⟩ : EX) ∈ um m := by
        rw [← Ul_exM hm]
        exact List.mem_flatMap.2 ⟨x, hx, hx2⟩
      have h3 := units_f0 m 64 _ hu
      have h4 := h3.2.2
      simp only [Int.toNat_natCast] at h4
      omega
  · intro h
    refine .inr ?_
    have hu := um_mem k hk h
    rw [← Ul_exM hm] at hu
    obtain ⟨x, hx, hx2⟩ := List.mem_flatMap.1 hu
    have h5 := un_mem (hal x hx) hx2
    obtain ⟨a1, a2, a3, _⟩ := hal x hx
    exact ⟨ownS x, List.mem_map.2 ⟨x, hx, rfl⟩, ⟨a1, a2, a3⟩, h5⟩
theorem spans_sum {m : List Int} (hm : okM m) : sumN (spansX (exM m)) = cntP m 64 := by
  rw [← cnt_tidy _ 0 (Int.le_refl _) (spansX_tidy _)]
  exact cnt_congr 64 fun k hk => spans_mem hm k hk
/-- How many blocks of the extents are stored. -/
def idsN (l : List EX) : Nat := (Ul l).countP fun u => decide (0 < u.f2)
theorem unA_pos (f id : Int) (h : 0 < id) : ∀ n : Nat, (unA f id n).countP (fun u => decide (0 < u.f2)) = n
  | 0 => rfl
  | n + 1 => by
    rw [unA_succ, List.countP_append, unA_pos f id h n, if_neg (by omega)]
    simp only [List.countP_cons, List.countP_nil]
    rw [if_pos (by rw [decide_eq_true_eq]; omega)]
theorem unA_zero (f : Int) : ∀ n : Nat, (unA f 0 n).countP (fun u => decide (0 < u.f2)) = 0
  | 0 => rfl
  | n + 1 => by
    rw [unA_succ, List.countP_append, unA_zero f n, if_pos rfl]
    rfl
theorem un_count (x : EX) (hx : alone x) : (un x).countP (fun u => decide (0 < u.f2)) = if x.f2 > 0 then x.f1.toNat else 0 := by
  unfold un
  by_cases h : x.f2 > 0
  · rw [if_pos h, unA_pos _ _ h]
  · have h0 : x.f2 = 0 := by have := hx.2.2.2.1; omega
    rw [if_neg h, h0, unA_zero]
theorem idsN_cons (x : EX) (l : List EX) (hx : alone x) : idsN (x :: l) = (if x.f2 > 0 then x.f1.toNat else 0) + idsN l := by
  show (un x ++ Ul l).countP _ = _
  rw [List.countP_append, un_count x hx]
  rfl
theorem idsN_snoc (l : List EX) (i : Nat) (h : i < l.length) (hal : ∀ x ∈ l, alone x) : idsN (l.take (i + 1)) = idsN (l.take i) + (if l[i].f2 > 0 then l[i].f1.toNat else 0) := by
  unfold idsN
  rw [List.take_succ_eq_append_getElem h, Ul_append, List.countP_append, Ul_one, un_count _ (hal _ (List.getElem_mem h))]
theorem units_count (m : List Int) : ∀ k, ((units m k).countP (fun u => decide (0 < u.f2)) : Int) = cntQ m k
  | 0 => rfl
  | k + 1 => by
    rw [units_succ, List.countP_append]
    have ih := units_count m k
    show _ = cntQ m k + ((decide (0 < m.getD k 0)).toNat : Int)
    rw [← ih]
    by_cases h : m.getD k 0 < 0
    · rw [if_pos h, decide_eq_false (by omega)]; simp
    · rw [if_neg h]
      by_cases h2 : 0 < m.getD k 0
      · rw [decide_eq_true h2, List.countP_cons, List.countP_nil, if_pos (decide_eq_true h2)]; rfl
      · rw [decide_eq_false h2, List.countP_cons, List.countP_nil, if_neg (fun h3 => h2 (of_decide_eq_true h3))]; rfl
theorem idsN_exM {m : List Int} (hm : okM m) : (idsN (exM m) : Int) = cntQ m 64 := by
  unfold idsN
  rw [Ul_exM hm]
  exact units_count m 64
theorem ids_l0 (l : List EX) (hl : ∀ x ∈ l, alone x) (hn : l.length ≤ 1000) (S : Nat → Nat) (T : Nat) (hS : ∀ i, (h : i < l.length) → S (i + 1) = S i + (if l[i].f2 > 0 then l[i].f1.toNat else 0)) (hT : S l.length = T) (d : Nat) : ∀ (k i : Nat) (out : List Int), i + d = l.length → out.length ≤ 64 * i → 70 * d + 5 < k →
    ∃ r, extent_Ids.l0 k out l (l.length : Int) (i : Int) = some r ∧ r.length + S i = out.length + T := by
  induction d with
  | zero =>
    intro k i out hi ho hk
    obtain ⟨k, rfl⟩ : ∃ m, k = m + 1 := ⟨k - 1, by omega⟩
    simp only [extent_Ids.l0]
    rw [if_neg (by omega)]
    refine ⟨out, rfl, ?_⟩
    rw [← hT, show i = l.length by omega]
  | succ d ih =>
    intro k i out hi ho hk
    obtain ⟨k, rfl⟩ : ∃ m, k = m + 1 := ⟨k - 1, by omega⟩
    have hw : wrap64 ((i : Int) + 1) = ((i + 1 : Nat) : Int) := by unfold wrap64; omega
    have hil : i < l.length := by omega
    have hsn := hS i hil
    simp only [extent_Ids.l0]
    rw [if_pos (by omega), if_pos (by omega), if_pos (by omega), rdT_at l i hil]
    obtain ⟨a1, a2, a3, a4, a5⟩ := hl _ (List.getElem_mem hil)
    have ihi := fun k out => ih k (i + 1) out
    clear ih hS hl hT
    generalize S (i + 1) = s1 at *
    generalize S i = s0 at *
    generalize l[i] = x at *
    obtain ⟨F, M, D⟩ := x
    simp only at a1 a2 a3 a4 a5 hsn ⊢
    have hwE : wrap64 (F + M) = F + M := w_id (by omega) (by omega)
    have inner : ∀ (e k j : Nat) (o : List Int), o.length + e ≤ 64 * (i + 1) → (j : Int) + e = F + M → D > 0 → 70 * d + 5 + e + 1 < k →
        ∃ r, extent_Ids.l1 k o (j : Int) l (l.length : Int) (i : Int) F M D = some r ∧ r.length + s1 = o.length + e + T := by
      intro e
      induction e with
      | zero =>
        intro k j o h1 h2 h3 h4
        obtain ⟨k, rfl⟩ : ∃ m, k = m + 1 := ⟨k - 1, by omega⟩
        simp only [extent_Ids.l1]
        rw [if_pos h3, hwE, if_neg (by omega), hw]
        obtain ⟨r, h5, h6⟩ := ihi k o (by omega) (by omega) (by omega)
        exact ⟨r, h5, by omega⟩
      | succ e ihe =>
        intro k j o h1 h2 h3 h4
        obtain ⟨k, rfl⟩ : ∃ m, k = m + 1 := ⟨k - 1, by omega⟩
        have hwj : wrap64 ((j : Int) + 1) = ((j + 1 : Nat) : Int) := by unfold wrap64; omega
        simp only [extent_Ids.l1]
        rw [if_pos h3, hwE, if_pos (by omega)]
        unfold extent_id.f
        rw [if_neg (by omega), Option.bind_some, if_pos (by omega), hwj]
        obtain ⟨r, h5, h6⟩ := ihe k (j + 1) (o ++ [wrap64 (wrap64 (D + (j : Int)) - F)]) (by rw [List.length_append, List.length_singleton]; omega) (by omega) h3 (by omega)
        refine ⟨r, h5, ?_⟩
        rw [List.length_append, List.length_singleton] at h6
        omega
    by_cases hx : D > 0
    · obtain ⟨j, rfl⟩ := Int.eq_ofNat_of_zero_le a1
      rw [if_pos hx] at hsn
      obtain ⟨r, h5, h6⟩ := inner M.toNat k j out (by omega) (by omega) hx (by omega)
      exact ⟨r, h5, by omega⟩
    · rw [if_neg hx] at hsn
      obtain ⟨k, rfl⟩ : ∃ m, k = m + 1 := ⟨k - 1, by omega⟩
      simp only [extent_Ids.l1]
      rw [if_neg hx, hw]
      obtain ⟨r, h5, h6⟩ := ihi k out (by omega) (by omega) (by omega)
      exact ⟨r, h5, by omega⟩
theorem ids_exM {m : List Int} (hm : okM m) (k : Nat) (hk : 4500 < k) : ∃ r, extent_Ids.f k (exM m) = some r ∧ (r.length : Int) = cntQ m 64 := by
  have hl := exM_length m
  obtain ⟨r, h1, h2⟩ := ids_l0 (exM m) (exM_alone hm) (by omega) (fun i => idsN ((exM m).take i)) (idsN (exM m)) (fun i h => idsN_snoc _ i h (exM_alone hm)) (by rw [List.take_length]) (exM m).length k 0 [] (by omega) (by simp) (by omega)
  refine ⟨r, h1, ?_⟩
  rw [← idsN_exM hm, ← Int.natCast_inj.mpr rfl]
  have h3 : r.length + 0 = 0 + idsN (exM m) := h2
  rw [show r.length = idsN (exM m) by rw [Nat.add_zero, Nat.zero_add] at h3; exact h3]
end Go.Proofs.Ytmbigclkmclbdaa.ExtP
