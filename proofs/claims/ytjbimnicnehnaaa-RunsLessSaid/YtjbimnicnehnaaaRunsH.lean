/- How many blocks a tidy list has. No program. -/
import Derived.Test.YtjbimnicnehnaaaRunsE
import Derived.Test.YtjbimnicnehnaaaRunsF
import Derived.Test.YtjbimnicnehnaaaCount
namespace Go.Proofs.Ytjbimnicnehnaaa.Hand
open Go.RowKit Go.Proofs.YtjbimnicnehnaaaW.PrintWords Go.Proofs.Ytjbimnicnehnaaa.A
set_option linter.unusedVariables false
set_option linter.unusedSimpArgs false
/-- How many of the first so many. -/
def cntB (f : Nat → Bool) : Nat → Nat
  | 0 => 0
  | n + 1 => cntB f n + (if f n = true then 1 else 0)
theorem cntB_congr {f g : Nat → Bool} : ∀ n, (∀ k, k < n → f k = g k) → cntB f n = cntB g n
  | 0, _ => rfl
  | n + 1, h => by unfold cntB; rw [cntB_congr n (fun k hk => h k (by omega)), h n (by omega)]
theorem cntB_add {f g h : Nat → Bool} : ∀ n, (∀ k, k < n → (f k = (g k || h k)) ∧ (g k && h k) = false) → cntB f n = cntB g n + cntB h n
  | 0, _ => rfl
  | n + 1, H => by
    unfold cntB
    rw [cntB_add n (fun k hk => H k (by omega))]
    obtain ⟨h1, h2⟩ := H n (by omega)
    rw [h1]
    cases hg : g n <;> cases hh : h n <;> rw [hg, hh] at h2 <;> simp at h2 ⊢ <;> omega
theorem cntB_none {f : Nat → Bool} : ∀ n, (∀ k, k < n → f k = false) → cntB f n = 0
  | 0, _ => rfl
  | n + 1, h => by unfold cntB; rw [cntB_none n (fun k hk => h k (by omega)), h n (by omega)]; rfl
theorem cntB_span (a m : Int) (ha : 0 ≤ a) (hm : 0 ≤ m) : ∀ n : Nat, ((cntB (fun k => decide (a ≤ (k : Int) ∧ (k : Int) < a + m)) n : Nat) : Int) = max 0 (min (n : Int) (a + m) - a)
  | 0 => by simp [cntB]; omega
  | n + 1 => by
    have ih := cntB_span a m ha hm n
    unfold cntB
    by_cases h : a ≤ (n : Int) ∧ (n : Int) < a + m
    · rw [if_pos (decide_eq_true h)]; omega
    · rw [if_neg (by simp only [decide_eq_true_eq]; exact h)]; omega
theorem sumN_cnt : ∀ {l : List S24} {lo : Int}, 0 ≤ lo → Tidy lo l → sumN l = ((cntB (fun k => memB l (k : Int)) 64 : Nat) : Int)
  | [], lo, _, _ => by rw [cntB_none (f := fun k : Nat => memB [] (k : Int)) 64 (fun k _ => rfl)]; rfl
  | x :: l, lo, h0, ⟨h1, h2, h3, h4⟩ => by
    have ih := sumN_cnt (l := l) (lo := x.f0 + x.f1 + 1) (by omega) h4
    have hs := cntB_span x.f0 x.f1 (by omega) (by omega) 64
    rw [sumN_cons, ih, cntB_add (f := fun k => memB (x :: l) (k : Int)) (g := fun k => decide (x.f0 ≤ (k : Int) ∧ (k : Int) < x.f0 + x.f1)) (h := fun k => memB l (k : Int)) 64 (fun k _ => ⟨rfl, by
      cases hm : memB l (k : Int)
      · simp
      · have := h4.ge ((memB_iff l _).1 hm)
        have : ¬ (x.f0 ≤ (k : Int) ∧ (k : Int) < x.f0 + x.f1) := by omega
        simp only [this, decide_false, Bool.false_and]⟩)]
    omega
theorem cntS_cntB (s : List Bool) : ∀ n, cntS s n = cntB (fun k => s.getD k false) n
  | 0 => rfl
  | n + 1 => by unfold cntS cntB; rw [cntS_cntB s n]
theorem memB_congr {l l' : List S24} {k : Int} (h : mem l k ↔ mem l' k) : memB l k = memB l' k := by
  rw [Bool.eq_iff_iff, memB_iff, memB_iff]; exact h
theorem sum_set {l : List S24} {s : List Bool} (h : Tidy 0 l) (hm : ∀ k : Nat, k < 64 → (mem l k ↔ s.getD k false = true)) : sumN l = ((cntS s 64 : Nat) : Int) := by
  rw [sumN_cnt (Int.le_refl _) h, cntS_cntB]
  exact congrArg Nat.cast (cntB_congr 64 (fun k hk => by rw [Bool.eq_iff_iff, memB_iff]; exact hm k hk))
theorem wmem_tidy {l : List S24} (h : Tidy 0 l) (k : Int) : wmem l k ↔ mem l k := ⟨fun ⟨x, h1, h2⟩ => ⟨x, h1, h2.2⟩, fun ⟨x, h1, h2⟩ => ⟨x, h1, h.whole (Int.le_refl _) x h1, h2⟩⟩
theorem putV_nil (ls : List S24) : Tidy 0 (putV [] ls) ∧ ∀ k, mem (putV [] ls) k ↔ wmem ls k := by
  obtain ⟨a, b⟩ := putV_spec ls [] trivial
  exact ⟨a, fun k => by have := b k; have hn := mem_nil k; simp only [hn, false_or] at this; exact this⟩
/-- What is cut out is what both had. -/
theorem cut_sum {l b : List S24} (h : Tidy 0 l) : sumN l - sumN (cutAllV l b) = sumN (bothV l (putV [] b)) := by
  obtain ⟨b1, b2⟩ := putV_nil b
  obtain ⟨c1, c2⟩ := cutAllV_spec b l h
  obtain ⟨d1, d2⟩ := bothV_spec h b1
  rw [sumN_cnt (Int.le_refl _) h, sumN_cnt (Int.le_refl _) c1, sumN_cnt (Int.le_refl _) d1]
  have := cntB_add (f := fun k => memB l (k : Int)) (g := fun k => memB (cutAllV l b) (k : Int)) (h := fun k => memB (bothV l (putV [] b)) (k : Int)) 64 (fun k _ => by
    have e1 := memB_iff l (k : Int)
    have e2 := memB_iff (cutAllV l b) (k : Int)
    have e3 := memB_iff (bothV l (putV [] b)) (k : Int)
    rw [c2] at e2
    rw [d2, b2] at e3
    cases h1 : memB l (k : Int) <;> cases h2 : memB (cutAllV l b) (k : Int) <;> cases h3 : memB (bothV l (putV [] b)) (k : Int) <;> simp only [h1, h2, h3, Bool.false_eq_true, false_iff, true_iff] at e1 e2 e3 <;> simp <;> simp_all)
  omega
theorem cut_both {l b : List S24} (h : Tidy 0 l) : bothV (cutAllV l b) (putV [] b) = [] := by
  obtain ⟨b1, b2⟩ := putV_nil b
  obtain ⟨c1, c2⟩ := cutAllV_spec b l h
  obtain ⟨d1, d2⟩ := bothV_spec c1 b1
  refine d1.ext (lo' := 0) trivial (fun k => ?_)
  rw [d2, c2, b2]
  have hn := mem_nil k
  simp only [hn, iff_false]
  rintro ⟨⟨_, h1⟩, h2⟩
  exact h1 h2
theorem cut_back {l b : List S24} (h : Tidy 0 l) : putV (cutAllV l b) (bothV l (putV [] b)) = l := by
  obtain ⟨b1, b2⟩ := putV_nil b
  obtain ⟨c1, c2⟩ := cutAllV_spec b l h
  obtain ⟨d1, d2⟩ := bothV_spec h b1
  obtain ⟨e1, e2⟩ := putV_spec (bothV l (putV [] b)) _ c1
  refine e1.ext h (fun k => ?_)
  rw [e2, wmem_tidy d1, d2, c2, b2]
  constructor
  · rintro (h | h)
    · exact h.1
    · exact h.1
  · intro hk
    by_cases hw : wmem b k
    · exact .inr ⟨hk, hw⟩
    · exact .inl ⟨hk, hw⟩
end Go.Proofs.Ytjbimnicnehnaaa.Hand
