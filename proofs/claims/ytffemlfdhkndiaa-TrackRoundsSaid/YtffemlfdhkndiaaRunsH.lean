/- How many blocks; the first call of chapter 2, walked. -/
import Derived.Test.YtffemlfdhkndiaaSetsB
import Derived.Test.YtffemlfdhkndiaaRunsD
import Derived.Test.YtffemlfdhkndiaaRunsD
import Derived.Test.YtffemlfdhkndiaaRunsB
import Derived.Test.YtffemlfdhkndiaaAx0
import Derived.Test.YtffemlfdhkndiaaAx1
namespace Go.Proofs.Ytffemlfdhkndiaa.Hand
open Go.RowKit Go.Proofs.YtffemlfdhkndiaaW.PrintWords Go.Proofs.YtffemlfdhkndiaaW.PrintLast Go.Proofs.YtffemlfdhkndiaaW.PrintMore Go.Proofs.Ytffemlfdhkndiaa.A
set_option linter.unusedVariables false
set_option linter.unusedSimpArgs false
attribute [local go_sem] max2_int min2_int max_two min_two max_three min_three max_four min_four
attribute [local go_sem high] eqA31
/-- How many of the first k. -/
def cntS (s : List Bool) : Nat → Nat
  | 0 => 0
  | k + 1 => cntS s k + (if s.getD k false = true then 1 else 0)
theorem cntS_le (s : List Bool) : ∀ k, cntS s k ≤ k
  | 0 => Nat.le_refl _
  | k + 1 => by have := cntS_le s k; unfold cntS; split <;> omega
set_option maxRecDepth 100000 in
theorem emulsionref1_Set_Count.calls (s : List Bool) (hs : Aside0 (s.length = 64)) (w : World) :
    Calls Try.prog 24 #[.agg (setArr s)] w fun e w' => e = .returned (.int .i64 ((cntS s 64 : Nat) : Int)) ∧ Below w.heap.size w w' := by
  go_enter Try.func24, Try.ntmps24
  go_wp2_with fail
  have HB0 : Aside0 (Below w.heap.size w (w.alloc (.cells (setArr s) 27))) := ⟨below_alloc (Below.refl _ _) _⟩
  have HX0 : Aside0 (Blk (w.alloc (.cells (setArr s) 27)) w.heap.size 27 (setArr s)) := ⟨Blk.new _ _ _⟩
  go_loopg [3, 4] 64 (fun kq u v wq => ∃ k : Nat, k + kq = 64 ∧ u = .int .i64 ((cntS s k : Nat) : Int) ∧ v = .int .i64 (k : Int) ∧ Aside0 (Below w.heap.size w wq) ∧ Aside0 (Blk wq w.heap.size 27 (setArr s)))
  case atStart => exact ⟨0, by omega, rfl, rfl, HB0, HX0⟩
  case round =>
    clear HB0 HX0
    obtain ⟨k, hk, rfl, rfl, HB, HX⟩ := hrel
    by_cases hlt : k < 64
    · have hlt' : (k : Int) < 64 := by omega
      have hk0 : (0 : Int) ≤ (k : Int) := by omega
      have hcl := cntS_le s k
      have hn1 : ((cntS s k : Nat) : Int) ≤ 64 := by omega
      have hn0 : (0 : Int) ≤ ((cntS s k : Nat) : Int) := by omega
      obtain ⟨kk, rfl⟩ : ∃ z, gk = z + 1 := ⟨gk - 1, by omega⟩
      have C0 := HX.out.cell (setArr_get s k (by have := hs.out; omega))
      have Hn : Aside0 (cntS s (k + 1) = cntS s k + (if s.getD k false = true then 1 else 0)) := ⟨rfl⟩
      generalize s.getD k false = bb at *
      generalize cntS s k = m at *
      cases bb
      · go_wp2_with fail
        go_roundg kk
        case measure => omega
        case rel => exact ⟨k + 1, by omega, by rw [Hn.out]; rfl, by go_num, HB, HX⟩
      · go_wp2_with fail
        go_roundg kk
        case measure => omega
        case rel => exact ⟨k + 1, by omega, by rw [Hn.out]; go_num, by go_num, HB, HX⟩
    · have hlt' : ¬ (k : Int) < 64 := by omega
      have hk64 : k = 64 := by omega
      subst hk64
      go_wp2_with fail
      go_ret
      exact ⟨rfl, HB.out⟩
/-- How many of the first so many. -/
def cntB (f : Nat → Bool) : Nat → Nat
  | 0 => 0
  | n + 1 => cntB f n + (if f n = true then 1 else 0)
theorem cntB_congr {f g : Nat → Bool} : ∀ n, (∀ k, k < n → f k = g k) → cntB f n = cntB g n
  | 0, _ => rfl
  | n + 1, h => by unfold cntB; rw [cntB_congr n (fun k hk => h k (by omega)), h n (by omega)]
theorem cntB_add {f g h : Nat → Bool} : ∀ n, (∀ k, k < n → (f k = (g k || h k)) ∧ (g k && h k) = false) → cntB f n = cntB g n + cntB h n
  | 0, _ => rfl
  | n + 1, H => by
    unfold cntB
    rw [cntB_add n (fun k hk => H k (by omega))]
    obtain ⟨h1, h2⟩ := H n (by omega)
    rw [h1]
    cases hg : g n <;> cases hh : h n <;> rw [hg, hh] at h2 <;> simp at h2 ⊢ <;> omega
theorem cntB_none {f : Nat → Bool} : ∀ n, (∀ k, k < n → f k = false) → cntB f n = 0
  | 0, _ => rfl
  | n + 1, h => by unfold cntB; rw [cntB_none n (fun k hk => h k (by omega)), h n (by omega)]; rfl
theorem cntB_span (a m : Int) (ha : 0 ≤ a) (hm : 0 ≤ m) : ∀ n : Nat, ((cntB (fun k => decide (a ≤ (k : Int) ∧ (k : Int) < a + m)) n : Nat) : Int) = max 0 (min (n : Int) (a + m) - a)
  | 0 => by simp [cntB]; omega
  | n + 1 => by
    have ih := cntB_span a m ha hm n
    unfold cntB
    by_cases h : a ≤ (n : Int) ∧ (n : Int) < a + m
    · rw [if_pos (decide_eq_true h)]; omega
    · rw [if_neg (by simp only [decide_eq_true_eq]; exact h)]; omega
theorem sumN_cnt : ∀ {l : List S31} {lo : Int}, 0 ≤ lo → Tidy lo l → sumN l = ((cntB (fun k => memB l (k : Int)) 64 : Nat) : Int)
  | [], lo, _, _ => by rw [cntB_none (f := fun k : Nat => memB [] (k : Int)) 64 (fun k _ => rfl)]; rfl
  | x :: l, lo, h0, ⟨h1, h2, h3, h4⟩ => by
    have ih := sumN_cnt (l := l) (lo := x.f0 + x.f1 + 1) (by omega) h4
    have hs := cntB_span x.f0 x.f1 (by omega) (by omega) 64
    rw [sumN_cons, ih, cntB_add (f := fun k => memB (x :: l) (k : Int)) (g := fun k => decide (x.f0 ≤ (k : Int) ∧ (k : Int) < x.f0 + x.f1)) (h := fun k => memB l (k : Int)) 64 (fun k _ => ⟨rfl, by
      cases hm : memB l (k : Int)
      · simp
      · have := h4.ge ((memB_iff l _).1 hm)
        have : ¬ (x.f0 ≤ (k : Int) ∧ (k : Int) < x.f0 + x.f1) := by omega
        simp only [this, decide_false, Bool.false_and]⟩)]
    omega
theorem cntS_cntB (s : List Bool) : ∀ n, cntS s n = cntB (fun k => s.getD k false) n
  | 0 => rfl
  | n + 1 => by unfold cntS cntB; rw [cntS_cntB s n]
theorem memB_congr {l l' : List S31} {k : Int} (h : mem l k ↔ mem l' k) : memB l k = memB l' k := by
  rw [Bool.eq_iff_iff, memB_iff, memB_iff]; exact h
theorem sum_set {l : List S31} {s : List Bool} (h : Tidy 0 l) (hm : ∀ k : Nat, k < 64 → (mem l k ↔ s.getD k false = true)) : sumN l = ((cntS s 64 : Nat) : Int) := by
  rw [sumN_cnt (Int.le_refl _) h, cntS_cntB]
  exact congrArg Nat.cast (cntB_congr 64 (fun k hk => by rw [Bool.eq_iff_iff, memB_iff]; exact hm k hk))
theorem wmem_tidy {l : List S31} (h : Tidy 0 l) (k : Int) : wmem l k ↔ mem l k := ⟨fun ⟨x, h1, h2⟩ => ⟨x, h1, h2.2⟩, fun ⟨x, h1, h2⟩ => ⟨x, h1, h.whole (Int.le_refl _) x h1, h2⟩⟩
theorem putV_nil (ls : List S31) : Tidy 0 (putV [] ls) ∧ ∀ k, mem (putV [] ls) k ↔ wmem ls k := by
  obtain ⟨a, b⟩ := putV_spec ls [] trivial
  exact ⟨a, fun k => by have := b k; have hn := mem_nil k; simp only [hn, false_or] at this; exact this⟩
/-- What is cut out is what both had. -/
theorem cut_sum {l b : List S31} (h : Tidy 0 l) : sumN l - sumN (cutAllV l b) = sumN (bothV l (putV [] b)) := by
  obtain ⟨b1, b2⟩ := putV_nil b
  obtain ⟨c1, c2⟩ := cutAllV_spec b l h
  obtain ⟨d1, d2⟩ := bothV_spec h b1
  rw [sumN_cnt (Int.le_refl _) h, sumN_cnt (Int.le_refl _) c1, sumN_cnt (Int.le_refl _) d1]
  have := cntB_add (f := fun k => memB l (k : Int)) (g := fun k => memB (cutAllV l b) (k : Int)) (h := fun k => memB (bothV l (putV [] b)) (k : Int)) 64 (fun k _ => by
    have e1 := memB_iff l (k : Int)
    have e2 := memB_iff (cutAllV l b) (k : Int)
    have e3 := memB_iff (bothV l (putV [] b)) (k : Int)
    rw [c2] at e2
    rw [d2, b2] at e3
    cases h1 : memB l (k : Int) <;> cases h2 : memB (cutAllV l b) (k : Int) <;> cases h3 : memB (bothV l (putV [] b)) (k : Int) <;> simp only [h1, h2, h3, Bool.false_eq_true, false_iff, true_iff] at e1 e2 e3 <;> simp <;> simp_all)
  omega
theorem cut_both {l b : List S31} (h : Tidy 0 l) : bothV (cutAllV l b) (putV [] b) = [] := by
  obtain ⟨b1, b2⟩ := putV_nil b
  obtain ⟨c1, c2⟩ := cutAllV_spec b l h
  obtain ⟨d1, d2⟩ := bothV_spec c1 b1
  refine d1.ext (lo' := 0) trivial (fun k => ?_)
  rw [d2, c2, b2]
  have hn := mem_nil k
  simp only [hn, iff_false]
  rintro ⟨⟨_, h1⟩, h2⟩
  exact h1 h2
theorem cut_back {l b : List S31} (h : Tidy 0 l) : putV (cutAllV l b) (bothV l (putV [] b)) = l := by
  obtain ⟨b1, b2⟩ := putV_nil b
  obtain ⟨c1, c2⟩ := cutAllV_spec b l h
  obtain ⟨d1, d2⟩ := bothV_spec h b1
  obtain ⟨e1, e2⟩ := putV_spec (bothV l (putV [] b)) _ c1
  refine e1.ext h (fun k => ?_)
  rw [e2, wmem_tidy d1, d2, c2, b2]
  constructor
  · rintro (h | h)
    · exact h.1
    · exact h.1
  · intro hk
    by_cases hw : wmem b k
    · exact .inr ⟨hk, hw⟩
    · exact .inl ⟨hk, hw⟩
theorem ORow.lit (w : World) (base : Nat) (hb : base ≤ w.heap.size) (l : List S31) (hl : l.length ≤ 1000000) (cs : Array Value) (hcs : cs.toList = flat l) : ORow (w.alloc (.cells cs 31)) base (.slice (some ⟨w.heap.size, 0, none⟩) l.length l.length) l := by
  have h := World.ownsRow_lit (base := base) (e := 31) (size := 2) w cs l.length hb (by unfold maxLen; omega) (by rw [← Array.length_toList, hcs, flat_length])
  rw [hcs] at h
  exact h
theorem C_lit (w : World) (l : List S31) (hl : l.length ≤ 1000000) (cs : Array Value) (hcs : cs.toList = flat l) : Kd.C k31 (w.alloc (.cells cs 31)) (some ⟨w.heap.size, 0, none⟩) l.length l := by
  obtain ⟨A, c, he, _, hC, _⟩ := (ORow.lit w 0 (Nat.zero_le _) l hl cs hcs).reads
  injection he with he _ _
  rw [he]; exact hC
end Go.Proofs.Ytffemlfdhkndiaa.Hand
