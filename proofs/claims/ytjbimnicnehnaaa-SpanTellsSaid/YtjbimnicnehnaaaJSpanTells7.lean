/- Parts of the proof for SpanTells: RunsB, RunsD, RunsH, Alg, Kept. -/
import Derived.Lib.SliceRun
import Derived.Test.YtjbimnicnehnaaaJSpanTells4
import Derived.Test.YtjbimnicnehnaaaJSpanTells2
import Derived.Test.YtjbimnicnehnaaaJSpanTells3
import Derived.Test.YtjbimnicnehnaaaJSpanTells6
section
namespace Go.Proofs.Ytjbimnicnehnaaa.Hand
open Go.RowKit Go.Proofs.YtjbimnicnehnaaaW.PrintWords Go.Proofs.YtjbimnicnehnaaaW.PrintLast Go.Proofs.YtjbimnicnehnaaaW.PrintMore Go.Proofs.Ytjbimnicnehnaaa.A
set_option linter.unusedVariables false
set_option linter.unusedSimpArgs false
attribute [local go_sem] max2_int min2_int max_two min_two max_three min_three max_four min_four
instance (x : S24) (k : Int) : Decidable (inSp x k) := by unfold inSp; infer_instance
/-- Whether a block is in one of them. -/
def memB (l : List S24) (k : Int) : Bool := l.any fun x => decide (inSp x k)
theorem memB_iff (l : List S24) (k : Int) : memB l k = true ↔ mem l k := by
  unfold memB mem
  rw [List.any_eq_true]
  constructor
  · rintro ⟨x, h, hk⟩
    exact ⟨x, h, of_decide_eq_true hk⟩
  · rintro ⟨x, h, hk⟩
    exact ⟨x, h, decide_eq_true hk⟩
end Go.Proofs.Ytjbimnicnehnaaa.Hand
end
section
namespace Go.Proofs.Ytjbimnicnehnaaa.Hand
open Go.RowKit Go.Proofs.YtjbimnicnehnaaaW.PrintWords Go.Proofs.YtjbimnicnehnaaaW.PrintLast Go.Proofs.YtjbimnicnehnaaaW.PrintMore Go.Proofs.Ytjbimnicnehnaaa.A
set_option linter.unusedVariables false
set_option linter.unusedSimpArgs false
attribute [local go_sem] max2_int min2_int max_two min_two max_three min_three max_four min_four
theorem add_block (a : Addr) (j : Nat) : (a.add j).block = a.block := by unfold Addr.add; split <;> rfl
theorem lessV_length (a m b n : Int) : (lessV a m b n).length ≤ 2 := by
  unfold lessV
  split
  · split
    · split <;> split <;> simp
    · simp
  · simp
theorem laps_wh {a m b n : Int} (h : laps a m b n) : wh (max a b) (min (a + m) (b + n) - max a b) := by unfold laps wh at *; omega
end Go.Proofs.Ytjbimnicnehnaaa.Hand
end
section
namespace Go.Proofs.Ytjbimnicnehnaaa.Hand
open Go.RowKit Go.Proofs.YtjbimnicnehnaaaW.PrintWords Go.Proofs.YtjbimnicnehnaaaW.PrintLast Go.Proofs.YtjbimnicnehnaaaW.PrintMore Go.Proofs.Ytjbimnicnehnaaa.A
set_option linter.unusedVariables false
set_option linter.unusedSimpArgs false
attribute [local go_sem] max2_int min2_int max_two min_two max_three min_three max_four min_four
attribute [local go_sem high] eqA24
/-- How many of the first k. -/
def cntS (s : List Bool) : Nat → Nat
  | 0 => 0
  | k + 1 => cntS s k + (if s.getD k false = true then 1 else 0)
theorem cntS_le (s : List Bool) : ∀ k, cntS s k ≤ k
  | 0 => Nat.le_refl _
  | k + 1 => by have := cntS_le s k; unfold cntS; split <;> omega
set_option maxRecDepth 100000 in
theorem emulsionref1_Set_Count.calls (s : List Bool) (hs : Aside0 (s.length = 64)) (w : World) :
    Calls Try.prog 25 #[.agg (setArr s)] w fun e w' => e = .returned (.int .i64 ((cntS s 64 : Nat) : Int)) ∧ Below w.heap.size w w' := by
  go_enter Try.func25, Try.ntmps25
  go_wp2_with fail
  have HB0 : Aside0 (Below w.heap.size w (w.alloc (.cells (setArr s) 30))) := ⟨below_alloc (Below.refl _ _) _⟩
  have HX0 : Aside0 (Blk (w.alloc (.cells (setArr s) 30)) w.heap.size 30 (setArr s)) := ⟨Blk.new _ _ _⟩
  go_loopg [3, 4] 64 (fun kq u v wq => ∃ k : Nat, k + kq = 64 ∧ u = .int .i64 ((cntS s k : Nat) : Int) ∧ v = .int .i64 (k : Int) ∧ Aside0 (Below w.heap.size w wq) ∧ Aside0 (Blk wq w.heap.size 30 (setArr s)))
  case atStart => exact ⟨0, by omega, rfl, rfl, HB0, HX0⟩
  case round =>
    clear HB0 HX0
    obtain ⟨k, hk, rfl, rfl, HB, HX⟩ := hrel
    by_cases hlt : k < 64
    · have hlt' : (k : Int) < 64 := by omega
      have hk0 : (0 : Int) ≤ (k : Int) := by omega
      have hcl := cntS_le s k
      have hn1 : ((cntS s k : Nat) : Int) ≤ 64 := by omega
      have hn0 : (0 : Int) ≤ ((cntS s k : Nat) : Int) := by omega
      obtain ⟨kk, rfl⟩ : ∃ z, gk = z + 1 := ⟨gk - 1, by omega⟩
      have C0 := HX.out.cell (setArr_get s k (by have := hs.out; omega))
      have Hn : Aside0 (cntS s (k + 1) = cntS s k + (if s.getD k false = true then 1 else 0)) := ⟨rfl⟩
      generalize s.getD k false = bb at *
      generalize cntS s k = m at *
      cases bb
      · go_wp2_with fail
        go_roundg kk
        case measure => omega
        case rel => exact ⟨k + 1, by omega, by rw [Hn.out]; rfl, by go_num, HB, HX⟩
      · go_wp2_with fail
        go_roundg kk
        case measure => omega
        case rel => exact ⟨k + 1, by omega, by rw [Hn.out]; go_num, by go_num, HB, HX⟩
    · have hlt' : ¬ (k : Int) < 64 := by omega
      have hk64 : k = 64 := by omega
      subst hk64
      go_wp2_with fail
      go_ret
      exact ⟨rfl, HB.out⟩
/-- How many of the first so many. -/
def cntB (f : Nat → Bool) : Nat → Nat
  | 0 => 0
  | n + 1 => cntB f n + (if f n = true then 1 else 0)
theorem cntB_congr {f g : Nat → Bool} : ∀ n, (∀ k, k < n → f k = g k) → cntB f n = cntB g n
  | 0, _ => rfl
  | n + 1, h => by unfold cntB; rw [cntB_congr n (fun k hk => h k (by omega)), h n (by omega)]
theorem cntB_add {f g h : Nat → Bool} : ∀ n, (∀ k, k < n → (f k = (g k || h k)) ∧ (g k && h k) = false) → cntB f n = cntB g n + cntB h n
  | 0, _ => rfl
  | n + 1, H => by
    unfold cntB
    rw [cntB_add n (fun k hk => H k (by omega))]
    obtain ⟨h1, h2⟩ := H n (by omega)
    rw [h1]
    cases hg : g n <;> cases hh : h n <;> rw [hg, hh] at h2 <;> simp at h2 ⊢ <;> omega
theorem cntB_none {f : Nat → Bool} : ∀ n, (∀ k, k < n → f k = false) → cntB f n = 0
  | 0, _ => rfl
  | n + 1, h => by unfold cntB; rw [cntB_none n (fun k hk => h k (by omega)), h n (by omega)]; rfl
theorem cntB_span (a m : Int) (ha : 0 ≤ a) (hm : 0 ≤ m) : ∀ n : Nat, ((cntB (fun k => decide (a ≤ (k : Int) ∧ (k : Int) < a + m)) n : Nat) : Int) = max 0 (min (n : Int) (a + m) - a)
  | 0 => by simp [cntB]; omega
  | n + 1 => by
    have ih := cntB_span a m ha hm n
    unfold cntB
    by_cases h : a ≤ (n : Int) ∧ (n : Int) < a + m
    · rw [if_pos (decide_eq_true h)]; omega
    · rw [if_neg (by simp only [decide_eq_true_eq]; exact h)]; omega
theorem sumN_cnt : ∀ {l : List S24} {lo : Int}, 0 ≤ lo → Tidy lo l → sumN l = ((cntB (fun k => memB l (k : Int)) 64 : Nat) : Int)
  | [], lo, _, _ => by rw [cntB_none (f := fun k : Nat => memB [] (k : Int)) 64 (fun k _ => rfl)]; rfl
  | x :: l, lo, h0, ⟨h1, h2, h3, h4⟩ => by
    have ih := sumN_cnt (l := l) (lo := x.f0 + x.f1 + 1) (by omega) h4
    have hs := cntB_span x.f0 x.f1 (by omega) (by omega) 64
    rw [sumN_cons, ih, cntB_add (f := fun k => memB (x :: l) (k : Int)) (g := fun k => decide (x.f0 ≤ (k : Int) ∧ (k : Int) < x.f0 + x.f1)) (h := fun k => memB l (k : Int)) 64 (fun k _ => ⟨rfl, by
      cases hm : memB l (k : Int)
      · simp
      · have := h4.ge ((memB_iff l _).1 hm)
        have : ¬ (x.f0 ≤ (k : Int) ∧ (k : Int) < x.f0 + x.f1) := by omega
        simp only [this, decide_false, Bool.false_and]⟩)]
    omega
theorem cntS_cntB (s : List Bool) : ∀ n, cntS s n = cntB (fun k => s.getD k false) n
  | 0 => rfl
  | n + 1 => by unfold cntS cntB; rw [cntS_cntB s n]
theorem sum_set {l : List S24} {s : List Bool} (h : Tidy 0 l) (hm : ∀ k : Nat, k < 64 → (mem l k ↔ s.getD k false = true)) : sumN l = ((cntS s 64 : Nat) : Int) := by
  rw [sumN_cnt (Int.le_refl _) h, cntS_cntB]
  exact congrArg Nat.cast (cntB_congr 64 (fun k hk => by rw [Bool.eq_iff_iff, memB_iff]; exact hm k hk))
theorem ORow.lit (w : World) (base : Nat) (hb : base ≤ w.heap.size) (l : List S24) (hl : l.length ≤ 1000000) (cs : Array Value) (hcs : cs.toList = flat l) : ORow (w.alloc (.cells cs 24)) base (.slice (some ⟨w.heap.size, 0, none⟩) l.length l.length) l := by
  have h := World.ownsRow_lit (base := base) (e := 24) (size := 2) w cs l.length hb (by unfold maxLen; omega) (by rw [← Array.length_toList, hcs, flat_length])
  rw [hcs] at h
  exact h
theorem C_lit (w : World) (l : List S24) (hl : l.length ≤ 1000000) (cs : Array Value) (hcs : cs.toList = flat l) : Kd.C k24 (w.alloc (.cells cs 24)) (some ⟨w.heap.size, 0, none⟩) l.length l := by
  obtain ⟨A, c, he, _, hC, _⟩ := (ORow.lit w 0 (Nat.zero_le _) l hl cs hcs).reads
  injection he with he _ _
  rw [he]; exact hC
end Go.Proofs.Ytjbimnicnehnaaa.Hand
end
section
namespace Go.Proofs.Ytjbimnicnehnaaa.Hand
open Go.RowKit Go.Proofs.YtjbimnicnehnaaaW.PrintWords Go.Proofs.YtjbimnicnehnaaaW.PrintLast Go.Proofs.YtjbimnicnehnaaaW.PrintMore Go.Proofs.Ytjbimnicnehnaaa.A
set_option linter.unusedVariables false
set_option linter.unusedSimpArgs false
theorem putS_len (s : List Bool) (a : List S24) (on : Bool) (hs : s.length = 64) : (putS s a on).length = 64 := (putS_length a on s).trans hs
theorem spans_mem (s : List Bool) (k : Nat) (hk : k < 64) : mem (spansOf s) (k : Int) ↔ s.getD k false = true := by
  rw [spansOf_mem, Int.toNat_natCast]
  exact ⟨fun h => h.2.2, fun h => ⟨by omega, by omega, h⟩⟩
/-- What two sets have in common. -/
def andS (s t : List Bool) : List Bool := (List.range 64).map fun k => s.getD k false && t.getD k false
theorem andS_length (s t : List Bool) : (andS s t).length = 64 := by unfold andS; simp
theorem andS_get (s t : List Bool) (k : Nat) (hk : k < 64) : (andS s t).getD k false = (s.getD k false && t.getD k false) := by
  unfold andS
  rw [List.getD_eq_getElem?_getD, List.getElem?_map, List.getElem?_range hk]; rfl
theorem bools_ext {s t : List Bool} (hs : s.length = 64) (ht : t.length = 64) (h : ∀ k, k < 64 → (s.getD k false = true ↔ t.getD k false = true)) : s = t := by
  apply List.ext_getElem (by omega)
  intro k h1 h2
  have a := h k (by omega)
  rw [List.getD_eq_getElem?_getD, List.getD_eq_getElem?_getD, List.getElem?_eq_getElem h1, List.getElem?_eq_getElem h2] at a
  revert a
  show (s[k] = true ↔ t[k] = true) → _
  cases s[k] <;> cases t[k] <;> simp
theorem spans_sum (s : List Bool) : sumN (spansOf s) = ((cntS s 64 : Nat) : Int) := sum_set (spansOf_tidy s) (fun k hk => spans_mem s k hk)
theorem set_cnt (s : List Bool) (n : Nat) (hs : s.length = 64) (hn : cntS s 64 = n) (w : World) :
    Calls Try.prog 25 #[.agg (setArr s)] w fun e w' => e = .returned (.int .i64 (n : Int)) ∧ Below w.heap.size w w' := by
  refine (emulsionref1_Set_Count.calls s ⟨hs⟩ w).mono ?_
  rintro e w' ⟨rfl, hB⟩
  exact ⟨by rw [hn], hB⟩
/-- The first so many places as told, the others as they were. -/
def upS (f : Nat → Bool) (b : List Bool) (k : Nat) : List Bool := (List.range 64).map fun j => if j < k then f j else b.getD j false
theorem upS_length (f : Nat → Bool) (b : List Bool) (k : Nat) : (upS f b k).length = 64 := by unfold upS; simp
theorem upS_zero (f : Nat → Bool) (b : List Bool) (hb : b.length = 64) : upS f b 0 = b := by
  apply List.ext_getElem?
  intro j
  by_cases hj : j < 64
  · unfold upS
    rw [List.getElem?_map, List.getElem?_range hj, List.getElem?_eq_getElem (by omega)]
    simp [List.getD_eq_getElem?_getD, List.getElem?_eq_getElem (show j < b.length by omega)]
  · rw [List.getElem?_eq_none (by rw [upS_length]; omega), List.getElem?_eq_none (by omega)]
theorem upS_step (f : Nat → Bool) (b : List Bool) (k : Nat) (hk : k < 64) : (upS f b k).set k (f k) = upS f b (k + 1) := by
  apply List.ext_getElem?
  intro j
  rw [List.getElem?_set]
  by_cases hj : j < 64
  · unfold upS
    rw [List.getElem?_map, List.getElem?_map, List.getElem?_range hj]
    by_cases e : k = j
    · subst e
      simp [hk]
    · rw [if_neg e]
      by_cases h : j < k
      · simp [h, show j < k + 1 by omega]
      · simp [h, show ¬ j < k + 1 by omega]
  · rw [if_neg (by omega), List.getElem?_eq_none (by rw [upS_length]; omega), List.getElem?_eq_none (by rw [upS_length]; omega)]
theorem upS_all (f : Nat → Bool) (b : List Bool) : upS f b 64 = (List.range 64).map f := by
  unfold upS
  apply List.map_congr_left
  intro j hj
  rw [if_pos (List.mem_range.1 hj)]
end Go.Proofs.Ytjbimnicnehnaaa.Hand
end
section
namespace Go.Proofs.Ytjbimnicnehnaaa.Hand
open Go.RowKit Go.Proofs.YtjbimnicnehnaaaW.PrintWords Go.Proofs.YtjbimnicnehnaaaW.PrintLast Go.Proofs.YtjbimnicnehnaaaW.PrintMore Go.Proofs.Ytjbimnicnehnaaa.A
set_option linter.unusedVariables false
set_option linter.unusedSimpArgs false
/-- No block of a row is free. -/
def Taken (F : Nat → Prop) (x : Value) : Prop := ∀ k, x.ownBlock = some k → ¬ F k
/-- A book: its lists of ints, spans, extents. -/
def KeptAt (w : World) (base g : Nat) (F : Nat → Prop) (LI : List (List Int)) (LS : List (List S24)) (LE : List (List S108)) : Prop :=
  ∃ VI UI VS US VE UE vi ui vs us ve ue, Blk w g 47 (bookC VI UI VS US VE UE) ∧ base ≤ g ∧ Pile (Kd.int .i64) 3 91 w base VI UI vi ui LI ∧ Pile k24 24 31 w base VS US vs us LS ∧ Pile k108 108 93 w base VE UE ve ue LE ∧ (∀ x ∈ vi ++ ui, Taken F x) ∧ (∀ x ∈ vs ++ us, Taken F x) ∧ (∀ x ∈ ve ++ ue, Taken F x)
section
variable {w w1 : World} {base g : Nat} {F F' : Nat → Prop} {LI : List (List Int)} {LS : List (List S24)} {LE : List (List S108)}
theorem Taken.mono {x : Value} (h : Taken F x) (hF : ∀ k, F' k → F k) : Taken F' x := fun k hk hf => h k hk (hF k hf)
theorem KeptAt.mono (h : KeptAt w base g F LI LS LE) (hF : ∀ k, F' k → F k) : KeptAt w base g F' LI LS LE := by
  obtain ⟨VI, UI, VS, US, VE, UE, vi, ui, vs, us, ve, ue, hb, hg, h1, h2, h3, f1, f2, f3⟩ := h
  exact ⟨VI, UI, VS, US, VE, UE, vi, ui, vs, us, ve, ue, hb, hg, h1, h2, h3, fun x hx => (f1 x hx).mono hF, fun x hx => (f2 x hx).mono hF, fun x hx => (f3 x hx).mono hF⟩
theorem KeptAt.below (h : KeptAt w base g F LI LS LE) (hB : Below w.heap.size w w1) : KeptAt w1 base g F LI LS LE := by
  obtain ⟨VI, UI, VS, US, VE, UE, vi, ui, vs, us, ve, ue, hb, hg, h1, h2, h3, f⟩ := h
  exact ⟨VI, UI, VS, US, VE, UE, vi, ui, vs, us, ve, ue, hb.keep hB, hg, h1.below hB, h2.below hB, h3.below hB, f⟩
theorem KeptAt.keep (h : KeptAt w base g F LI LS LE) (hB : Below w.heap.size w w1) : KeptAt w1 base g F LI LS LE := h.below hB
theorem KeptAt.book (h : KeptAt w base g F LI LS LE) : ∃ cs, Blk w g 47 cs := by
  obtain ⟨VI, UI, VS, US, VE, UE, vi, ui, vs, us, ve, ue, hb, _⟩ := h
  exact ⟨_, hb⟩
theorem KeptAt.lt (h : KeptAt w base g F LI LS LE) : g < w.heap.size := by
  obtain ⟨cs, hb⟩ := h.book
  exact hb.lt
theorem KeptAt.ge (h : KeptAt w base g F LI LS LE) : base ≤ g := by
  obtain ⟨VI, UI, VS, US, VE, UE, vi, ui, vs, us, ve, ue, hb, hg, _⟩ := h
  exact hg
theorem pile_lt {α : Type} {d : Kd α} {e eL : Nat} {V U : Value} {vs us : List Value} {L : List (List α)} (h : Pile d e eL w base V U vs us L) : ∀ x ∈ vs ++ us, ∀ k, x.ownBlock = some k → base ≤ k ∧ k < w.heap.size := by
  intro x hx k hk
  rcases List.mem_append.1 hx with hx | hx
  · exact h.rv.lt hx hk
  · exact h.ru.lt hx hk
theorem KeptAt.top (h : KeptAt w base g F LI LS LE) : KeptAt w base g (fun k => w.heap.size ≤ k) LI LS LE := by
  obtain ⟨VI, UI, VS, US, VE, UE, vi, ui, vs, us, ve, ue, hb, hg, h1, h2, h3, f1, f2, f3⟩ := h
  exact ⟨VI, UI, VS, US, VE, UE, vi, ui, vs, us, ve, ue, hb, hg, h1, h2, h3, fun x hx k hk hf => by have := (pile_lt h1 x hx k hk).2; omega, fun x hx k hk hf => by have := (pile_lt h2 x hx k hk).2; omega, fun x hx k hk hf => by have := (pile_lt h3 x hx k hk).2; omega⟩
/-- Blocks of other types have turned. -/
theorem KeptAt.types (h : KeptAt w base g F LI LS LE) (hm : ∀ k cs t, (t = 3 ∨ t = 91 ∨ t = 24 ∨ t = 31 ∨ t = 108 ∨ t = 93 ∨ t = 47) → base ≤ k → Blk w k t cs → Blk w1 k t cs) : KeptAt w1 base g F LI LS LE := by
  obtain ⟨VI, UI, VS, US, VE, UE, vi, ui, vs, us, ve, ue, hb, hg, h1, h2, h3, f⟩ := h
  refine ⟨VI, UI, VS, US, VE, UE, vi, ui, vs, us, ve, ue, hm _ _ _ (by simp) hg hb, hg, h1.keepT rfl (fun k cs t hk ht hbk => ?_), h2.keepT rfl (fun k cs t hk ht hbk => ?_), h3.keepT rfl (fun k cs t hk ht hbk => ?_), f⟩
  · exact (hm k cs t (by rcases ht with rfl | rfl <;> simp) hbk hk).trans hk.symm
  · exact (hm k cs t (by rcases ht with rfl | rfl <;> simp) hbk hk).trans hk.symm
  · exact (hm k cs t (by rcases ht with rfl | rfl <;> simp) hbk hk).trans hk.symm
theorem KeptAt.only {g' t : Nat} {cs : Array Value} (h : KeptAt w base g F LI LS LE) (ho : Only w w1 g') (hb : Blk w g' t cs) (ht : t ≠ 3 ∧ t ≠ 91 ∧ t ≠ 24 ∧ t ≠ 31 ∧ t ≠ 108 ∧ t ≠ 93 ∧ t ≠ 47) : KeptAt w1 base g F LI LS LE := by
  refine h.types (fun k cs' t' ht' _ hk => hk.only ho (fun e => ?_))
  subst e
  have hq := hb.hd.symm.trans hk.hd
  injection hq with hq; injection hq with _ hq
  subst hq
  rcases ht' with h | h | h | h | h | h | h
  · exact ht.1 h
  · exact ht.2.1 h
  · exact ht.2.2.1 h
  · exact ht.2.2.2.1 h
  · exact ht.2.2.2.2.1 h
  · exact ht.2.2.2.2.2.1 h
  · exact ht.2.2.2.2.2.2 h
theorem KeptAt.new (w : World) (base : Nat) (hb : base ≤ w.heap.size) : KeptAt (w.alloc (.cells (bookC (.slice none 0 0) (.slice none 0 0) (.slice none 0 0) (.slice none 0 0) (.slice none 0 0) (.slice none 0 0)) 47)) base w.heap.size (fun _ => True) [] [] [] :=
  ⟨_, _, _, _, _, _, [], [], [], [], [], [], Blk.new _ _ _, hb, Pile.nil _ _ _ _ _, Pile.nil _ _ _ _ _, Pile.nil _ _ _ _ _, by simp, by simp, by simp⟩
/-- What a book's method leaves of the rest. -/
theorem BookFx.blkT {LT k t t' : Nat} {cs cs' : Array Value} (h : BookFx LT g base w w1) (hg : Blk w g t cs) (hb : Blk w k t' cs') (h1 : t' ≠ LT) (h2 : t' ≠ t) : Blk w1 k t' cs' :=
  h.blk hb h1 (fun e => by
    subst e
    have hq := hg.hd.symm.trans hb.hd
    injection hq with hq; injection hq with _ hq
    exact h2 hq.symm)
theorem BookFx.own {LT b e n m t : Nat} {v : Value} {xs : List Value} {cs : Array Value} (h : BookFx LT g base w w1) (hg : Blk w g t cs) (hv : w.ownsRow b e m v n xs) (h1 : e ≠ LT) (h2 : e ≠ t) : w1.ownsRow b e m v n xs :=
  own_move hv (fun k hk => by
    obtain ⟨cs', hc⟩ := own_typed hv k hk
    exact (h.blkT hg (show Blk w k e cs' from hc) h1 h2).trans hc.symm)
end
theorem BookFx.Rr {α : Type} {d : Kd α} {e LT g base B t : Nat} {w w1 : World} {v : Value} {l : List α} {cs : Array Value} (hE : d.E = []) (h : BookFx LT g base w w1) (hg : Blk w g t cs) (hv : Kd.R d e w B (fun _ => True) v l) (h1 : e ≠ LT) (h2 : e ≠ t) : Kd.R d e w1 B (fun _ => True) v l :=
  R_moved hE hv (fun k hk => by
    obtain ⟨cs', hc⟩ := Kd.R_typed hv k hk
    exact (h.blkT hg (show Blk w k e cs' from hc) h1 h2).trans hc.symm)
theorem taken_ne {F : Nat → Prop} {x v : Value} (h : Taken F x) (hv : ∀ k, v.ownBlock = some k → F k) : NeRow x v := fun k hk hk' => h k hk (hv k hk')
theorem kept_S (g base : Nat) (F : Nat → Prop) (LI : List (List Int)) (LS : List (List S24)) (LE : List (List S108)) (v : Value) (l : List S24) (w : World) (hk : KeptAt w base g F LI LS LE)
    (hv : Kd.R k24 24 w base (fun _ => True) v l) (hl : l.length ≤ 1000000) (hL : LS.length < 250) (hnv : ∀ k, v.ownBlock = some k → F k) (hbase : base ≤ w.heap.size) :
    Calls Try.prog 23 #[.pointer (some ⟨g, 0, none⟩), v] w fun e w' => e = .returned (.tuple #[]) ∧ KeptAt w' base g (fun k => (F k ∧ k < w.heap.size ∧ v.ownBlock ≠ some k) ∨ w'.heap.size ≤ k) LI (LS ++ [l]) LE ∧ BookFx 31 g base w w' := by
  obtain ⟨VI, UI, VS, US, VE, UE, vi, ui, vs, us, ve, ue, hb, hg, h1, h2, h3, f1, f2, f3⟩ := hk
  refine (add_Spans g base VI UI VE UE VS US vs us LS v l w hb h2 hv hl hL (fun x hx => taken_ne (f2 x hx) hnv) hbase hg).mono ?_
  rintro e w' ⟨rfl, V', U', u, hb', hP', hu, hfx⟩
  have k1 : Pile (Kd.int .i64) 3 91 w' base VI UI vi ui LI := h1.keepT rfl (fun k cs t hk ht hbk => by
    refine hfx.2 k (Array.getElem?_eq_some_iff.1 hk).1 (fun e => ?_) (fun cs' hc => ?_)
    · subst e; rw [hb.hd] at hk; injection hk with hk; injection hk with _ hk; rcases ht with rfl | rfl <;> exact absurd hk (by decide)
    · rw [hk] at hc; injection hc with hc; injection hc with _ hc; rcases ht with rfl | rfl <;> exact absurd hc (by decide))
  have k3 : Pile k108 108 93 w' base VE UE ve ue LE := h3.keepT rfl (fun k cs t hk ht hbk => by
    refine hfx.2 k (Array.getElem?_eq_some_iff.1 hk).1 (fun e => ?_) (fun cs' hc => ?_)
    · subst e; rw [hb.hd] at hk; injection hk with hk; injection hk with _ hk; rcases ht with rfl | rfl <;> exact absurd hk (by decide)
    · rw [hk] at hc; injection hc with hc; injection hc with _ hc; rcases ht with rfl | rfl <;> exact absurd hc (by decide))
  have z : w.heap.size ≤ w'.heap.size := hfx.1.size
  refine ⟨rfl, ⟨VI, UI, V', U', VE, UE, vi, ui, vs ++ [v], us ++ [u], ve, ue, hb', hg, k1, hP', k3, fun x hx k hk hf => ?_, fun x hx k hk hf => ?_, fun x hx k hk hf => ?_⟩, hfx⟩
  · rcases hf with hf | hf
    · exact f1 x hx k hk hf.1
    · have := (pile_lt k1 x hx k hk).2; omega
  · rcases hf with hf | hf
    · have hx' : x ∈ vs ++ us ∨ x = v ∨ x = u := by
        simp only [List.mem_append, List.mem_singleton] at hx ⊢
        rcases hx with (h | h) | (h | h)
        · exact .inl (.inl h)
        · exact .inr (.inl h)
        · exact .inl (.inr h)
        · exact .inr (.inr h)
      rcases hx' with hx' | rfl | rfl
      · exact f2 x hx' k hk hf.1
      · exact hf.2.2 hk
      · have := hu k hk; omega
    · have := (pile_lt hP' x hx k hk).2; omega
  · rcases hf with hf | hf
    · exact f3 x hx k hk hf.1
    · have := (pile_lt k3 x hx k hk).2; omega
theorem kept_apart (g base : Nat) (F : Nat → Prop) (LI : List (List Int)) (LS : List (List S24)) (LE : List (List S108)) (w : World) (hk : KeptAt w base g F LI LS LE)
    (bI : LI.length ≤ 250 ∧ ∀ l ∈ LI, l.length ≤ 1000000) (bS : LS.length ≤ 250 ∧ ∀ l ∈ LS, l.length ≤ 1000000) (bE : LE.length ≤ 250 ∧ ∀ l ∈ LE, l.length ≤ 1000000) (hbase : base ≤ w.heap.size) :
    Calls Try.prog 29 #[.pointer (some ⟨g, 0, none⟩)] w fun e w' => e = .returned (.bool true) ∧ Below base w w' := by
  obtain ⟨VI, UI, VS, US, VE, UE, vi, ui, vs, us, ve, ue, hb, hg, h1, h2, h3, f1, f2, f3⟩ := hk
  exact apart g base VI UI VS US VE UE vi ui vs us ve ue LI LS LE w hb h1 h2 h3 ⟨bI.1, fun i l hl => bI.2 l (List.mem_of_getElem? hl)⟩ ⟨bS.1, fun i l hl => bS.2 l (List.mem_of_getElem? hl)⟩ ⟨bE.1, fun i l hl => bE.2 l (List.mem_of_getElem? hl)⟩ hbase
theorem same_S {B B' : Nat} (u v : Value) (T : List S24) (w : World) (hu : Kd.R k24 24 w B (fun _ => True) u T) (hv : Kd.R k24 24 w B' (fun _ => True) v T) (hT : T.length ≤ 1000000) :
    Calls Try.prog 26 #[u, v] w fun e w' => e = .returned (.bool true) ∧ Below w.heap.size w w' := by
  obtain ⟨A, c, rfl, hc, hC⟩ := Kd.R_reads hu
  obtain ⟨A', c', rfl, hc', hC'⟩ := Kd.R_reads hv
  refine (emulsionbook_SameSpans.calls (T.length + 1) A c T A' c' T true w hC hc hC' hc' (sameSpans_f T (by omega) _ (by omega))).mono ?_
  rintro e w' ⟨rfl, hd⟩
  exact ⟨rfl, drawnB hd⟩
end Go.Proofs.Ytjbimnicnehnaaa.Hand
end
