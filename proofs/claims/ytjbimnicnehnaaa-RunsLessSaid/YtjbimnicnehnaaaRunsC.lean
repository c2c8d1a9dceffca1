/- Sets of blocks as the program keeps them (runs): has, next, put, cut, both, walked. -/
import Derived.Test.YtjbimnicnehnaaaRunsB
import Derived.Test.YtjbimnicnehnaaaAx0
import Derived.Test.YtjbimnicnehnaaaAx11
namespace Go.Proofs.Ytjbimnicnehnaaa.Hand
open Go.RowKit Go.Proofs.YtjbimnicnehnaaaW.PrintWords Go.Proofs.YtjbimnicnehnaaaW.PrintLast Go.Proofs.YtjbimnicnehnaaaW.PrintMore Go.Proofs.Ytjbimnicnehnaaa.A
set_option linter.unusedVariables false
set_option linter.unusedSimpArgs false
attribute [local go_sem] max2_int min2_int max_two min_two max_three min_three max_four min_four
instance (x : S24) (k : Int) : Decidable (inSp x k) := by unfold inSp; infer_instance
/-- Whether a block is in one of them. -/
def memB (l : List S24) (k : Int) : Bool := l.any fun x => decide (inSp x k)
theorem memB_iff (l : List S24) (k : Int) : memB l k = true ↔ mem l k := by
  unfold memB mem
  rw [List.any_eq_true]
  constructor
  · rintro ⟨x, h, hk⟩
    exact ⟨x, h, of_decide_eq_true hk⟩
  · rintro ⟨x, h, hk⟩
    exact ⟨x, h, decide_eq_true hk⟩
theorem memB_snoc (l : List S24) (i : Nat) (k : Int) (h : i < l.length) : memB (l.take (i + 1)) k = (memB (l.take i) k || decide (inSp l[i] k)) := by
  unfold memB
  rw [List.take_succ_eq_append_getElem h, List.any_append]; simp
theorem memB_of (l : List S24) (i : Nat) (k : Int) (h : i < l.length) (hk : inSp l[i] k) : memB l k = true := (memB_iff l k).2 ⟨_, List.getElem_mem h, hk⟩
set_option maxRecDepth 100000 in
theorem runs_has_of (P0 : Value) (l : List S24) (k : Int) (w : World) (hT : Tidy 0 l) (ha : Calls Try.prog 38 #[P0] w fun e w' => ∃ v, e = .returned v ∧ ORow w' w.heap.size v l ∧ Below w.heap.size w w') :
    Calls Try.prog 42 #[P0, .int .i64 k] w fun e w' => e = .returned (.bool (memB l k)) ∧ Below w.heap.size w w' := by
  have hlen := hT.length (by decide)
  have HT := Aside0.mk hT
  have Hc := Aside0.mk ha
  have Hm : Aside0 (∀ i, (h : i < l.length) → inSp l[i] k → memB l k = true) := ⟨fun i h => memB_of l i k h⟩
  have Hn : Aside0 ((∀ i, (h : i < l.length) → ¬ inSp l[i] k) → memB l k = false) := ⟨fun h => by
    cases hb : memB l k
    · rfl
    · obtain ⟨x, hx, hk⟩ := (memB_iff l k).1 hb
      obtain ⟨i, hi, rfl⟩ := List.getElem_of_mem hx
      exact absurd hk (h i hi)⟩
  generalize memB l k = b at *
  clear ha hT
  go_enter Try.func42, Try.ntmps42
  go_wp2_with fail
  refine Hc.out.mono ?_
  rintro e w1 ⟨v, rfl, ho, hB⟩
  obtain ⟨A, c, rfl, hlc, hC, _⟩ := ho.reads
  have HB1 := Aside0.mk hB
  have HC := Aside0.mk hC
  clear ho hC hB Hc hlc
  go_wp2_with fail
  go_loopg [10] l.length (fun kq v wq => ∃ i : Nat, i + kq = l.length ∧ v = .int .i64 (i : Int) ∧ Aside0 (∀ j, (h : j < l.length) → j < i → ¬ inSp l[j] k) ∧ Aside0 (Below w1.heap.size w1 wq))
  case atStart => exact ⟨0, by omega, rfl, ⟨fun j _ h => by omega⟩, ⟨Below.refl _ _⟩⟩
  case round =>
    obtain ⟨i, hi, rfl, HJ, HB⟩ := hrel
    by_cases hlt : i < l.length
    · obtain ⟨ad, e1, x0, x1⟩ := at_T24 (Kd.C_below HC.out HB.out) (i : Int) (by omega) (by omega)
      subst e1
      rw [Int.toNat_natCast, rd_get l i hlt] at x0 x1
      have hlt' : (i : Int) < (l.length : Int) := by omega
      have hw := Aside0.mk (HT.out.whole (Int.le_refl _) _ (List.getElem_mem hlt))
      have hmi := Aside0.mk (Hm.out i hlt)
      have hnx : Aside0 (¬ inSp l[i] k → ∀ j, (h : j < l.length) → j < i + 1 → ¬ inSp l[j] k) := ⟨fun hx j h hj => by
        by_cases e : j = i
        · subst e; exact hx
        · exact HJ.out j h (by omega)⟩
      have Hh := Aside0.mk (has_eq l[i].f0 l[i].f1 k)
      obtain ⟨kk, rfl⟩ : ∃ z, gk = z + 1 := ⟨gk - 1, by omega⟩
      by_cases hk : inSp l[i] k
      · have Hh2 : Aside0 (span_Has.f l[i].f0 l[i].f1 k = some true) := ⟨by rw [Hh.out, decide_eq_true ⟨hw.out, hk⟩]⟩
        have hb : b = true := hmi.out hk
        subst hb
        clear hk hnx
        generalize l[i] = X at *
        obtain ⟨F, M⟩ := X
        simp only at x0 x1 Hh2
        go_wp2_with fail
        refine (span_Has.calls F M k true _ Hh2.out).mono ?_
        rintro e w2 ⟨rfl, hB⟩
        have HB2 : Aside0 (Below w.heap.size w w2) := ⟨below_step (below_step HB1.out (below_alloc HB.out _)) hB⟩
        clear hB x0 x1
        go_wp2_with fail
        go_ret
        exact ⟨rfl, HB2.out⟩
      · have Hh2 : Aside0 (span_Has.f l[i].f0 l[i].f1 k = some false) := ⟨by rw [Hh.out, decide_eq_false (fun h => hk h.2)]⟩
        replace hnx := Aside0.mk (hnx.out hk)
        clear hk hmi
        generalize l[i] = X at *
        obtain ⟨F, M⟩ := X
        simp only at x0 x1 Hh2
        go_wp2_with fail
        refine (span_Has.calls F M k false _ Hh2.out).mono ?_
        rintro e w2 ⟨rfl, hB⟩
        have HB2 : Aside0 (Below w1.heap.size w1 w2) := ⟨below_step (below_alloc HB.out _) hB⟩
        clear hB x0 x1
        go_wp2_with fail
        go_roundg kk
        case measure => omega
        case rel => exact ⟨i + 1, by omega, by go_num, hnx, HB2⟩
    · have hlt' : ¬ (i : Int) < (l.length : Int) := by omega
      have hb : b = false := Hn.out (fun j h => HJ.out j h (by omega))
      subst hb
      go_wp2_with fail
      go_ret
      exact ⟨rfl, below_step HB1.out HB.out⟩
theorem runs_has (base g : Nat) (l : List S24) (k : Int) (w : World) (hT : Tidy 0 l) (h : RunsAt w base g l) :
    Calls Try.prog 42 #[ptrR g, .int .i64 k] w fun e w' => e = .returned (.bool (memB l k)) ∧ Below w.heap.size w w' :=
  runs_has_of _ l k w hT (runs_all base g l (by have := hT.length (by decide); omega) w h)
theorem runs_has_nil (k : Int) (w : World) : Calls Try.prog 42 #[.pointer none, .int .i64 k] w fun e w' => e = .returned (.bool false) ∧ Below w.heap.size w w' :=
  runs_has_of _ [] k w trivial (runs_all_nil w)
set_option maxRecDepth 100000 in
theorem runs_copy_of (P0 : Value) (l : List S24) (w : World) (ha : Calls Try.prog 38 #[P0] w fun e w' => ∃ v, e = .returned v ∧ ORow w' w.heap.size v l ∧ Below w.heap.size w w') :
    Calls Try.prog 41 #[P0] w fun e w' => ∃ g, e = .returned (ptrR g) ∧ w.heap.size ≤ g ∧ RunsAt w' w.heap.size g l ∧ Below w.heap.size w w' := by
  have Hc := Aside0.mk ha
  clear ha
  go_enter Try.func41, Try.ntmps41
  go_wp2_with fail
  refine Hc.out.mono ?_
  rintro e w1 ⟨v, rfl, ho, hB⟩
  have HO := Aside0.mk ho
  obtain ⟨A, c, rfl, hlc, hC, _⟩ := ho.reads
  have HB1 := Aside0.mk hB
  clear ho hC hB Hc hlc
  go_wp2_with fail
  go_ret
  exact ⟨_, rfl, below_size HB1.out, ⟨_, Blk.new _ _ _, own_alloc HO.out _⟩, below_alloc HB1.out _⟩
end Go.Proofs.Ytjbimnicnehnaaa.Hand
