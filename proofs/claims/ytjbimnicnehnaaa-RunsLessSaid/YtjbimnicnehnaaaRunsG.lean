/- Sets of blocks as the program keeps them (runs): what comes next, walked. -/
import Derived.Test.YtjbimnicnehnaaaRunsC
import Derived.Test.YtjbimnicnehnaaaAx0
import Derived.Test.YtjbimnicnehnaaaAx5
namespace Go.Proofs.Ytjbimnicnehnaaa.Hand
open Go.RowKit Go.Proofs.YtjbimnicnehnaaaW.PrintWords Go.Proofs.YtjbimnicnehnaaaW.PrintLast Go.Proofs.YtjbimnicnehnaaaW.PrintMore Go.Proofs.Ytjbimnicnehnaaa.A
set_option linter.unusedVariables false
set_option linter.unusedSimpArgs false
attribute [local go_sem] max2_int min2_int max_two min_two max_three min_three max_four min_four
/-- The first blocks from one on. -/
def nextV : List S24 → Int → Int × Int × Bool
  | [], _ => (0, 0, false)
  | x :: l, from_ => if from_ < x.f0 + x.f1 then (max x.f0 from_, x.f0 + x.f1 - max x.f0 from_, true) else nextV l from_
theorem nextV_skip : ∀ (l : List S24) (k : Int) (i : Nat), (∀ j, (h : j < l.length) → j < i → ¬ k < l[j].f0 + l[j].f1) → nextV l k = nextV (l.drop i) k
  | l, k, 0, _ => by rw [List.drop_zero]
  | [], k, i + 1, _ => by simp
  | x :: l, k, i + 1, h => by
    have h0 := h 0 (by simp) (by omega)
    simp only [List.getElem_cons_zero] at h0
    show (if k < x.f0 + x.f1 then _ else nextV l k) = _
    rw [if_neg h0]
    exact nextV_skip l k i (fun j hj hji => by have := h (j + 1) (by simp; omega) (by omega); simpa using this)
theorem nextV_at (l : List S24) (k : Int) (i : Nat) (hl : i < l.length) (h : ∀ j, (h : j < l.length) → j < i → ¬ k < l[j].f0 + l[j].f1) (hk : k < l[i].f0 + l[i].f1) : nextV l k = (max l[i].f0 k, l[i].f0 + l[i].f1 - max l[i].f0 k, true) := by
  rw [nextV_skip l k i h, List.drop_eq_getElem_cons hl]
  show (if _ then _ else _) = _
  rw [if_pos hk]
theorem nextV_none (l : List S24) (k : Int) (h : ∀ j, (h : j < l.length) → ¬ k < l[j].f0 + l[j].f1) : nextV l k = (0, 0, false) := by
  rw [nextV_skip l k l.length (fun j hj _ => h j hj), List.drop_length]; rfl
set_option maxRecDepth 100000 in
theorem runs_next_of (P0 : Value) (l : List S24) (k : Int) (hk0 : -9223372036854775808 ≤ k) (hk1 : k ≤ 9223372036854775807) (w : World) (hT : Tidy 0 l) (ha : ∀ W, Below w.heap.size w W → Calls Try.prog 38 #[P0] W fun e w' => ∃ v, e = .returned v ∧ ORow w' W.heap.size v l ∧ Below W.heap.size W w') :
    Calls Try.prog 32 #[P0, .int .i64 k] w fun e w' => e = .returned (.tuple #[.agg #[.int .i64 (nextV l k).1, .int .i64 (nextV l k).2.1], .bool (nextV l k).2.2]) ∧ Below w.heap.size w w' := by
  have hlen := hT.length (by decide)
  have HT := Aside0.mk hT
  have Hc := Aside0.mk ha
  clear ha hT
  go_enter Try.func32, Try.ntmps32
  go_wp2_with fail
  refine (Hc.out _ (below_alloc (Below.refl _ _) _)).mono ?_
  rintro e w1 ⟨v, rfl, ho, hB⟩
  obtain ⟨A, c, rfl, hlc, hC, _⟩ := ho.reads
  have HB1 : Aside0 (Below w.heap.size w w1) := ⟨below_step (below_alloc (Below.refl _ _) _) hB⟩
  have HZ1 : Aside0 (Blk w1 w.heap.size 24 #[.int .i64 0, .int .i64 0]) := ⟨(Blk.new w _ _).keep hB⟩
  have HC := Aside0.mk hC
  clear ho hC hB Hc hlc
  go_wp2_with fail
  go_loopg [12] l.length (fun kq v wq => ∃ i : Nat, i + kq = l.length ∧ v = .int .i64 (i : Int) ∧ Aside0 (∀ j, (h : j < l.length) → j < i → ¬ k < l[j].f0 + l[j].f1) ∧ Aside0 (Below w1.heap.size w1 wq))
  case atStart => exact ⟨0, by omega, rfl, ⟨fun j _ h => by omega⟩, ⟨Below.refl _ _⟩⟩
  case round =>
    obtain ⟨i, hi, rfl, HJ, HB⟩ := hrel
    have HZ2 := Aside0.mk (HZ1.out.keep HB.out)
    have HB2 : Aside0 (Below w.heap.size w wr) := ⟨below_step HB1.out HB.out⟩
    by_cases hlt : i < l.length
    · obtain ⟨ad, e1, x0, x1⟩ := at_T24 (Kd.C_below HC.out HB.out) (i : Int) (by omega) (by omega)
      subst e1
      rw [Int.toNat_natCast, rd_get l i hlt] at x0 x1
      have hlt' : (i : Int) < (l.length : Int) := by omega
      have hw := HT.out.whole (Int.le_refl _) _ (List.getElem_mem hlt)
      have hat := Aside0.mk (nextV_at l k i hlt HJ.out)
      have hnx : Aside0 (¬ k < l[i].f0 + l[i].f1 → ∀ j, (h : j < l.length) → j < i + 1 → ¬ k < l[j].f0 + l[j].f1) := ⟨fun hx j h hj => by
        by_cases e : j = i
        · subst e; exact hx
        · exact HJ.out j h (by omega)⟩
      have He : Aside0 (span_End.f l[i].f0 l[i].f1 = some (l[i].f0 + l[i].f1)) := ⟨by rw [end_eq]; unfold endV; rw [if_pos hw]⟩
      generalize l[i] = X at *
      obtain ⟨F, M⟩ := X
      simp only at x0 x1 hw hat hnx He
      obtain ⟨hw0, hw1, hw2⟩ := hw
      obtain ⟨kk, rfl⟩ : ∃ z, gk = z + 1 := ⟨gk - 1, by omega⟩
      by_cases hk : k < F + M
      · replace hat := Aside0.mk (hat.out hk)
        go_wp2_with fail
        refine (span_End.calls F M (F + M) _ He.out).mono ?_
        rintro e w2 ⟨rfl, hB⟩
        have HB3 : Aside0 (Below w.heap.size w w2) := ⟨below_step (below_alloc HB2.out _) hB⟩
        have HZ3 : Aside0 (Blk w2 w.heap.size 24 #[.int .i64 0, .int .i64 0]) := ⟨(HZ2.out.alloc _).keep hB⟩
        have HX3 : Aside0 (Blk w2 wr.heap.size 24 #[.int .i64 F, .int .i64 M]) := ⟨(Blk.new wr _ _).keep hB⟩
        have c1 := HX3.out.cell (i := 0) rfl
        have c2 := HX3.out.cell (i := 1) rfl
        clear hB x0 x1
        go_wp2_with fail
        all_goals
          refine (span_End.calls F M (F + M) _ He.out).mono ?_
          rintro e w3 ⟨rfl, hB⟩
          have HB4 : Aside0 (Below w.heap.size w w3) := ⟨below_step HB3.out hB⟩
          have HZ4 := Aside0.mk (HZ3.out.keep hB)
          have d1 := HZ4.out.cell (i := 0) rfl
          have d2 := HZ4.out.cell (i := 1) rfl
          have f1 := HZ4.out.frozen 0
          have f2 := HZ4.out.frozen 1
          clear hB c1 c2
          go_wp2_with fail
          refine bodyPost_ret (results_ct rfl _ _ w.heap.size 24 _ (0, 0) _ rfl ((HZ4.out.set_ 0 _).set_ 1 _).hd Try.underlying24 rfl (by kernel_rfl)) rfl ⟨?_, below_set (below_set HB4.out (Nat.le_refl _)) (Nat.le_refl _)⟩
          rw [hat.out]
          first
            | (rw [show max F k = k by omega]; rfl)
            | (rw [show max F k = F by omega]; rfl)
      · replace hnx := Aside0.mk (hnx.out hk)
        go_wp2_with fail
        refine (span_End.calls F M (F + M) _ He.out).mono ?_
        rintro e w2 ⟨rfl, hB⟩
        have HB3 : Aside0 (Below w1.heap.size w1 w2) := ⟨below_step (below_alloc HB.out _) hB⟩
        clear hB x0 x1
        go_wp2_with fail
        go_roundg kk
        case measure => omega
        case rel => exact ⟨i + 1, by omega, by go_num, hnx, HB3⟩
    · have hlt' : ¬ (i : Int) < (l.length : Int) := by omega
      have hn := Aside0.mk (nextV_none l k (fun j h => HJ.out j h (by omega)))
      have d1 := HZ2.out.cell (i := 0) rfl
      have d2 := HZ2.out.cell (i := 1) rfl
      have f1 := HZ2.out.frozen 0
      have f2 := HZ2.out.frozen 1
      go_wp2_with fail
      refine bodyPost_ret (results_ct rfl _ _ w.heap.size 24 _ (0, 0) _ rfl ((HZ2.out.set_ 0 _).set_ 1 _).hd Try.underlying24 rfl (by kernel_rfl)) rfl ⟨?_, below_set (below_set HB2.out (Nat.le_refl _)) (Nat.le_refl _)⟩
      rw [hn.out]; rfl
theorem runs_next (base g : Nat) (l : List S24) (k : Int) (hk0 : -9223372036854775808 ≤ k) (hk1 : k ≤ 9223372036854775807) (w : World) (hT : Tidy 0 l) (h : RunsAt w base g l) :
    Calls Try.prog 32 #[ptrR g, .int .i64 k] w fun e w' => e = .returned (.tuple #[.agg #[.int .i64 (nextV l k).1, .int .i64 (nextV l k).2.1], .bool (nextV l k).2.2]) ∧ Below w.heap.size w w' :=
  runs_next_of _ l k hk0 hk1 w hT (fun W hB => runs_all base g l (by have := hT.length (by decide); omega) W (h.keep hB))
theorem runs_next_nil (k : Int) (hk0 : -9223372036854775808 ≤ k) (hk1 : k ≤ 9223372036854775807) (w : World) :
    Calls Try.prog 32 #[.pointer none, .int .i64 k] w fun e w' => e = .returned (.tuple #[.agg #[.int .i64 0, .int .i64 0], .bool false]) ∧ Below w.heap.size w w' :=
  runs_next_of _ [] k hk0 hk1 w trivial (fun W hB => runs_all_nil W)
end Go.Proofs.Ytjbimnicnehnaaa.Hand
