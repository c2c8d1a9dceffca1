/- Facts of the span functions as numbers, and the contract of chapter 1's first call (alive): it answers true, with new memory alone. -/
import Derived.Test.YtjbimnicnehnaaaAx5
import Derived.Test.YtjbimnicnehnaaaAx7
namespace Go.Proofs.Ytjbimnicnehnaaa.Hand
open Go.RowKit Go.Proofs.YtjbimnicnehnaaaW.PrintWords Go.Proofs.YtjbimnicnehnaaaW.PrintLast Go.Proofs.YtjbimnicnehnaaaW.PrintMore Go.Proofs.Ytjbimnicnehnaaa.A
set_option linter.unusedVariables false
set_option linter.unusedSimpArgs false
attribute [local go_sem] max2_int min2_int max_two min_two max_three min_three max_four min_four

theorem wf64 {x : Int} (h : (Lit.int .i64 x).wf = true) : -9223372036854775808 ≤ x ∧ x ≤ 9223372036854775807 := by
  simp [Lit.wf, IntKind.min, IntKind.max, IntKind.signed, IntKind.bits] at h; omega
theorem w_id {x : Int} (h0 : -9223372036854775808 ≤ x) (h1 : x ≤ 9223372036854775807) : wrap64 x = x := by unfold wrap64; omega
theorem of_yes {a b : Int} (h : a < b) (h0 : -4611686018427387904 ≤ a) (h1 : b ≤ 4611686018427387903) : span_of.f a b = some (a, b - a, true) := by
  unfold span_of.f; rw [if_neg (by omega), w_id (by omega) (by omega)]
theorem of_no {a b : Int} (h : b ≤ a) : span_of.f a b = some (0, 0, false) := by
  unfold span_of.f; rw [if_pos (by omega)]
theorem blocks_no {a n : Int} (n1 : n ≤ 9223372036854775807) (h : a < 0 ∨ a > 512 ∨ n < 1 ∨ n > 512 - a) : span_Blocks.f a n = some (0, 0, false) := by
  unfold span_Blocks.f
  by_cases h1 : a < 0
  · rw [if_pos h1]
  rw [if_neg h1]
  by_cases h2 : a > 512
  · rw [if_pos h2]
  rw [if_neg h2]
  by_cases h3 : n < 1
  · rw [if_pos h3]
  rw [if_neg h3, w_id (by omega) (by omega), if_pos (by omega)]
theorem blocks_yes {a n : Int} (h0 : 0 ≤ a) (h1 : a ≤ 512) (h2 : 1 ≤ n) (h3 : n ≤ 512 - a) : span_Blocks.f a n = some (a / 8, (a + n - 1) / 8 + 1 - a / 8, true) := by
  unfold span_Blocks.f
  rw [if_neg (by omega), if_neg (by omega), if_neg (by omega), w_id (by omega) (by omega), if_neg (by omega), w_id (x := a + n) (by omega) (by omega), w_id (x := a + n - 1) (by omega) (by omega), w_id (by omega) (by omega), of_yes (by omega) (by omega) (by omega)]
  rfl
theorem whole_yes {a n : Int} (h0 : 0 ≤ a) (h1 : 1 ≤ n) (h2 : a + n ≤ 64) : span_whole.f a n = some true := by
  unfold span_whole.f
  rw [if_pos (by omega), if_pos (by omega), if_pos (by omega), w_id (by omega) (by omega), decide_eq_true (by omega)]
theorem end_yes {a n : Int} (h0 : 0 ≤ a) (h1 : 1 ≤ n) (h2 : a + n ≤ 64) : span_End.f a n = some (a + n) := by
  unfold span_End.f
  rw [whole_yes h0 h1 h2, Option.bind_some, if_pos rfl, w_id (by omega) (by omega)]
theorem mx_eq (a b : Int) : mx a b = max a b := by unfold mx; split <;> omega
theorem mn_eq (a b : Int) : mn a b = min a b := by unfold mn; split <;> omega
theorem less_alive : span_Less.f 2 2 6 4 2 = some [⟨2, 2⟩, ⟨6, 2⟩] := by
  have hm : span_Meet.f 2 2 6 4 2 = some (4, 2, true) := by
    unfold span_Meet.f
    rw [whole_yes (by omega) (by omega) (by omega), Option.bind_some, if_pos rfl, whole_yes (by omega) (by omega) (by omega), Option.bind_some]
    simp only [span_Meet.j0, Bool.not_true]
    rw [if_neg (by decide), end_yes (by omega) (by omega) (by omega), Option.bind_some, end_yes (by omega) (by omega) (by omega), Option.bind_some, mx_eq, mn_eq, of_yes (by omega) (by omega) (by omega)]
    rfl
  unfold span_Less.f
  rw [whole_yes (by omega) (by omega) (by omega), Option.bind_some, if_pos rfl, hm, Option.bind_some]
  simp only
  rw [if_pos trivial, of_yes (by omega) (by omega) (by omega), Option.bind_some]
  simp only
  rw [if_pos trivial, if_pos (by decide)]
  simp only [span_Less.j0]
  rw [end_yes (by omega) (by omega) (by omega), Option.bind_some, end_yes (by omega) (by omega) (by omega), Option.bind_some, of_yes (by omega) (by omega) (by omega), Option.bind_some]
  simp only
  rw [if_pos trivial, if_pos (by decide)]
  rfl
theorem row_at {α : Type} {d : Kd α} {e base : Nat} {w : World} {ok : Nat → Prop} {v : Value} {xs : List α} (h : d.R e w base ok v xs) (hn : 0 < xs.length) :
    ∃ g c, v = .slice (some ⟨g, 0, none⟩) xs.length c ∧ base ≤ g ∧ g < w.heap.size ∧ d.C w (some ⟨g, 0, none⟩) xs.length xs := by
  obtain ⟨A, c, rfl, hl, hc⟩ := Kd.R_reads h
  obtain ⟨inner, ho⟩ := Kd.R_own h
  obtain ⟨g, cap, hv, hb, hlt⟩ := ho.form hn
  injection hv with hA _ _
  subst hA
  exact ⟨g, c, rfl, hb, hlt, hc⟩
def alive1.f : Option Bool := some true
set_option maxRecDepth 100000 in
set_option maxHeartbeats 800000 in
theorem alive1.calls (r : Bool) (w : World) (h : alive1.f = some r) :
    Calls Try.prog 13 #[] w fun e w' => e = .returned (.bool r) ∧ Below w.heap.size w w' := by
  obtain rfl := Option.some.inj h
  have Hl := Aside0.mk less_alive
  have Hb : Aside0 (span_Blocks.f 7 2 = some (0, 2, true)) := Aside0.mk (blocks_yes (by omega) (by omega) (by omega) (by omega))
  go_enter Try.func13, Try.ntmps13
  go_wp2_with fail
  refine (span_Less.calls 2 2 6 4 2 _ _ Hl.out).mono ?_
  rintro e w1 ⟨v, rfl, hR, hB⟩
  obtain ⟨g, c, rfl, hg, hlt, hC⟩ := row_at hR (by decide)
  have HC := Aside0.mk hC
  clear hC hR
  go_wp2_with fail
  refine (span_Blocks.calls 7 2 0 2 true _ Hb.out).mono ?_
  rintro e w2 ⟨rfl, hB2⟩
  have HC2 := Kd.C_below HC.out hB2
  obtain ⟨_, e1, x0, x1⟩ := at_T24 HC2 0 (by decide) (by decide)
  obtain ⟨_, e2, y0, y1⟩ := at_T24 HC2 1 (by decide) (by decide)
  cases e1
  cases e2
  have x0' : w2.cell? ⟨g, 0, none⟩ = some (.int .i64 2) := x0
  have x1' : w2.cell? ⟨g, 1, none⟩ = some (.int .i64 2) := x1
  have y0' : w2.cell? ⟨g, 2, none⟩ = some (.int .i64 6) := y0
  have y1' : w2.cell? ⟨g, 3, none⟩ = some (.int .i64 2) := y1
  have hlt2 : g < w2.heap.size := Nat.lt_of_lt_of_le hlt hB2.size
  clear x0 x1 y0 y1 HC2 HC
  go_wp2_with fail
  go_ret
  exact ⟨rfl, by repeat (first | exact below_step hB hB2 | apply below_alloc | apply pw_below_drewN | apply below_drew1)⟩
end Go.Proofs.Ytjbimnicnehnaaa.Hand
