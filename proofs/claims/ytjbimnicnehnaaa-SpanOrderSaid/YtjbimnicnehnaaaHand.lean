/- Facts of the span functions as numbers, and the contract of chapter 1's first call (alive): it answers true, with new memory alone. -/
import Derived.Test.YtjbimnicnehnaaaAx5
import Derived.Test.YtjbimnicnehnaaaAx7
namespace Go.Proofs.Ytjbimnicnehnaaa.Hand
open Go.RowKit Go.Proofs.YtjbimnicnehnaaaW.PrintWords Go.Proofs.YtjbimnicnehnaaaW.PrintLast Go.Proofs.YtjbimnicnehnaaaW.PrintMore Go.Proofs.Ytjbimnicnehnaaa.A
set_option linter.unusedVariables false
set_option linter.unusedSimpArgs false
attribute [local go_sem] max2_int min2_int max_two min_two max_three min_three max_four min_four

theorem wf64 {x : Int} (h : (Lit.int .i64 x).wf = true) : -9223372036854775808 ≤ x ∧ x ≤ 9223372036854775807 := by
  simp [Lit.wf, IntKind.min, IntKind.max, IntKind.signed, IntKind.bits] at h; omega
theorem w_id {x : Int} (h0 : -9223372036854775808 ≤ x) (h1 : x ≤ 9223372036854775807) : wrap64 x = x := by unfold wrap64; omega
theorem of_yes {a b : Int} (h : a < b) (h0 : -4611686018427387904 ≤ a) (h1 : b ≤ 4611686018427387903) : span_of.f a b = some (a, b - a, true) := by
  unfold span_of.f; rw [if_neg (by omega), w_id (by omega) (by omega)]
theorem of_no {a b : Int} (h : b ≤ a) : span_of.f a b = some (0, 0, false) := by
  unfold span_of.f; rw [if_pos (by omega)]
theorem blocks_no {a n : Int} (n1 : n ≤ 9223372036854775807) (h : a < 0 ∨ a > 512 ∨ n < 1 ∨ n > 512 - a) : span_Blocks.f a n = some (0, 0, false) := by
  unfold span_Blocks.f
  by_cases h1 : a < 0
  · rw [if_pos h1]
  rw [if_neg h1]
  by_cases h2 : a > 512
  · rw [if_pos h2]
  rw [if_neg h2]
  by_cases h3 : n < 1
  · rw [if_pos h3]
  rw [if_neg h3, w_id (by omega) (by omega), if_pos (by omega)]
theorem blocks_yes {a n : Int} (h0 : 0 ≤ a) (h1 : a ≤ 512) (h2 : 1 ≤ n) (h3 : n ≤ 512 - a) : span_Blocks.f a n = some (a / 8, (a + n - 1) / 8 + 1 - a / 8, true) := by
  unfold span_Blocks.f
  rw [if_neg (by omega), if_neg (by omega), if_neg (by omega), w_id (by omega) (by omega), if_neg (by omega), w_id (x := a + n) (by omega) (by omega), w_id (x := a + n - 1) (by omega) (by omega), w_id (by omega) (by omega), of_yes (by omega) (by omega) (by omega)]
  rfl
theorem whole_yes {a n : Int} (h0 : 0 ≤ a) (h1 : 1 ≤ n) (h2 : a + n ≤ 64) : span_whole.f a n = some true := by
  unfold span_whole.f
  rw [if_pos (by omega), if_pos (by omega), if_pos (by omega), w_id (by omega) (by omega), decide_eq_true (by omega)]
theorem end_yes {a n : Int} (h0 : 0 ≤ a) (h1 : 1 ≤ n) (h2 : a + n ≤ 64) : span_End.f a n = some (a + n) := by
  unfold span_End.f
  rw [whole_yes h0 h1 h2, Option.bind_some, if_pos rfl, w_id (by omega) (by omega)]
theorem mx_eq (a b : Int) : mx a b = max a b := by unfold mx; split <;> omega
theorem mn_eq (a b : Int) : mn a b = min a b := by unfold mn; split <;> omega
/-! ### what the span functions answer, in numbers -/
abbrev wh (a n : Int) : Prop := 0 ≤ a ∧ 1 ≤ n ∧ a + n ≤ 64
theorem whole_eq (a n : Int) : span_whole.f a n = some (decide (wh a n)) := by
  unfold span_whole.f wh
  by_cases h1 : a ≥ 0
  · rw [if_pos h1]
    by_cases h2 : a ≤ 64
    · rw [if_pos h2]
      by_cases h3 : n ≥ 1
      · rw [if_pos h3, w_id (by omega) (by omega)]
        congr 1
        rw [decide_eq_decide]; omega
      · rw [if_neg h3, decide_eq_false (by omega)]
    · rw [if_neg h2, decide_eq_false (by omega)]
  · rw [if_neg h1, decide_eq_false (by omega)]
theorem rwhole_eq (a n : Int) : emulsionref1_Whole.f a n = some (decide (wh a n)) := by
  unfold emulsionref1_Whole.f wh
  by_cases h1 : a ≥ 0
  · rw [if_pos h1]
    by_cases h2 : a ≤ 64
    · rw [if_pos h2]
      by_cases h3 : n ≥ 1
      · rw [if_pos h3]
        by_cases h4 : n ≤ 64
        · rw [if_pos h4, w_id (by omega) (by omega)]
          congr 1
          rw [decide_eq_decide]; omega
        · rw [if_neg h4, decide_eq_false (by omega)]
      · rw [if_neg h3, decide_eq_false (by omega)]
    · rw [if_neg h2, decide_eq_false (by omega)]
  · rw [if_neg h1, decide_eq_false (by omega)]
def endV (a n : Int) : Int := if wh a n then a + n else 0
theorem end_eq (a n : Int) : span_End.f a n = some (endV a n) := by
  unfold span_End.f endV
  rw [whole_eq, Option.bind_some]
  by_cases h : wh a n
  · rw [if_pos h, if_pos (decide_eq_true h), w_id (by unfold wh at h; omega) (by unfold wh at h; omega)]
  · rw [if_neg h, if_neg (by rw [decide_eq_true_eq]; exact h)]
abbrev laps (a m b n : Int) : Prop := wh a m ∧ wh b n ∧ max a b < min (a + m) (b + n)
abbrev touches (a m b n : Int) : Prop := wh a m ∧ wh b n ∧ max a b ≤ min (a + m) (b + n)
def meetV (a m b n : Int) : Int × Int × Bool := if laps a m b n then (max a b, min (a + m) (b + n) - max a b, true) else (0, 0, false)
def joinV (a m b n : Int) : Int × Int × Bool := if touches a m b n then (min a b, max (a + m) (b + n) - min a b, true) else (0, 0, false)
theorem meet_eq (a m b n : Int) (k : Nat) : span_Meet.f (k + 1) a m b n = some (meetV a m b n) := by
  unfold span_Meet.f meetV
  rw [whole_eq, Option.bind_some]
  by_cases h : wh a m
  · rw [if_pos (decide_eq_true h), whole_eq, Option.bind_some]
    by_cases h2 : wh b n
    · simp only [span_Meet.j0]
      rw [decide_eq_true h2, if_neg (by decide), end_eq, end_eq, Option.bind_some, Option.bind_some, mx_eq, mn_eq]
      unfold endV
      rw [if_pos h, if_pos h2]
      by_cases h3 : max a b < min (a + m) (b + n)
      · rw [of_yes h3 (by unfold wh at h; omega) (by unfold wh at h; omega), if_pos ⟨h, h2, h3⟩]; rfl
      · rw [of_no (by omega), if_neg (fun x => h3 x.2.2)]; rfl
    · simp only [span_Meet.j0]
      rw [decide_eq_false h2, if_pos (by decide), if_neg (fun x => h2 x.2.1)]
  · rw [if_neg (by rw [decide_eq_true_eq]; exact h)]
    simp only [span_Meet.j0]
    rw [if_pos trivial, if_neg (fun x => h x.1)]
theorem touch_eq (a m b n : Int) : span_Touch.f a m b n = some (decide (touches a m b n)) := by
  unfold span_Touch.f
  rw [whole_eq, Option.bind_some]
  by_cases h : wh a m
  · rw [if_pos (decide_eq_true h), whole_eq, Option.bind_some]
    by_cases h2 : wh b n
    · rw [if_pos (decide_eq_true h2), end_eq, end_eq, Option.bind_some, Option.bind_some, mx_eq, mn_eq]
      unfold endV
      rw [if_pos h, if_pos h2]
      congr 1
      rw [decide_eq_decide]
      exact ⟨fun x => ⟨h, h2, x⟩, fun x => x.2.2⟩
    · rw [if_neg (by rw [decide_eq_true_eq]; exact h2), decide_eq_false (fun x => h2 x.2.1)]
  · rw [if_neg (by rw [decide_eq_true_eq]; exact h), decide_eq_false (fun x => h x.1)]
theorem join_eq (a m b n : Int) : span_Join.f a m b n = some (joinV a m b n) := by
  unfold span_Join.f joinV
  rw [touch_eq, Option.bind_some]
  by_cases h : touches a m b n
  · have h' := h
    unfold touches wh at h'
    rw [if_pos (decide_eq_true h), end_eq, end_eq, Option.bind_some, Option.bind_some, mx_eq, mn_eq]
    unfold endV
    rw [if_pos h.1, if_pos h.2.1, of_yes (by omega) (by omega) (by omega), if_pos h]; rfl
  · rw [if_neg (by rw [decide_eq_true_eq]; exact h), if_neg h]
theorem valid_eq (a n b : Int) (hb : -4611686018427387904 ≤ b) : span_Valid.f a n b = some (decide (wh a n ∧ a + n ≤ b)) := by
  unfold span_Valid.f
  rw [whole_eq, Option.bind_some]
  by_cases h : wh a n
  · rw [if_pos (decide_eq_true h), w_id (by unfold wh at h; omega) (by unfold wh at h; omega)]
    congr 1
    rw [decide_eq_decide]
    exact ⟨fun x => ⟨h, x⟩, fun x => x.2⟩
  · rw [if_neg (by rw [decide_eq_true_eq]; exact h), decide_eq_false (fun x => h x.1)]
theorem has_eq (a n k : Int) : span_Has.f a n k = some (decide (wh a n ∧ a ≤ k ∧ k < a + n)) := by
  unfold span_Has.f
  rw [whole_eq, Option.bind_some]
  by_cases h : wh a n
  · rw [if_pos (decide_eq_true h)]
    by_cases h2 : k ≥ a
    · rw [if_pos h2, end_eq, Option.bind_some]
      unfold endV
      rw [if_pos h]
      congr 1
      rw [decide_eq_decide]
      exact ⟨fun x => ⟨h, h2, x⟩, fun x => x.2.2⟩
    · rw [if_neg h2, decide_eq_false (fun x => h2 x.2.1)]
  · rw [if_neg (by rw [decide_eq_true_eq]; exact h), decide_eq_false (fun x => h x.1)]
/-- What a span has without another one. -/
def lessV (a m b n : Int) : List S24 :=
  if wh a m then (if laps a m b n then (if a < b then [⟨a, b - a⟩] else []) ++ (if b + n < a + m then [⟨b + n, a + m - (b + n)⟩] else []) else [⟨a, m⟩]) else []
theorem less_eq (a m b n : Int) (k : Nat) : span_Less.f (k + 1) a m b n = some (lessV a m b n) := by
  unfold span_Less.f lessV
  rw [whole_eq, Option.bind_some]
  by_cases h : wh a m
  · rw [if_pos (decide_eq_true h), meet_eq, Option.bind_some, if_pos h]
    unfold meetV
    by_cases h2 : laps a m b n
    · have h' := h2
      unfold laps wh at h'
      rw [if_pos h2, if_pos h2]
      simp only
      rw [if_pos trivial]
      have hw : wh (max a b) (min (a + m) (b + n) - max a b) := by unfold wh; omega
      have he : endV (max a b) (min (a + m) (b + n) - max a b) = min (a + m) (b + n) := by unfold endV; rw [if_pos hw]; omega
      have he2 : endV a m = a + m := by unfold endV; rw [if_pos h]
      by_cases h3 : a < b
      · rw [of_yes (by omega) (by omega) (by omega), Option.bind_some]
        simp only
        rw [if_pos trivial, if_pos (by simp)]
        simp only [span_Less.j0]
        rw [end_eq, Option.bind_some, end_eq, Option.bind_some, he, he2, if_pos h3]
        by_cases h4 : b + n < a + m
        · rw [of_yes (by omega) (by omega) (by omega), Option.bind_some]
          simp only
          rw [if_pos trivial, if_pos (by simp), if_pos h4, show max a b = b by omega, show min (a + m) (b + n) = b + n by omega]; rfl
        · rw [of_no (by omega), Option.bind_some]
          simp only
          rw [if_neg (by decide), if_neg h4, show max a b = b by omega]; rfl
      · rw [of_no (by omega), Option.bind_some]
        simp only
        rw [if_neg (by decide)]
        simp only [span_Less.j0]
        rw [end_eq, Option.bind_some, end_eq, Option.bind_some, he, he2, if_neg h3]
        by_cases h4 : b + n < a + m
        · rw [of_yes (by omega) (by omega) (by omega), Option.bind_some]
          simp only
          rw [if_pos trivial, if_pos (by simp), if_pos h4, show min (a + m) (b + n) = b + n by omega]
        · rw [of_no (by omega), Option.bind_some]
          simp only
          rw [if_neg (by decide), if_neg h4]; rfl
    · rw [if_neg h2, if_neg h2]; rfl
  · rw [if_neg (by rw [decide_eq_true_eq]; exact h), if_neg h]
theorem less_alive : span_Less.f 2 2 6 4 2 = some [⟨2, 2⟩, ⟨6, 2⟩] := by
  have hm : span_Meet.f 2 2 6 4 2 = some (4, 2, true) := by
    unfold span_Meet.f
    rw [whole_yes (by omega) (by omega) (by omega), Option.bind_some, if_pos rfl, whole_yes (by omega) (by omega) (by omega), Option.bind_some]
    simp only [span_Meet.j0, Bool.not_true]
    rw [if_neg (by decide), end_yes (by omega) (by omega) (by omega), Option.bind_some, end_yes (by omega) (by omega) (by omega), Option.bind_some, mx_eq, mn_eq, of_yes (by omega) (by omega) (by omega)]
    rfl
  unfold span_Less.f
  rw [whole_yes (by omega) (by omega) (by omega), Option.bind_some, if_pos rfl, hm, Option.bind_some]
  simp only
  rw [if_pos trivial, of_yes (by omega) (by omega) (by omega), Option.bind_some]
  simp only
  rw [if_pos trivial, if_pos (by decide)]
  simp only [span_Less.j0]
  rw [end_yes (by omega) (by omega) (by omega), Option.bind_some, end_yes (by omega) (by omega) (by omega), Option.bind_some, of_yes (by omega) (by omega) (by omega), Option.bind_some]
  simp only
  rw [if_pos trivial, if_pos (by decide)]
  rfl
theorem keep {w w1 : World} (h : Below w.heap.size w w1) {g o : Nat} {v : Value} (hc : w.cell? ⟨g, o, none⟩ = some v) : w1.cell? ⟨g, o, none⟩ = some v :=
  (h.cell (p := ⟨g, o, none⟩) (World.block_lt_of_cell? w _ hc)).trans hc
theorem cell_lt {w : World} {g o : Nat} {v : Value} (hc : w.cell? ⟨g, o, none⟩ = some v) : g < w.heap.size := World.block_lt_of_cell? w _ hc
theorem keepA {w w1 : World} {ob : Obj} (h : Below (w.alloc ob).heap.size (w.alloc ob) w1) {g o : Nat} {v : Value} (hc : w.cell? ⟨g, o, none⟩ = some v) : w1.cell? ⟨g, o, none⟩ = some v :=
  keep h ((World.cell?_alloc_lt w ob ⟨g, o, none⟩ (World.block_lt_of_cell? w _ hc)).trans hc)
theorem newA {w w1 : World} {cs : Array Value} {t : TypeId} {fr : Nat × Nat} (h : Below (w.alloc (.cells cs t fr)).heap.size (w.alloc (.cells cs t fr)) w1) {o : Nat} {v : Value} (hv : cs[o]? = some v) : w1.cell? ⟨w.heap.size, o, none⟩ = some v :=
  keep h (by unfold World.cell?; rw [heap_alloc_new]; exact hv)
theorem row_at {α : Type} {d : Kd α} {e base : Nat} {w : World} {ok : Nat → Prop} {v : Value} {xs : List α} (h : d.R e w base ok v xs) (hn : 0 < xs.length) :
    ∃ g c, v = .slice (some ⟨g, 0, none⟩) xs.length c ∧ base ≤ g ∧ g < w.heap.size ∧ d.C w (some ⟨g, 0, none⟩) xs.length xs := by
  obtain ⟨A, c, rfl, hl, hc⟩ := Kd.R_reads h
  obtain ⟨inner, ho⟩ := Kd.R_own h
  obtain ⟨g, cap, hv, hb, hlt⟩ := ho.form hn
  injection hv with hA _ _
  subst hA
  exact ⟨g, c, rfl, hb, hlt, hc⟩
def alive1.f : Option Bool := some true
set_option maxRecDepth 100000 in
set_option maxHeartbeats 800000 in
theorem alive1.calls (r : Bool) (w : World) (h : alive1.f = some r) :
    Calls Try.prog 13 #[] w fun e w' => e = .returned (.bool r) ∧ Below w.heap.size w w' := by
  obtain rfl := Option.some.inj h
  have Hl := Aside0.mk less_alive
  have Hb : Aside0 (span_Blocks.f 7 2 = some (0, 2, true)) := Aside0.mk (blocks_yes (by omega) (by omega) (by omega) (by omega))
  go_enter Try.func13, Try.ntmps13
  go_wp2_with fail
  refine (span_Less.calls 2 2 6 4 2 _ _ Hl.out).mono ?_
  rintro e w1 ⟨v, rfl, hR, hB⟩
  obtain ⟨g, c, rfl, hg, hlt, hC⟩ := row_at hR (by decide)
  have HC := Aside0.mk hC
  clear hC hR
  go_wp2_with fail
  refine (span_Blocks.calls 7 2 0 2 true _ Hb.out).mono ?_
  rintro e w2 ⟨rfl, hB2⟩
  have HC2 := Kd.C_below HC.out hB2
  obtain ⟨_, e1, x0, x1⟩ := at_T24 HC2 0 (by decide) (by decide)
  obtain ⟨_, e2, y0, y1⟩ := at_T24 HC2 1 (by decide) (by decide)
  cases e1
  cases e2
  have x0' : w2.cell? ⟨g, 0, none⟩ = some (.int .i64 2) := x0
  have x1' : w2.cell? ⟨g, 1, none⟩ = some (.int .i64 2) := x1
  have y0' : w2.cell? ⟨g, 2, none⟩ = some (.int .i64 6) := y0
  have y1' : w2.cell? ⟨g, 3, none⟩ = some (.int .i64 2) := y1
  have hlt2 : g < w2.heap.size := Nat.lt_of_lt_of_le hlt hB2.size
  clear x0 x1 y0 y1 HC2 HC
  go_wp2_with fail
  go_ret
  exact ⟨rfl, by repeat (first | exact below_step hB hB2 | apply below_alloc | apply pw_below_drewN | apply below_drew1)⟩
end Go.Proofs.Ytjbimnicnehnaaa.Hand
