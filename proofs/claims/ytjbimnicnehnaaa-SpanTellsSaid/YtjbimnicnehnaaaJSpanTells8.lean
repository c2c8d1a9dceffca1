/- Parts of the proof for SpanTells: Law1, Split. -/
import Derived.Deep.WholeRow
import Derived.Test.YtjbimnicnehnaaaJSpanTells7
import Derived.Test.YtjbimnicnehnaaaJSpanTells4
import Derived.Test.YtjbimnicnehnaaaJSpanTells3
import Derived.Test.YtjbimnicnehnaaaJSpanTells2
section
namespace Go.Proofs.Ytjbimnicnehnaaa.Hand
open Go.RowKit Go.Proofs.YtjbimnicnehnaaaW.PrintWords Go.Proofs.YtjbimnicnehnaaaW.PrintLast Go.Proofs.YtjbimnicnehnaaaW.PrintMore Go.Proofs.Ytjbimnicnehnaaa.A
set_option linter.unusedVariables false
set_option linter.unusedSimpArgs false
attribute [local go_sem] max2_int min2_int max_two min_two max_three min_three max_four min_four
attribute [local go_sem high] eqA24
set_option maxRecDepth 100000 in
theorem alive1 (w : World) :
    Calls Try.prog 13 #[] w fun e w' => e = .returned (.bool true) ∧ Below w.heap.size w w' := by
  go_enter Try.func13, Try.ntmps13
  go_wp2_with fail
  refine (span_Less.calls 1 2 6 4 2 [⟨2, 2⟩, ⟨6, 2⟩] _ (by rw [less_eq]; decide)).mono ?_
  rintro e w1 ⟨v, rfl, hr, hB⟩
  have ho := ORow.of_R hr
  obtain ⟨g, c, rfl, hlc, hbg, hgl, hc, _⟩ := ho.opened (by decide)
  have HB := Aside0.mk hB
  have x0 : w1.cell? ⟨g, 0, none⟩ = some (.int .i64 2) := (hc 0 _ rfl).1
  have x1 : w1.cell? ⟨g, 1, none⟩ = some (.int .i64 2) := (hc 0 _ rfl).2
  have y0 : w1.cell? ⟨g, 2, none⟩ = some (.int .i64 6) := (hc 1 _ rfl).1
  have y1 : w1.cell? ⟨g, 3, none⟩ = some (.int .i64 2) := (hc 1 _ rfl).2
  have Hg := Aside0.mk (show w.heap.size ≤ g ∧ g < w1.heap.size from ⟨hbg, hgl⟩)
  clear hr ho hc hB hlc hbg hgl
  go_wp2_with fail
  refine (span_Blocks.calls 7 2 0 2 true _ (by rw [blocks_yes (by decide) (by decide) (by decide) (by decide)]; decide)).mono ?_
  rintro e w2 ⟨rfl, hB⟩
  replace x0 := keep hB x0
  replace x1 := keep hB x1
  replace y0 := keep hB y0
  replace y1 := keep hB y1
  have Hgl : Aside0 (g < w2.heap.size) := ⟨Nat.lt_of_lt_of_le Hg.out.2 hB.size⟩
  have HB2 := Aside0.mk (below_step HB.out hB)
  have hgl2 : g < w2.heap.size := Hgl.out
  clear hB HB
  go_wp2_with fail
  go_ret
  exact ⟨rfl, by repeat (first | exact HB2.out | apply below_alloc | (refine Below.setCell ?_ (by have := HB2.out.size; simp; omega) _))⟩
theorem C_lit1 (W : World) (n : Nat) (hn : W.heap.size = n) (a m : Int) : Kd.C k24 (W.alloc (.cells #[.int .i64 a, .int .i64 m] 24)) (some ⟨n, 0, none⟩) 1 [⟨a, m⟩] := by
  subst hn
  exact C_lit W [⟨a, m⟩] (by simp) _ rfl
set_option maxRecDepth 100000 in
theorem set1 (a m : Int) (s : List Bool) (hs : s = putS none64 [⟨a, m⟩] true) (w : World) :
    Calls Try.prog 20 #[.agg #[.int .i64 a, .int .i64 m]] w fun e w' => e = .returned (.agg (setArr s)) ∧ Below w.heap.size w w' := by
  have Hs := Aside0.mk hs
  clear hs
  go_enter Try.func20, Try.ntmps20
  go_wp2_with fail
  have hz : #[Value.bool false, Value.bool false] = #[Value.bool false, Value.bool false] := rfl
  clear hz
  have hl : Aside0 (s.length = 64) := ⟨by rw [Hs.out]; exact putS_len _ _ _ (by simp)⟩
  refine calls_abs (fun X => Below w.heap.size w X ∧ Blk X (w.heap.size + 1) 30 (setArr (List.replicate 64 false)) ∧ Kd.C k24 X (some ⟨w.heap.size + 1 + 1, 0, none⟩) 1 [⟨a, m⟩] ∧ w.heap.size + 1 + 1 < X.heap.size) ⟨by repeat (first | exact Below.refl _ _ | apply below_alloc), (Blk.new2 _ _ _ _).alloc _, C_lit1 _ _ (by simp) a m, by simp⟩ ?_
  rintro W ⟨hb, hz, hc, hlt⟩
  have HB := Aside0.mk hb
  have HZ := Aside0.mk hz
  have HC := Aside0.mk hc
  clear hb hz hc hlt
  refine (emulsionref1_Set_Put.calls none64 ⟨by simp⟩ _ 1 [⟨a, m⟩] true _ HC.out (by simp)).mono ?_
  rintro e w1 ⟨rfl, hB⟩
  rw [← Hs.out]
  have HB1 := Aside0.mk (below_step HB.out hB)
  have HZ1 := Aside0.mk (HZ.out.keep hB)
  clear hB HB HZ HC
  go_wp2_with (with_reducible refine wpList_store_row rfl 30 (.tmp 2) (.tmp 6) rfl (w.heap.size + 1) (setArr s) rfl rfl 30 (setArr (List.replicate 64 false)) HZ1.out.hd (by rw [setArr_size, hl.out]; exact info30) (by rw [setArr_size, setArr_size, hl.out, List.length_replicate]) (setArr_one _) ?_)
  have HZ2 : Blk (w1.setRow (w.heap.size + 1) (setArr s)) (w.heap.size + 1) 30 (setArr s) := setRow_heap _ _ _ _ _ _ HZ1.out.hd
  exact bodyPost_ret (v := .agg (setArr s)) (results_cell_row rfl _ _ (w.heap.size + 1) 30 _ (0, 0) _ rfl HZ2.hd Try.underlying30 rfl (by rw [setArr_size, hl.out]; exact info30)) rfl ⟨rfl, below_setRow HB1.out (by omega) _⟩
end Go.Proofs.Ytjbimnicnehnaaa.Hand
end
section
namespace Go.Proofs.Ytjbimnicnehnaaa.Hand
open Go.RowKit Go.Proofs.YtjbimnicnehnaaaW.PrintWords Go.Proofs.YtjbimnicnehnaaaW.PrintLast Go.Proofs.YtjbimnicnehnaaaW.PrintMore Go.Proofs.Ytjbimnicnehnaaa.A
set_option linter.unusedVariables false
set_option linter.unusedSimpArgs false
abbrev spanS (a m : Int) : List Bool := putS none64 [⟨a, m⟩] true
theorem spanS_len (a m : Int) : (spanS a m).length = 64 := putS_len _ _ _ (by simp)
theorem spanS_get (a m : Int) (k : Nat) : (spanS a m).getD k false = decide (wh a m ∧ a ≤ (k : Int) ∧ (k : Int) < a + m) := by
  show (putOne none64 ⟨a, m⟩ true).getD k false = _
  rw [putOne_get _ _ _ _ (by simp), none64_get]
  by_cases h : wh a m ∧ a ≤ (k : Int) ∧ (k : Int) < a + m
  · rw [if_pos h, decide_eq_true h]
  · rw [if_neg h, decide_eq_false h]
/-- The one without the other. -/
def lessS (s t : List Bool) : List Bool := (List.range 64).map fun k => s.getD k false && !t.getD k false
theorem lessS_length (s t : List Bool) : (lessS s t).length = 64 := by unfold lessS; simp
theorem lessS_get (s t : List Bool) (k : Nat) (hk : k < 64) : (lessS s t).getD k false = (s.getD k false && !t.getD k false) := by
  unfold lessS
  rw [List.getD_eq_getElem?_getD, List.getElem?_map, List.getElem?_range hk]; rfl
theorem tidy_one {a m : Int} (h : wh a m) : Tidy 0 [(⟨a, m⟩ : S24)] := ⟨h.1, h.2.1, h.2.2, trivial⟩
theorem mem_one (a m k : Int) : mem [(⟨a, m⟩ : S24)] k ↔ a ≤ k ∧ k < a + m := by
  rw [mem_cons]
  exact ⟨fun h => h.elim id (fun h => absurd h (mem_nil k)), fun h => .inl h⟩
theorem both_laps {a m b n : Int} (h : laps a m b n) : spansOf (andS (spanS a m) (spanS b n)) = [⟨max a b, min (a + m) (b + n) - max a b⟩] := by
  refine (tidy_eq (tidy_one (laps_wh h)) (fun k hk => ?_)).symm
  rw [mem_one, andS_get _ _ k hk, spanS_get, spanS_get, Bool.and_eq_true, decide_eq_true_eq, decide_eq_true_eq]
  obtain ⟨h1, h2, h3⟩ := h
  constructor
  · intro q; exact ⟨⟨h1, by omega, by omega⟩, h2, by omega, by omega⟩
  · rintro ⟨⟨_, q1, q2⟩, _, q3, q4⟩; omega
theorem both_no {a m b n : Int} (h : ¬ laps a m b n) : andS (spanS a m) (spanS b n) = none64 := by
  refine bools_ext (andS_length _ _) (by simp) (fun k hk => ?_)
  rw [andS_get _ _ k hk, spanS_get, spanS_get, Bool.and_eq_true, decide_eq_true_eq, decide_eq_true_eq, none64_get]
  constructor
  · rintro ⟨⟨h1, q1, q2⟩, h2, q3, q4⟩; exact absurd ⟨h1, h2, by omega⟩ h
  · intro q; cases q
theorem none_cnt : cntS none64 64 = 0 := by decide
theorem less_tidy (a m b n : Int) : Tidy 0 (lessV a m b n) ∧ ∀ k, mem (lessV a m b n) k ↔ (wh a m ∧ a ≤ k ∧ k < a + m) ∧ ¬ (wh b n ∧ b ≤ k ∧ k < b + n) := by
  by_cases ha : wh a m
  · by_cases hb : wh b n
    · have h := cutV_spec (s := ⟨b, n⟩) hb (l := [⟨a, m⟩]) (Int.le_refl 0) (tidy_one ha)
      have e : cutV [(⟨a, m⟩ : S24)] ⟨b, n⟩ = lessV a m b n := by unfold cutV; simp
      rw [e] at h
      refine ⟨h.1, fun k => ?_⟩
      rw [h.2, mem_one]
      unfold inSp
      exact ⟨fun q => ⟨⟨ha, q.1⟩, fun r => q.2 r.2⟩, fun q => ⟨q.1.2, fun r => q.2 ⟨hb, r⟩⟩⟩
    · have e : lessV a m b n = [⟨a, m⟩] := by unfold lessV; rw [if_pos ha, if_neg (fun h => hb h.2.1)]
      rw [e]
      exact ⟨tidy_one ha, fun k => by rw [mem_one]; exact ⟨fun q => ⟨⟨ha, q⟩, fun r => hb r.1⟩, fun q => q.1.2⟩⟩
  · have e : lessV a m b n = [] := by unfold lessV; rw [if_neg ha]
    rw [e]
    exact ⟨trivial, fun k => ⟨fun q => absurd q (mem_nil k), fun q => absurd q.1.1 ha⟩⟩
theorem less_spans (a m b n : Int) : spansOf (lessS (spanS a m) (spanS b n)) = lessV a m b n := by
  obtain ⟨h1, h2⟩ := less_tidy a m b n
  refine (tidy_eq h1 (fun k hk => ?_)).symm
  rw [h2, lessS_get _ _ k hk, spanS_get, spanS_get, Bool.and_eq_true, decide_eq_true_eq, Bool.not_eq_true', decide_eq_false_iff_not]
end Go.Proofs.Ytjbimnicnehnaaa.Hand
end
