-- WRITTEN BY ownprint2.py, a program of this session, over functions that were proved by hand (Lean checks it)
import Derived.Test.YtmbigclkmclbdaaAx0
import Derived.Test.YtmbigclkmclbdaaAx11
import Derived.Test.YtmbigclkmclbdaaAx13
import Derived.Test.YtmbigclkmclbdaaAx16
import Derived.Test.YtmbigclkmclbdaaAx17
import Derived.Test.YtmbigclkmclbdaaBx0
import Derived.Test.YtmbigclkmclbdaaBx2
namespace Go.Proofs.Ytmbigclkmclbdaa.B
open Go.RowKit Go.Proofs.YtmbigclkmclbdaaW.PrintWords Go.Proofs.YtmbigclkmclbdaaW.PrintLast Go.Proofs.YtmbigclkmclbdaaW.PrintMore Go.Proofs.Ytmbigclkmclbdaa.A
attribute [local go_sem] max2_int min2_int max_two min_two max_three min_three max_four min_four   -- for this text's walks alone
set_option linter.unusedVariables false
set_option linter.unusedSimpArgs false

/-! ### emulsionlaw10_ExtentSets: function 4 -/
mutual
def emulsionlaw10_ExtentSets.j0 : Nat → List (S29) → Bool → Int → Int → Int → Option (Bool)
  | 0, _, _, _, _, _ => none
  | k + 1, x0, x28, x246000, x246001, x246002 => if x28 = true then ((emulsionlaw10_alive.f k).bind fun t248 => (some t248)) else ((Maps.law10_Tidy.f x0).bind fun t249 => ((A.extent_Set.f k t249 x246000 x246001 x246002).bind fun t252 => ((A.extent_Cut.f k t252 x246000 x246001).bind fun t255 => (emulsionlaw10_ExtentSets.l0 k t249 t252 t255 0 x246000 x246001 x246002))))
def emulsionlaw10_ExtentSets.l0 : Nat → List (S29) → List (S29) → List (S29) → Int → Int → Int → Int → Option (Bool)
  | 0, _, _, _, _, _, _, _ => none
  | k + 1, x5, x6, x7, x8, x246000, x246001, x246002 => if x8 < 64 then ((A.extent_Find.f k x5 x8).bind fun bt258 => ((A.extent_Find.f k x6 x8).bind fun bt260 => ((A.extent_Find.f k x7 x8).bind fun bt262 => (if x8 ≥ x246000 then (emulsionlaw10_ExtentSets.j2 k x5 x6 x7 x8 bt258.1 bt258.2 bt260.1 bt260.2 bt262.2 (decide (x8 < (wrap64 (x246000 + x246001)))) x246000 x246001 x246002) else (emulsionlaw10_ExtentSets.j2 k x5 x6 x7 x8 bt258.1 bt258.2 bt260.1 bt260.2 bt262.2 false x246000 x246001 x246002))))) else (some (decide ((x6.length : Int) ≤ (wrap64 ((x5.length : Int) + 2)))))
def emulsionlaw10_ExtentSets.j2 : Nat → List (S29) → List (S29) → List (S29) → Int → Int → Bool → Int → Bool → Bool → Bool → Int → Int → Int → Option (Bool)
  | 0, _, _, _, _, _, _, _, _, _, _, _, _, _ => none
  | k + 1, x5, x6, x7, x8, x9, x10, x11, x12, x14, x15, x246000, x246001, x246002 => if x246002 > 0 then (if x15 = true then (if x12 = true then (if x11 = (wrap64 ((wrap64 (x246002 + x8)) - x246000)) then (if x14 = true then (some false) else (emulsionlaw10_ExtentSets.l0 k x5 x6 x7 (wrap64 (x8 + 1)) x246000 x246001 x246002)) else (some false)) else (some false)) else (if (x10 != x12) = true then (some false) else (if x9 = x11 then (if (x10 != x14) = true then (some false) else (emulsionlaw10_ExtentSets.l0 k x5 x6 x7 (wrap64 (x8 + 1)) x246000 x246001 x246002)) else (some false)))) else (if x15 = true then (if x12 = true then (if x11 = 0 then (if x14 = true then (some false) else (emulsionlaw10_ExtentSets.l0 k x5 x6 x7 (wrap64 (x8 + 1)) x246000 x246001 x246002)) else (some false)) else (some false)) else (if (x10 != x12) = true then (some false) else (if x9 = x11 then (if (x10 != x14) = true then (some false) else (emulsionlaw10_ExtentSets.l0 k x5 x6 x7 (wrap64 (x8 + 1)) x246000 x246001 x246002)) else (some false))))
end
def emulsionlaw10_ExtentSets.f (k : Nat) (l0 : List (S29)) (a1_0 : Int) (a1_1 : Int) (a1_2 : Int) : Option (Bool) := if (l0.length : Int) > 60 then (emulsionlaw10_ExtentSets.j0 k l0 true a1_0 a1_1 a1_2) else ((A.emulsionref1_Alone.f a1_0 a1_1 a1_2).bind fun t246 => (if t246 = true then ((emulsionlaw10_alive.f k).bind fun t247 => (emulsionlaw10_ExtentSets.j0 k l0 (!t247) a1_0 a1_1 a1_2)) else (emulsionlaw10_ExtentSets.j0 k l0 true a1_0 a1_1 a1_2)))
theorem emulsionlaw10_ExtentSets.mono_l : ∀ k, (∀ y0 y1 y2 y3 y4, LeO (emulsionlaw10_ExtentSets.j0 k y0 y1 y2 y3 y4) (emulsionlaw10_ExtentSets.j0 (k + 1) y0 y1 y2 y3 y4)) ∧ (∀ y0 y1 y2 y3 y4 y5 y6, LeO (emulsionlaw10_ExtentSets.l0 k y0 y1 y2 y3 y4 y5 y6) (emulsionlaw10_ExtentSets.l0 (k + 1) y0 y1 y2 y3 y4 y5 y6)) ∧ (∀ y0 y1 y2 y3 y4 y5 y6 y7 y8 y9 y10 y11 y12, LeO (emulsionlaw10_ExtentSets.j2 k y0 y1 y2 y3 y4 y5 y6 y7 y8 y9 y10 y11 y12) (emulsionlaw10_ExtentSets.j2 (k + 1) y0 y1 y2 y3 y4 y5 y6 y7 y8 y9 y10 y11 y12))
  | 0 => ⟨fun _ _ _ _ _ r h => by simp [emulsionlaw10_ExtentSets.j0] at h, fun _ _ _ _ _ _ _ r h => by simp [emulsionlaw10_ExtentSets.l0] at h, fun _ _ _ _ _ _ _ _ _ _ _ _ _ r h => by simp [emulsionlaw10_ExtentSets.j2] at h⟩
  | k + 1 => by
    obtain ⟨ih0, ih1, ih2⟩ := emulsionlaw10_ExtentSets.mono_l k
    refine ⟨?_, ?_, ?_⟩
    · intro y0 y1 y2 y3 y4
      unfold emulsionlaw10_ExtentSets.j0
      repeat' first
      | (with_reducible exact ih0 _ _ _ _ _)
      | (with_reducible exact ih1 _ _ _ _ _ _ _)
      | (with_reducible exact ih2 _ _ _ _ _ _ _ _ _ _ _ _ _)
      | (with_reducible exact A.extent_Cut.mono _ _ _ _)
      | (with_reducible exact A.extent_Find.mono _ _ _)
      | (with_reducible exact A.extent_Set.mono _ _ _ _ _)
      | (with_reducible exact emulsionlaw10_alive.mono _)
      | (with_reducible exact LeO.refl _)
      | (with_reducible exact LeO.none _)
      | (with_reducible refine LeO.ite ?_ ?_)
      | (with_reducible refine LeO.bind ?_ (fun _ => ?_))
      | exact ih0 _ _ _ _ _
      | exact ih1 _ _ _ _ _ _ _
      | exact ih2 _ _ _ _ _ _ _ _ _ _ _ _ _
      | exact A.extent_Cut.mono _ _ _ _
      | exact A.extent_Find.mono _ _ _
      | exact A.extent_Set.mono _ _ _ _ _
      | exact emulsionlaw10_alive.mono _
      | exact LeO.none _
      | refine LeO.ite ?_ ?_
      | refine LeO.bind ?_ (fun _ => ?_)
    · intro y0 y1 y2 y3 y4 y5 y6
      unfold emulsionlaw10_ExtentSets.l0
      repeat' first
      | (with_reducible exact ih0 _ _ _ _ _)
      | (with_reducible exact ih1 _ _ _ _ _ _ _)
      | (with_reducible exact ih2 _ _ _ _ _ _ _ _ _ _ _ _ _)
      | (with_reducible exact A.extent_Cut.mono _ _ _ _)
      | (with_reducible exact A.extent_Find.mono _ _ _)
      | (with_reducible exact A.extent_Set.mono _ _ _ _ _)
      | (with_reducible exact emulsionlaw10_alive.mono _)
      | (with_reducible exact LeO.refl _)
      | (with_reducible exact LeO.none _)
      | (with_reducible refine LeO.ite ?_ ?_)
      | (with_reducible refine LeO.bind ?_ (fun _ => ?_))
      | exact ih0 _ _ _ _ _
      | exact ih1 _ _ _ _ _ _ _
      | exact ih2 _ _ _ _ _ _ _ _ _ _ _ _ _
      | exact A.extent_Cut.mono _ _ _ _
      | exact A.extent_Find.mono _ _ _
      | exact A.extent_Set.mono _ _ _ _ _
      | exact emulsionlaw10_alive.mono _
      | exact LeO.none _
      | refine LeO.ite ?_ ?_
      | refine LeO.bind ?_ (fun _ => ?_)
    · intro y0 y1 y2 y3 y4 y5 y6 y7 y8 y9 y10 y11 y12
      unfold emulsionlaw10_ExtentSets.j2
      repeat' first
      | (with_reducible exact ih0 _ _ _ _ _)
      | (with_reducible exact ih1 _ _ _ _ _ _ _)
      | (with_reducible exact ih2 _ _ _ _ _ _ _ _ _ _ _ _ _)
      | (with_reducible exact A.extent_Cut.mono _ _ _ _)
      | (with_reducible exact A.extent_Find.mono _ _ _)
      | (with_reducible exact A.extent_Set.mono _ _ _ _ _)
      | (with_reducible exact emulsionlaw10_alive.mono _)
      | (with_reducible exact LeO.refl _)
      | (with_reducible exact LeO.none _)
      | (with_reducible refine LeO.ite ?_ ?_)
      | (with_reducible refine LeO.bind ?_ (fun _ => ?_))
      | exact ih0 _ _ _ _ _
      | exact ih1 _ _ _ _ _ _ _
      | exact ih2 _ _ _ _ _ _ _ _ _ _ _ _ _
      | exact A.extent_Cut.mono _ _ _ _
      | exact A.extent_Find.mono _ _ _
      | exact A.extent_Set.mono _ _ _ _ _
      | exact emulsionlaw10_alive.mono _
      | exact LeO.none _
      | refine LeO.ite ?_ ?_
      | refine LeO.bind ?_ (fun _ => ?_)
theorem emulsionlaw10_ExtentSets.mono : ∀ a0 a1 a2 a3 k, LeO (emulsionlaw10_ExtentSets.f k a0 a1 a2 a3) (emulsionlaw10_ExtentSets.f (k + 1) a0 a1 a2 a3) := by
  intro a0 a1 a2 a3 k
  obtain ⟨ih0, ih1, ih2⟩ := emulsionlaw10_ExtentSets.mono_l k
  unfold emulsionlaw10_ExtentSets.f
  repeat' first
      | (with_reducible exact ih0 _ _ _ _ _)
      | (with_reducible exact ih1 _ _ _ _ _ _ _)
      | (with_reducible exact ih2 _ _ _ _ _ _ _ _ _ _ _ _ _)
      | (with_reducible exact A.extent_Cut.mono _ _ _ _)
      | (with_reducible exact A.extent_Find.mono _ _ _)
      | (with_reducible exact A.extent_Set.mono _ _ _ _ _)
      | (with_reducible exact emulsionlaw10_alive.mono _)
      | (with_reducible exact LeO.refl _)
      | (with_reducible exact LeO.none _)
      | (with_reducible refine LeO.ite ?_ ?_)
      | (with_reducible refine LeO.bind ?_ (fun _ => ?_))
      | exact ih0 _ _ _ _ _
      | exact ih1 _ _ _ _ _ _ _
      | exact ih2 _ _ _ _ _ _ _ _ _ _ _ _ _
      | exact A.extent_Cut.mono _ _ _ _
      | exact A.extent_Find.mono _ _ _
      | exact A.extent_Set.mono _ _ _ _ _
      | exact emulsionlaw10_alive.mono _
      | exact LeO.none _
      | refine LeO.ite ?_ ?_
      | refine LeO.bind ?_ (fun _ => ?_)
set_option maxHeartbeats 8000000 in
set_option maxRecDepth 100000 in
theorem emulsionlaw10_ExtentSets.calls (k : Nat) (A0 : Option Addr) (c0 : Nat) (l0 : List (S29)) (a1_0 : Int) (a1_1 : Int) (a1_2 : Int) (r : Bool) (w : World) (hr0 : Kd.C k29 w A0 l0.length l0) (hc0 : l0.length ≤ c0) (h : emulsionlaw10_ExtentSets.f k l0 a1_0 a1_1 a1_2 = some r) :
    Calls Try.prog 4 #[.slice A0 l0.length c0, .agg #[.int .i64 a1_0, .int .i64 a1_1, .int .i64 a1_2]] w fun e w' => e = .returned (.bool r) ∧ Below w.heap.size w w' := by
  have hu29 := Try.underlying29
  have hu34 := Try.underlying34
  have HR0 := Aside0.mk hr0
  have HC0 := Aside0.mk hc0
  clear hr0 hc0
  have HB := Aside0.mk (Below.refl w.heap.size w)
  have H : (if (l0.length : Int) > 60 then (emulsionlaw10_ExtentSets.j0 k l0 true a1_0 a1_1 a1_2) else ((A.emulsionref1_Alone.f a1_0 a1_1 a1_2).bind fun t246 => (if t246 = true then ((emulsionlaw10_alive.f k).bind fun t247 => (emulsionlaw10_ExtentSets.j0 k l0 (!t247) a1_0 a1_1 a1_2)) else (emulsionlaw10_ExtentSets.j0 k l0 true a1_0 a1_1 a1_2)))) = some r := h
  clear h
  have HC3 := Aside0.mk H
  clear H
  go_enter Try.func4, Try.ntmps4
  go_upto_region 1 with (first | ((with_reducible refine gate_dst (N := 3) rfl ?_); refine box_event ?hg (N := 3) ?hd (cs := #[.int .i64 a1_0, .int .i64 a1_1, .int .i64 a1_2]) (t := 29) ?hr ?_; (case hd => rfl); (case hg => rfl); (case hr => first | (go_simp; done) | (go_simp; rfl)); intro gb245 hg w4 hbox hb; have n0_ := Aside0.mk (below_step (by repeat (first | (with_reducible first | exact HB.out | apply below_alloc | apply pw_below_drewN | apply below_drew1) | exact HB.out)) hb); have n1_ := Aside0.mk (hbox); have n2_ := Aside0.mk ((by rw [hg]; exact (below_size (by repeat (first | (with_reducible first | exact HB.out | apply below_alloc | apply pw_below_drewN | apply below_drew1) | exact HB.out))) : w.heap.size ≤ gb245)); have n3_ := Aside0.mk ((by rw [hg]; exact (below_size (by repeat (first | (with_reducible first | exact HB.out | apply below_alloc | apply pw_below_drewN | apply below_drew1) | exact HB.out))) : w.heap.size ≤ gb245)); clear HB; have HB := n0_; have BK245 := n1_; have GW245 := n2_; have GE245 := n3_; clear n0_ n1_ n2_ n3_; clear hb hbox hg))
  (try simp only [Act.put, List.setIfInBounds_toArray, List.set_cons_zero, List.set_cons_succ])
  go_cut [28] (fun v28 wc => ∃ (kq : Nat) (x28_2 : Bool), v28 = .bool x28_2 ∧ Aside0 (emulsionlaw10_ExtentSets.j0 kq l0 x28_2 a1_0 a1_1 a1_2 = some r) ∧ Aside0 (kq ≤ k) ∧ Aside0 (wc.heap[gb245]? = some (.cells #[.int .i64 a1_0, .int .i64 a1_1, .int .i64 a1_2] 29 (0, 0))) ∧ Aside0 (Below w.heap.size w wc))
  case first =>
    have H := HC3.out
    clear HC3
    by_cases c5 : (l0.length : Int) > 60
    · rw [if_pos c5] at H
      have c5b0 : decide (60 < (l0.length : Int)) = true := decide_eq_true c5
      have c5b1 : decide (60 < l0.length) = true := decide_eq_true (by omega)
      clear c5
      (first | rw [c5b0] | (simp only [i64_w, i32_w]; rw [c5b0]) | skip)
      have H' := Aside0.mk H
      clear H
      go_wp2
      go_meet
      case rel => exact ⟨_, (true), (by first | rfl | (simp; done) | (simp [*]; done)), H', ⟨by first | omega | exact Nat.le_refl _⟩, ⟨by (with_reducible repeat (first | refine blk_drewN ?_ _ | refine blk_drew ?_ | refine blk_alloc ?_ _)); exact BK245.out⟩, ⟨by repeat (first | (with_reducible first | exact HB.out | apply below_alloc | apply pw_below_drewN | apply below_drew1 | refine below_set ?_ GE245.out) | exact HB.out)⟩⟩
    · rw [if_neg c5] at H
      have c5b0 : decide (60 < (l0.length : Int)) = false := decide_eq_false c5
      have c5b1 : decide (60 < l0.length) = false := decide_eq_false (by omega)
      clear c5
      (first | rw [c5b0] | (simp only [i64_w, i32_w]; rw [c5b0]) | skip)
      replace H := Option.bind_eq_some_iff.mp H
      obtain ⟨t246, A60, H⟩ := H
      replace H : (if t246 = true then ((emulsionlaw10_alive.f k).bind fun t247 => (emulsionlaw10_ExtentSets.j0 k l0 (!t247) a1_0 a1_1 a1_2)) else (emulsionlaw10_ExtentSets.j0 k l0 true a1_0 a1_1 a1_2)) = some r := H
      have A6 := Aside0.mk A60
      clear A60
      by_cases c7 : t246 = true
      · subst c7
        have H1 : ((emulsionlaw10_alive.f k).bind fun t247 => (emulsionlaw10_ExtentSets.j0 k l0 (!t247) a1_0 a1_1 a1_2)) = some r := by rw [if_pos rfl] at H; exact H
        clear H
        have H := H1
        clear H1
        replace H := Option.bind_eq_some_iff.mp H
        obtain ⟨t247, A80, H⟩ := H
        replace H : (emulsionlaw10_ExtentSets.j0 k l0 (!t247) a1_0 a1_1 a1_2) = some r := H
        have A8 := Aside0.mk A80
        clear A80
        have H' := Aside0.mk H
        clear H
        have hcz9_0 : w4.cell? ⟨gb245, 0, none⟩ = some (.int .i64 a1_0) := (blk_cell BK245.out 0).trans rfl
        have hcz9_1 : w4.cell? ⟨gb245, 1, none⟩ = some (.int .i64 a1_1) := (blk_cell BK245.out 1).trans rfl
        have hcz9_2 : w4.cell? ⟨gb245, 2, none⟩ = some (.int .i64 a1_2) := (blk_cell BK245.out 2).trans rfl
        have hfz9_0 := blk_frozen BK245.out 0
        have hfz9_1 := blk_frozen BK245.out 1
        have hfz9_2 := blk_frozen BK245.out 2
        go_wp2_with (first | (go_at_call 16; (with_reducible refine (A.emulsionref1_Alone.calls a1_0 a1_1 a1_2 true _ A6.out).mono ?_); rintro e w10 ⟨rfl, hb⟩; have n0_ := Aside0.mk (blk_below (g := gb245) (o := .cells #[.int .i64 a1_0, .int .i64 a1_1, .int .i64 a1_2] 29 (0, 0)) (by (with_reducible repeat (first | refine blk_drewN ?_ _ | refine blk_drew ?_ | refine blk_alloc ?_ _)); exact BK245.out) hb); have n1_ := Aside0.mk (below_step (by repeat (first | (with_reducible first | exact HB.out | apply below_alloc | apply pw_below_drewN | apply below_drew1 | refine below_set ?_ GE245.out) | exact HB.out)) hb); clear BK245; clear HB; have BK245 := n0_; have HB := n1_; clear n0_ n1_; (try clear hb); (try clear hb2); (try clear hk); (try clear hi)) | (go_at_call 12; (with_reducible refine (emulsionlaw10_alive.calls k  t247 _ A8.out).mono ?_); rintro e w11 ⟨rfl, hb⟩; have n0_ := Aside0.mk (blk_below (g := gb245) (o := .cells #[.int .i64 a1_0, .int .i64 a1_1, .int .i64 a1_2] 29 (0, 0)) (by (with_reducible repeat (first | refine blk_drewN ?_ _ | refine blk_drew ?_ | refine blk_alloc ?_ _)); exact BK245.out) hb); have n1_ := Aside0.mk (below_step (by repeat (first | (with_reducible first | exact HB.out | apply below_alloc | apply pw_below_drewN | apply below_drew1 | refine below_set ?_ GE245.out) | exact HB.out)) hb); clear BK245; clear HB; have BK245 := n0_; have HB := n1_; clear n0_ n1_; (try clear hb); (try clear hb2); (try clear hk); (try clear hi)))
        go_meet
        case rel => exact ⟨_, (!t247), (by first | rfl | (simp; done) | (simp [*]; done)), H', ⟨by first | omega | exact Nat.le_refl _⟩, ⟨by (with_reducible repeat (first | refine blk_drewN ?_ _ | refine blk_drew ?_ | refine blk_alloc ?_ _)); exact BK245.out⟩, ⟨by repeat (first | (with_reducible first | exact HB.out | apply below_alloc | apply pw_below_drewN | apply below_drew1 | refine below_set ?_ GE245.out) | exact HB.out)⟩⟩
      · replace c7 := Bool.eq_false_iff.mpr c7
        subst c7
        have H1 : (emulsionlaw10_ExtentSets.j0 k l0 true a1_0 a1_1 a1_2) = some r := by rw [if_neg (show ¬ (false = true) by decide)] at H; exact H
        clear H
        have H := H1
        clear H1
        have H' := Aside0.mk H
        clear H
        have hcz12_0 : w4.cell? ⟨gb245, 0, none⟩ = some (.int .i64 a1_0) := (blk_cell BK245.out 0).trans rfl
        have hcz12_1 : w4.cell? ⟨gb245, 1, none⟩ = some (.int .i64 a1_1) := (blk_cell BK245.out 1).trans rfl
        have hcz12_2 : w4.cell? ⟨gb245, 2, none⟩ = some (.int .i64 a1_2) := (blk_cell BK245.out 2).trans rfl
        have hfz12_0 := blk_frozen BK245.out 0
        have hfz12_1 := blk_frozen BK245.out 1
        have hfz12_2 := blk_frozen BK245.out 2
        go_wp2_with (first | (go_at_call 16; (with_reducible refine (A.emulsionref1_Alone.calls a1_0 a1_1 a1_2 false _ A6.out).mono ?_); rintro e w13 ⟨rfl, hb⟩; have n0_ := Aside0.mk (blk_below (g := gb245) (o := .cells #[.int .i64 a1_0, .int .i64 a1_1, .int .i64 a1_2] 29 (0, 0)) (by (with_reducible repeat (first | refine blk_drewN ?_ _ | refine blk_drew ?_ | refine blk_alloc ?_ _)); exact BK245.out) hb); have n1_ := Aside0.mk (below_step (by repeat (first | (with_reducible first | exact HB.out | apply below_alloc | apply pw_below_drewN | apply below_drew1 | refine below_set ?_ GE245.out) | exact HB.out)) hb); clear BK245; clear HB; have BK245 := n0_; have HB := n1_; clear n0_ n1_; (try clear hb); (try clear hb2); (try clear hk); (try clear hi)))
        go_meet
        case rel => exact ⟨_, (true), (by first | rfl | (simp; done) | (simp [*]; done)), H', ⟨by first | omega | exact Nat.le_refl _⟩, ⟨by (with_reducible repeat (first | refine blk_drewN ?_ _ | refine blk_drew ?_ | refine blk_alloc ?_ _)); exact BK245.out⟩, ⟨by repeat (first | (with_reducible first | exact HB.out | apply below_alloc | apply pw_below_drewN | apply below_drew1 | refine below_set ?_ GE245.out) | exact HB.out)⟩⟩
  case rest =>
    clear HC3
    try clear p2
    try clear c4
    try clear c5
    try clear c5b0
    try clear c5b1
    try clear c7
    try clear hcz12_0
    try clear hcz12_1
    try clear hcz12_2
    try clear hcz9_0
    try clear hcz9_1
    try clear hcz9_2
    try clear hfz12_0
    try clear hfz12_1
    try clear hfz12_2
    try clear hfz9_0
    try clear hfz9_1
    try clear hfz9_2
    obtain ⟨kq, x28_2, rfl, HA, HJ2, BK245, HB⟩ := hcut
    cases kq with
    | zero => exact absurd HA.out (by simp [emulsionlaw10_ExtentSets.j0])
    | succ kj2 =>
      have H := HA.out
      clear HA
      simp only [emulsionlaw10_ExtentSets.j0] at H
      by_cases c14 : x28_2 = true
      · subst c14
        have H1 : ((emulsionlaw10_alive.f kj2).bind fun t248 => (some t248)) = some r := by rw [if_pos rfl] at H; exact H
        clear H
        have H := H1
        clear H1
        replace H := Option.bind_eq_some_iff.mp H
        obtain ⟨t248, A150, H⟩ := H
        replace H : (some t248) = some r := H
        have A15 := Aside0.mk A150
        clear A150
        obtain rfl := Option.some.inj H
        go_wp2_with (first | ((with_reducible refine gate_callee (f := 12) rfl ?_); refine goesL_ (some 29) rfl rfl Try.func12 (by kernel_rfl) rfl #[] rfl (by (try simp only [List.map_toArray, List.map_cons, List.map_nil]); first | done | rfl | (simp only [List.length_drop, List.length_take]; rfl)) ?_; (with_reducible refine (emulsionlaw10_alive.calls kj2  t248 _ A15.out).mono ?_); rintro e w16 ⟨rfl, hb⟩; refine ⟨_, rfl, ?_⟩; have n0_ := Aside0.mk (blk_below (g := gb245) (o := .cells #[.int .i64 a1_0, .int .i64 a1_1, .int .i64 a1_2] 29 (0, 0)) (by (with_reducible repeat (first | refine blk_drewN ?_ _ | refine blk_drew ?_ | refine blk_alloc ?_ _)); exact BK245.out) hb); have n1_ := Aside0.mk (below_step (by repeat (first | (with_reducible first | exact HB.out | apply below_alloc | apply pw_below_drewN | apply below_drew1 | refine below_set ?_ GE245.out) | exact HB.out)) hb); clear BK245; clear HB; have BK245 := n0_; have HB := n1_; clear n0_ n1_; (try clear hb); (try clear hb2); (try clear hk); (try clear hi)))
        go_ret
        exact ⟨by first | rfl | (simp [errW_none, errW_some] <;> rfl) | (simp [*, errW_none, errW_some] <;> rfl), by repeat (first | (with_reducible first | exact HB.out | apply below_alloc | apply pw_below_drewN | apply below_drew1 | refine below_set ?_ GE245.out) | exact HB.out)⟩
      · replace c14 := Bool.eq_false_iff.mpr c14
        subst c14
        have H1 : ((Maps.law10_Tidy.f l0).bind fun t249 => ((A.extent_Set.f kj2 t249 a1_0 a1_1 a1_2).bind fun t252 => ((A.extent_Cut.f kj2 t252 a1_0 a1_1).bind fun t255 => (emulsionlaw10_ExtentSets.l0 kj2 t249 t252 t255 0 a1_0 a1_1 a1_2)))) = some r := by rw [if_neg (show ¬ (false = true) by decide)] at H; exact H
        clear H
        have H := H1
        clear H1
        replace H := Option.bind_eq_some_iff.mp H
        obtain ⟨t249, A170, H⟩ := H
        replace H : ((A.extent_Set.f kj2 t249 a1_0 a1_1 a1_2).bind fun t252 => ((A.extent_Cut.f kj2 t252 a1_0 a1_1).bind fun t255 => (emulsionlaw10_ExtentSets.l0 kj2 t249 t252 t255 0 a1_0 a1_1 a1_2))) = some r := H
        have A17 := Aside0.mk A170
        clear A170
        replace H := Option.bind_eq_some_iff.mp H
        obtain ⟨t252, A180, H⟩ := H
        replace H : ((A.extent_Cut.f kj2 t252 a1_0 a1_1).bind fun t255 => (emulsionlaw10_ExtentSets.l0 kj2 t249 t252 t255 0 a1_0 a1_1 a1_2)) = some r := H
        have A18 := Aside0.mk A180
        clear A180
        replace H := Option.bind_eq_some_iff.mp H
        obtain ⟨t255, A190, H⟩ := H
        replace H : (emulsionlaw10_ExtentSets.l0 kj2 t249 t252 t255 0 a1_0 a1_1 a1_2) = some r := H
        have A19 := Aside0.mk A190
        clear A190
        have H' := Aside0.mk H
        clear H
        go_wp2_with (first | ((with_reducible refine gate_callee (f := 13) rfl ?_); refine goesL_ (some 31) rfl rfl Try.func13 (by kernel_rfl) rfl #[.slice A0 l0.length c0] rfl (by (try simp only [List.map_toArray, List.map_cons, List.map_nil]); first | done | rfl | (simp only [List.length_drop, List.length_take]; rfl)) ?_; (with_reducible refine (Maps.law10_Tidy.calls _ _ l0 t249 _ ?side1 ?side2 A17.out).mono ?_); (case side1 => repeat (first | exact (Kd.C_below HR0.out HB.out) | (with_reducible refine Kd.C_alloc ?_ _) | (with_reducible refine Kd.C_drewN ?_ _) | (with_reducible refine Kd.C_drew ?_))); (case side2 => exact HC0.out); rintro e w20 ⟨v250, rfl, ho0, hb⟩; refine ⟨_, rfl, ?_⟩; have n0_ := Aside0.mk (Kd.R_lower (Kd.R_newB ho0 (g := gb245) (o := .cells #[.int .i64 a1_0, .int .i64 a1_1, .int .i64 a1_2] 29 (0, 0)) (by (with_reducible repeat (first | refine blk_drewN ?_ _ | refine blk_drew ?_ | refine blk_alloc ?_ _)); exact BK245.out)) (below_size (by repeat (first | (with_reducible first | exact HB.out | apply below_alloc | apply pw_below_drewN | apply below_drew1 | refine below_set ?_ GE245.out) | exact HB.out)))); have n1_ := Aside0.mk (blk_below (g := gb245) (o := .cells #[.int .i64 a1_0, .int .i64 a1_1, .int .i64 a1_2] 29 (0, 0)) (by (with_reducible repeat (first | refine blk_drewN ?_ _ | refine blk_drew ?_ | refine blk_alloc ?_ _)); exact BK245.out) hb); have n2_ := Aside0.mk (below_step (by repeat (first | (with_reducible first | exact HB.out | apply below_alloc | apply pw_below_drewN | apply below_drew1 | refine below_set ?_ GE245.out) | exact HB.out)) hb); clear BK245; clear HB; have HO251 := n0_; have BK245 := n1_; have HB := n2_; clear n0_ n1_ n2_; (try clear hb); (try clear hb2); (try clear hk); (try clear hi); (try clear ho0); have hcz21_0 : w20.cell? ⟨gb245, 0, none⟩ = some (.int .i64 a1_0) := (blk_cell BK245.out 0).trans rfl; have hcz21_1 : w20.cell? ⟨gb245, 1, none⟩ = some (.int .i64 a1_1) := (blk_cell BK245.out 1).trans rfl; have hcz21_2 : w20.cell? ⟨gb245, 2, none⟩ = some (.int .i64 a1_2) := (blk_cell BK245.out 2).trans rfl; have hfz21_0 := blk_frozen BK245.out 0; have hfz21_1 := blk_frozen BK245.out 1; have hfz21_2 := blk_frozen BK245.out 2; obtain ⟨Ao22, co22, eo22⟩ := Kd.R_slice HO251.out; subst eo22) | ((with_reducible refine gate_callee (f := 17) rfl ?_); refine goesL_ (some 34) rfl rfl Try.func17 (by kernel_rfl) rfl #[.slice Ao22 t249.length co22, .agg #[.int .i64 a1_0, .int .i64 a1_1, .int .i64 a1_2]] rfl (by (try simp only [List.map_toArray, List.map_cons, List.map_nil]); first | done | rfl | (simp only [List.length_drop, List.length_take]; rfl)) ?_; (with_reducible refine (A.extent_Set.calls kj2 _ _ t249 a1_0 a1_1 a1_2 t252 _ ?side1 ?side2 A18.out).mono ?_); (case side1 => repeat (first | exact (Kd.R_reads' HO251.out).2.2 | (with_reducible refine Kd.C_alloc ?_ _) | (with_reducible refine Kd.C_drewN ?_ _) | (with_reducible refine Kd.C_drew ?_))); (case side2 => exact (Kd.R_reads' HO251.out).2.1); rintro e w23 ⟨v253, rfl, ho0, hb⟩; refine ⟨_, rfl, ?_⟩; have n0_ := Aside0.mk (Kd.R_elder' (by (with_reducible repeat (first | apply Kd.R_alloc | apply Kd.R_drewN | apply Kd.R_drew)); exact HO251.out) (Kd.R_base ho0) hb); have n1_ := Aside0.mk (Kd.R_lower (Kd.R_newB (Kd.R_new' ho0 (Kd.R_lt (by (with_reducible repeat (first | apply Kd.R_alloc | apply Kd.R_drewN | apply Kd.R_drew)); exact HO251.out))) (g := gb245) (o := .cells #[.int .i64 a1_0, .int .i64 a1_1, .int .i64 a1_2] 29 (0, 0)) (by (with_reducible repeat (first | refine blk_drewN ?_ _ | refine blk_drew ?_ | refine blk_alloc ?_ _)); exact BK245.out)) (below_size (by repeat (first | (with_reducible first | exact HB.out | apply below_alloc | apply pw_below_drewN | apply below_drew1 | refine below_set ?_ GE245.out) | exact HB.out)))); have n2_ := Aside0.mk (blk_below (g := gb245) (o := .cells #[.int .i64 a1_0, .int .i64 a1_1, .int .i64 a1_2] 29 (0, 0)) (by (with_reducible repeat (first | refine blk_drewN ?_ _ | refine blk_drew ?_ | refine blk_alloc ?_ _)); exact BK245.out) hb); have n3_ := Aside0.mk (below_step (by repeat (first | (with_reducible first | exact HB.out | apply below_alloc | apply pw_below_drewN | apply below_drew1 | refine below_set ?_ GE245.out) | exact HB.out)) hb); clear HO251; clear BK245; clear HB; have HO251 := n0_; have HO254 := n1_; have BK245 := n2_; have HB := n3_; clear n0_ n1_ n2_ n3_; (try clear hb); (try clear hb2); (try clear hk); (try clear hi); (try clear ho0); have hcz24_0 : w23.cell? ⟨gb245, 0, none⟩ = some (.int .i64 a1_0) := (blk_cell BK245.out 0).trans rfl; have hcz24_1 : w23.cell? ⟨gb245, 1, none⟩ = some (.int .i64 a1_1) := (blk_cell BK245.out 1).trans rfl; have hcz24_2 : w23.cell? ⟨gb245, 2, none⟩ = some (.int .i64 a1_2) := (blk_cell BK245.out 2).trans rfl; have hfz24_0 := blk_frozen BK245.out 0; have hfz24_1 := blk_frozen BK245.out 1; have hfz24_2 := blk_frozen BK245.out 2; obtain ⟨Ao25, co25, eo25⟩ := Kd.R_slice HO254.out; subst eo25) | ((with_reducible refine gate_callee (f := 18) rfl ?_); refine goesL_ (some 41) rfl rfl Try.func18 (by kernel_rfl) rfl #[.slice Ao25 t252.length co25, .agg #[.int .i64 a1_0, .int .i64 a1_1]] rfl (by (try simp only [List.map_toArray, List.map_cons, List.map_nil]); first | done | rfl | (simp only [List.length_drop, List.length_take]; rfl)) ?_; (with_reducible refine (A.extent_Cut.calls kj2 _ _ t252 a1_0 a1_1 t255 _ ?side1 ?side2 A19.out).mono ?_); (case side1 => repeat (first | exact (Kd.R_reads' HO254.out).2.2 | (with_reducible refine Kd.C_alloc ?_ _) | (with_reducible refine Kd.C_drewN ?_ _) | (with_reducible refine Kd.C_drew ?_))); (case side2 => exact (Kd.R_reads' HO254.out).2.1); rintro e w26 ⟨v256, rfl, ho0, hb⟩; refine ⟨_, rfl, ?_⟩; have n0_ := Aside0.mk (Kd.R_elder' (by (with_reducible repeat (first | apply Kd.R_alloc | apply Kd.R_drewN | apply Kd.R_drew)); exact HO251.out) (Kd.R_base ho0) hb); have n1_ := Aside0.mk (Kd.R_elder' (by (with_reducible repeat (first | apply Kd.R_alloc | apply Kd.R_drewN | apply Kd.R_drew)); exact HO254.out) (Kd.R_base ho0) hb); have n2_ := Aside0.mk (Kd.R_lower (Kd.R_newB (Kd.R_new' (Kd.R_new' ho0 (Kd.R_lt (by (with_reducible repeat (first | apply Kd.R_alloc | apply Kd.R_drewN | apply Kd.R_drew)); exact HO251.out))) (Kd.R_lt (by (with_reducible repeat (first | apply Kd.R_alloc | apply Kd.R_drewN | apply Kd.R_drew)); exact HO254.out))) (g := gb245) (o := .cells #[.int .i64 a1_0, .int .i64 a1_1, .int .i64 a1_2] 29 (0, 0)) (by (with_reducible repeat (first | refine blk_drewN ?_ _ | refine blk_drew ?_ | refine blk_alloc ?_ _)); exact BK245.out)) (below_size (by repeat (first | (with_reducible first | exact HB.out | apply below_alloc | apply pw_below_drewN | apply below_drew1 | refine below_set ?_ GE245.out) | exact HB.out)))); have n3_ := Aside0.mk (blk_below (g := gb245) (o := .cells #[.int .i64 a1_0, .int .i64 a1_1, .int .i64 a1_2] 29 (0, 0)) (by (with_reducible repeat (first | refine blk_drewN ?_ _ | refine blk_drew ?_ | refine blk_alloc ?_ _)); exact BK245.out) hb); have n4_ := Aside0.mk (below_step (by repeat (first | (with_reducible first | exact HB.out | apply below_alloc | apply pw_below_drewN | apply below_drew1 | refine below_set ?_ GE245.out) | exact HB.out)) hb); clear HO251; clear HO254; clear BK245; clear HB; have HO251 := n0_; have HO254 := n1_; have HO257 := n2_; have BK245 := n3_; have HB := n4_; clear n0_ n1_ n2_ n3_ n4_; (try clear hb); (try clear hb2); (try clear hk); (try clear hi); (try clear ho0)))
        go_loopg [8] kj2 (fun kq v8 w' => ∃ (x8_2 : Int), v8 = .int .i64 x8_2 ∧ Aside0 (emulsionlaw10_ExtentSets.l0 kq t249 t252 t255 x8_2 a1_0 a1_1 a1_2 = some r) ∧ Aside0 (kq ≤ kj2) ∧ Aside0 (Kd.R k29 29 w' w.heap.size (fun k_ => some k_ ≠ ((.slice Ao25 t252.length co25) : Value).ownBlock ∧ some k_ ≠ (v256 : Value).ownBlock ∧ k_ ≠ gb245) (.slice Ao22 t249.length co22) t249) ∧ Aside0 (Kd.R k29 29 w' w.heap.size (fun k_ => some k_ ≠ ((.slice Ao22 t249.length co22) : Value).ownBlock ∧ some k_ ≠ (v256 : Value).ownBlock ∧ k_ ≠ gb245) (.slice Ao25 t252.length co25) t252) ∧ Aside0 (Kd.R k29 29 w' w.heap.size (fun k_ => some k_ ≠ ((.slice Ao22 t249.length co22) : Value).ownBlock ∧ some k_ ≠ ((.slice Ao25 t252.length co25) : Value).ownBlock ∧ k_ ≠ gb245) v256 t255) ∧ Aside0 (w'.heap[gb245]? = some (.cells #[.int .i64 a1_0, .int .i64 a1_1, .int .i64 a1_2] 29 (0, 0))) ∧ Aside0 (Below w.heap.size w w'))
        case atStart => exact ⟨(0), (by first | rfl | (simp; done) | (simp [*]; done)), H', ⟨Nat.le_refl _⟩, ⟨by (with_reducible repeat (first | apply Kd.R_alloc | apply Kd.R_drewN | apply Kd.R_drew)); exact Kd.R_mono HO251.out (fun _ hk => ⟨hk.1.2, ⟨hk.2, hk.1.1.2⟩⟩)⟩, ⟨by (with_reducible repeat (first | apply Kd.R_alloc | apply Kd.R_drewN | apply Kd.R_drew)); exact Kd.R_mono HO254.out (fun _ hk => ⟨hk.1.1.2, ⟨hk.2, hk.1.2⟩⟩)⟩, ⟨by (with_reducible repeat (first | apply Kd.R_alloc | apply Kd.R_drewN | apply Kd.R_drew)); exact Kd.R_mono HO257.out (fun _ hk => ⟨hk.1.1.2, ⟨hk.1.2, hk.2⟩⟩)⟩, ⟨by (with_reducible repeat (first | refine blk_drewN ?_ _ | refine blk_drew ?_ | refine blk_alloc ?_ _)); exact BK245.out⟩, ⟨by repeat (first | (with_reducible first | exact HB.out | apply below_alloc | apply pw_below_drewN | apply below_drew1 | refine below_set ?_ GE245.out) | exact HB.out)⟩⟩
        case round =>
          clear H'
          try clear c1
          try clear p2
          try clear c4
          try clear c5
          try clear c5b0
          try clear c5b1
          try clear c7
          try clear c12
          try clear c13
          try clear c14
          try clear c17
          try clear c18
          try clear hcz12_0
          try clear hcz12_1
          try clear hcz12_2
          try clear hcz21_0
          try clear hcz21_1
          try clear hcz21_2
          try clear hcz24_0
          try clear hcz24_1
          try clear hcz24_2
          try clear hcz9_0
          try clear hcz9_1
          try clear hcz9_2
          try clear hfz12_0
          try clear hfz12_1
          try clear hfz12_2
          try clear hfz21_0
          try clear hfz21_1
          try clear hfz21_2
          try clear hfz24_0
          try clear hfz24_1
          try clear hfz24_2
          try clear hfz9_0
          try clear hfz9_1
          try clear hfz9_2
          try clear p2
          obtain ⟨x8_2, rfl, HA, HK2, HO_5, HO_6, HO_7, BK245, HB⟩ := hrel
          cases gk with
          | zero => exact absurd HA.out (by simp [emulsionlaw10_ExtentSets.l0])
          | succ k2 =>
            have H := HA.out
            clear HA
            simp only [emulsionlaw10_ExtentSets.l0] at H
            by_cases c27 : x8_2 < 64
            · rw [if_pos c27] at H
              have c27b0 : decide (x8_2 < 64) = true := decide_eq_true c27
              clear c27
              replace H := Option.bind_eq_some_iff.mp H
              obtain ⟨⟨t258, t259⟩, A280, H⟩ := H
              replace H : ((A.extent_Find.f k2 t252 x8_2).bind fun bt260 => ((A.extent_Find.f k2 t255 x8_2).bind fun bt262 => (if x8_2 ≥ a1_0 then (emulsionlaw10_ExtentSets.j2 k2 t249 t252 t255 x8_2 t258 t259 bt260.1 bt260.2 bt262.2 (decide (x8_2 < (wrap64 (a1_0 + a1_1)))) a1_0 a1_1 a1_2) else (emulsionlaw10_ExtentSets.j2 k2 t249 t252 t255 x8_2 t258 t259 bt260.1 bt260.2 bt262.2 false a1_0 a1_1 a1_2)))) = some r := H
              have A28 := Aside0.mk A280
              clear A280
              replace H := Option.bind_eq_some_iff.mp H
              obtain ⟨⟨t260, t261⟩, A290, H⟩ := H
              replace H : ((A.extent_Find.f k2 t255 x8_2).bind fun bt262 => (if x8_2 ≥ a1_0 then (emulsionlaw10_ExtentSets.j2 k2 t249 t252 t255 x8_2 t258 t259 t260 t261 bt262.2 (decide (x8_2 < (wrap64 (a1_0 + a1_1)))) a1_0 a1_1 a1_2) else (emulsionlaw10_ExtentSets.j2 k2 t249 t252 t255 x8_2 t258 t259 t260 t261 bt262.2 false a1_0 a1_1 a1_2))) = some r := H
              have A29 := Aside0.mk A290
              clear A290
              replace H := Option.bind_eq_some_iff.mp H
              obtain ⟨⟨t262, t263⟩, A300, H⟩ := H
              replace H : (if x8_2 ≥ a1_0 then (emulsionlaw10_ExtentSets.j2 k2 t249 t252 t255 x8_2 t258 t259 t260 t261 t263 (decide (x8_2 < (wrap64 (a1_0 + a1_1)))) a1_0 a1_1 a1_2) else (emulsionlaw10_ExtentSets.j2 k2 t249 t252 t255 x8_2 t258 t259 t260 t261 t263 false a1_0 a1_1 a1_2)) = some r := H
              have A30 := Aside0.mk A300
              clear A300
              have HC31 := Aside0.mk H
              clear H
              go_upto_region 12 with (first | ((with_reducible refine gate_callee (f := 19) rfl ?_); refine goesL_ (some 49) rfl rfl Try.func19 (by kernel_rfl) rfl #[.slice Ao22 t249.length co22, .int .i64 x8_2] rfl (by (try simp only [List.map_toArray, List.map_cons, List.map_nil]); first | done | rfl | (simp only [List.length_drop, List.length_take]; rfl)) ?_; (with_reducible refine (A.extent_Find.calls k2 _ _ t249 x8_2 t258 t259 _ ?side1 ?side2 A28.out).mono ?_); (case side1 => repeat (first | exact (Kd.R_reads' HO_5.out).2.2 | (with_reducible refine Kd.C_alloc ?_ _) | (with_reducible refine Kd.C_drewN ?_ _) | (with_reducible refine Kd.C_drew ?_))); (case side2 => exact (Kd.R_reads' HO_5.out).2.1); rintro e w32 ⟨rfl, hb⟩; refine ⟨_, rfl, ?_⟩; have n0_ := Aside0.mk (Kd.R_below (by (with_reducible repeat (first | apply Kd.R_alloc | apply Kd.R_drewN | apply Kd.R_drew)); exact HO_5.out) hb); have n1_ := Aside0.mk (Kd.R_below (by (with_reducible repeat (first | apply Kd.R_alloc | apply Kd.R_drewN | apply Kd.R_drew)); exact HO_6.out) hb); have n2_ := Aside0.mk (Kd.R_below (by (with_reducible repeat (first | apply Kd.R_alloc | apply Kd.R_drewN | apply Kd.R_drew)); exact HO_7.out) hb); have n3_ := Aside0.mk (blk_below (g := gb245) (o := .cells #[.int .i64 a1_0, .int .i64 a1_1, .int .i64 a1_2] 29 (0, 0)) (by (with_reducible repeat (first | refine blk_drewN ?_ _ | refine blk_drew ?_ | refine blk_alloc ?_ _)); exact BK245.out) hb); have n4_ := Aside0.mk (below_step (by repeat (first | (with_reducible first | exact HB.out | apply below_alloc | apply pw_below_drewN | apply below_drew1 | refine below_set ?_ GE245.out) | exact HB.out)) hb); clear HO_5; clear HO_6; clear HO_7; clear BK245; clear HB; have HO_5 := n0_; have HO_6 := n1_; have HO_7 := n2_; have BK245 := n3_; have HB := n4_; clear n0_ n1_ n2_ n3_ n4_; (try clear hb); (try clear hb2); (try clear hk); (try clear hi)) | ((with_reducible refine gate_callee (f := 19) rfl ?_); refine goesL_ (some 55) rfl rfl Try.func19 (by kernel_rfl) rfl #[.slice Ao25 t252.length co25, .int .i64 x8_2] rfl (by (try simp only [List.map_toArray, List.map_cons, List.map_nil]); first | done | rfl | (simp only [List.length_drop, List.length_take]; rfl)) ?_; (with_reducible refine (A.extent_Find.calls k2 _ _ t252 x8_2 t260 t261 _ ?side1 ?side2 A29.out).mono ?_); (case side1 => repeat (first | exact (Kd.R_reads' HO_6.out).2.2 | (with_reducible refine Kd.C_alloc ?_ _) | (with_reducible refine Kd.C_drewN ?_ _) | (with_reducible refine Kd.C_drew ?_))); (case side2 => exact (Kd.R_reads' HO_6.out).2.1); rintro e w33 ⟨rfl, hb⟩; refine ⟨_, rfl, ?_⟩; have n0_ := Aside0.mk (Kd.R_below (by (with_reducible repeat (first | apply Kd.R_alloc | apply Kd.R_drewN | apply Kd.R_drew)); exact HO_5.out) hb); have n1_ := Aside0.mk (Kd.R_below (by (with_reducible repeat (first | apply Kd.R_alloc | apply Kd.R_drewN | apply Kd.R_drew)); exact HO_6.out) hb); have n2_ := Aside0.mk (Kd.R_below (by (with_reducible repeat (first | apply Kd.R_alloc | apply Kd.R_drewN | apply Kd.R_drew)); exact HO_7.out) hb); have n3_ := Aside0.mk (blk_below (g := gb245) (o := .cells #[.int .i64 a1_0, .int .i64 a1_1, .int .i64 a1_2] 29 (0, 0)) (by (with_reducible repeat (first | refine blk_drewN ?_ _ | refine blk_drew ?_ | refine blk_alloc ?_ _)); exact BK245.out) hb); have n4_ := Aside0.mk (below_step (by repeat (first | (with_reducible first | exact HB.out | apply below_alloc | apply pw_below_drewN | apply below_drew1 | refine below_set ?_ GE245.out) | exact HB.out)) hb); clear HO_5; clear HO_6; clear HO_7; clear BK245; clear HB; have HO_5 := n0_; have HO_6 := n1_; have HO_7 := n2_; have BK245 := n3_; have HB := n4_; clear n0_ n1_ n2_ n3_ n4_; (try clear hb); (try clear hb2); (try clear hk); (try clear hi); obtain ⟨Ao34, co34, eo34⟩ := Kd.R_slice HO_7.out; subst eo34) | ((with_reducible refine gate_callee (f := 19) rfl ?_); refine goesL_ (some 61) rfl rfl Try.func19 (by kernel_rfl) rfl #[.slice Ao34 t255.length co34, .int .i64 x8_2] rfl (by (try simp only [List.map_toArray, List.map_cons, List.map_nil]); first | done | rfl | (simp only [List.length_drop, List.length_take]; rfl)) ?_; (with_reducible refine (A.extent_Find.calls k2 _ _ t255 x8_2 t262 t263 _ ?side1 ?side2 A30.out).mono ?_); (case side1 => repeat (first | exact (Kd.R_reads' HO_7.out).2.2 | (with_reducible refine Kd.C_alloc ?_ _) | (with_reducible refine Kd.C_drewN ?_ _) | (with_reducible refine Kd.C_drew ?_))); (case side2 => exact (Kd.R_reads' HO_7.out).2.1); rintro e w35 ⟨rfl, hb⟩; refine ⟨_, rfl, ?_⟩; have n0_ := Aside0.mk (Kd.R_below (by (with_reducible repeat (first | apply Kd.R_alloc | apply Kd.R_drewN | apply Kd.R_drew)); exact HO_5.out) hb); have n1_ := Aside0.mk (Kd.R_below (by (with_reducible repeat (first | apply Kd.R_alloc | apply Kd.R_drewN | apply Kd.R_drew)); exact HO_6.out) hb); have n2_ := Aside0.mk (Kd.R_below (by (with_reducible repeat (first | apply Kd.R_alloc | apply Kd.R_drewN | apply Kd.R_drew)); exact HO_7.out) hb); have n3_ := Aside0.mk (blk_below (g := gb245) (o := .cells #[.int .i64 a1_0, .int .i64 a1_1, .int .i64 a1_2] 29 (0, 0)) (by (with_reducible repeat (first | refine blk_drewN ?_ _ | refine blk_drew ?_ | refine blk_alloc ?_ _)); exact BK245.out) hb); have n4_ := Aside0.mk (below_step (by repeat (first | (with_reducible first | exact HB.out | apply below_alloc | apply pw_below_drewN | apply below_drew1 | refine below_set ?_ GE245.out) | exact HB.out)) hb); clear HO_5; clear HO_6; clear HO_7; clear BK245; clear HB; have HO_5 := n0_; have HO_6 := n1_; have HO_7 := n2_; have BK245 := n3_; have HB := n4_; clear n0_ n1_ n2_ n3_ n4_; (try clear hb); (try clear hb2); (try clear hk); (try clear hi)))
              (try simp only [Act.put, List.setIfInBounds_toArray, List.set_cons_zero, List.set_cons_succ])
              go_cut [15] (fun v15 wc => ∃ (kq : Nat) (x15_30 : Bool), v15 = .bool x15_30 ∧ Aside0 (emulsionlaw10_ExtentSets.j2 kq t249 t252 t255 x8_2 t258 t259 t260 t261 t263 x15_30 a1_0 a1_1 a1_2 = some r) ∧ Aside0 (kq ≤ k2) ∧ Aside0 (Kd.R k29 29 wc w.heap.size (fun k_ => some k_ ≠ ((.slice Ao25 t252.length co25) : Value).ownBlock ∧ some k_ ≠ ((.slice Ao34 t255.length co34) : Value).ownBlock ∧ k_ ≠ gb245) (.slice Ao22 t249.length co22) t249) ∧ Aside0 (Kd.R k29 29 wc w.heap.size (fun k_ => some k_ ≠ ((.slice Ao22 t249.length co22) : Value).ownBlock ∧ some k_ ≠ ((.slice Ao34 t255.length co34) : Value).ownBlock ∧ k_ ≠ gb245) (.slice Ao25 t252.length co25) t252) ∧ Aside0 (Kd.R k29 29 wc w.heap.size (fun k_ => some k_ ≠ ((.slice Ao22 t249.length co22) : Value).ownBlock ∧ some k_ ≠ ((.slice Ao25 t252.length co25) : Value).ownBlock ∧ k_ ≠ gb245) (.slice Ao34 t255.length co34) t255) ∧ Aside0 (wc.heap[gb245]? = some (.cells #[.int .i64 a1_0, .int .i64 a1_1, .int .i64 a1_2] 29 (0, 0))) ∧ Aside0 (Below w.heap.size w wc))
              case first =>
                have H := HC31.out
                clear HC31
                by_cases c36 : x8_2 ≥ a1_0
                · rw [if_pos c36] at H
                  have c36b0 : decide (a1_0 ≤ x8_2) = true := decide_eq_true c36
                  clear c36
                  (first | rw [c36b0] | (simp only [i64_w, i32_w]; rw [c36b0]) | skip)
                  have H' := Aside0.mk H
                  clear H
                  have hcz37_0 : w35.cell? ⟨gb245, 0, none⟩ = some (.int .i64 a1_0) := (blk_cell BK245.out 0).trans rfl
                  have hcz37_1 : w35.cell? ⟨gb245, 1, none⟩ = some (.int .i64 a1_1) := (blk_cell BK245.out 1).trans rfl
                  have hcz37_2 : w35.cell? ⟨gb245, 2, none⟩ = some (.int .i64 a1_2) := (blk_cell BK245.out 2).trans rfl
                  have hfz37_0 := blk_frozen BK245.out 0
                  have hfz37_1 := blk_frozen BK245.out 1
                  have hfz37_2 := blk_frozen BK245.out 2
                  go_wp2
                  go_meet
                  case rel => exact ⟨_, (decide (x8_2 < (wrap64 (a1_0 + a1_1)))), (by first | rfl | (simp; done) | (simp [*]; done)), H', ⟨by have := HJ2.out; have := HK2.out; first | omega | exact Nat.le_refl _⟩, ⟨by (with_reducible repeat (first | apply Kd.R_alloc | apply Kd.R_drewN | apply Kd.R_drew)); exact HO_5.out⟩, ⟨by (with_reducible repeat (first | apply Kd.R_alloc | apply Kd.R_drewN | apply Kd.R_drew)); exact HO_6.out⟩, ⟨by (with_reducible repeat (first | apply Kd.R_alloc | apply Kd.R_drewN | apply Kd.R_drew)); exact HO_7.out⟩, ⟨by (with_reducible repeat (first | refine blk_drewN ?_ _ | refine blk_drew ?_ | refine blk_alloc ?_ _)); exact BK245.out⟩, ⟨by repeat (first | (with_reducible first | exact HB.out | apply below_alloc | apply pw_below_drewN | apply below_drew1 | refine below_set ?_ GE245.out) | exact HB.out)⟩⟩
                · rw [if_neg c36] at H
                  have c36b0 : decide (a1_0 ≤ x8_2) = false := decide_eq_false c36
                  clear c36
                  (first | rw [c36b0] | (simp only [i64_w, i32_w]; rw [c36b0]) | skip)
                  have H' := Aside0.mk H
                  clear H
                  have hcz38_0 : w35.cell? ⟨gb245, 0, none⟩ = some (.int .i64 a1_0) := (blk_cell BK245.out 0).trans rfl
                  have hcz38_1 : w35.cell? ⟨gb245, 1, none⟩ = some (.int .i64 a1_1) := (blk_cell BK245.out 1).trans rfl
                  have hcz38_2 : w35.cell? ⟨gb245, 2, none⟩ = some (.int .i64 a1_2) := (blk_cell BK245.out 2).trans rfl
                  have hfz38_0 := blk_frozen BK245.out 0
                  have hfz38_1 := blk_frozen BK245.out 1
                  have hfz38_2 := blk_frozen BK245.out 2
                  go_wp2
                  go_meet
                  case rel => exact ⟨_, (false), (by first | rfl | (simp; done) | (simp [*]; done)), H', ⟨by have := HJ2.out; have := HK2.out; first | omega | exact Nat.le_refl _⟩, ⟨by (with_reducible repeat (first | apply Kd.R_alloc | apply Kd.R_drewN | apply Kd.R_drew)); exact HO_5.out⟩, ⟨by (with_reducible repeat (first | apply Kd.R_alloc | apply Kd.R_drewN | apply Kd.R_drew)); exact HO_6.out⟩, ⟨by (with_reducible repeat (first | apply Kd.R_alloc | apply Kd.R_drewN | apply Kd.R_drew)); exact HO_7.out⟩, ⟨by (with_reducible repeat (first | refine blk_drewN ?_ _ | refine blk_drew ?_ | refine blk_alloc ?_ _)); exact BK245.out⟩, ⟨by repeat (first | (with_reducible first | exact HB.out | apply below_alloc | apply pw_below_drewN | apply below_drew1 | refine below_set ?_ GE245.out) | exact HB.out)⟩⟩
              case rest =>
                clear HC31
                try clear c1
                try clear c2
                try clear p2
                try clear c3
                try clear c4
                try clear c5
                try clear c5b0
                try clear c5b1
                try clear p6
                try clear c7
                try clear c12
                try clear c13
                try clear c14
                try clear c17
                try clear c18
                try clear c19
                try clear c27
                try clear c27b0
                try clear c36
                try clear c36b0
                try clear hcz12_0
                try clear hcz12_1
                try clear hcz12_2
                try clear hcz21_0
                try clear hcz21_1
                try clear hcz21_2
                try clear hcz24_0
                try clear hcz24_1
                try clear hcz24_2
                try clear hcz37_0
                try clear hcz37_1
                try clear hcz37_2
                try clear hcz38_0
                try clear hcz38_1
                try clear hcz38_2
                try clear hcz9_0
                try clear hcz9_1
                try clear hcz9_2
                try clear hfz12_0
                try clear hfz12_1
                try clear hfz12_2
                try clear hfz21_0
                try clear hfz21_1
                try clear hfz21_2
                try clear hfz24_0
                try clear hfz24_1
                try clear hfz24_2
                try clear hfz37_0
                try clear hfz37_1
                try clear hfz37_2
                try clear hfz38_0
                try clear hfz38_1
                try clear hfz38_2
                try clear hfz9_0
                try clear hfz9_1
                try clear hfz9_2
                try clear p2
                obtain ⟨kq, x15_30, rfl, HA, HJ30, HO_5, HO_6, HO_7, BK245, HB⟩ := hcut
                cases kq with
                | zero => exact absurd HA.out (by simp [emulsionlaw10_ExtentSets.j2])
                | succ kj30 =>
                  have H := HA.out
                  clear HA
                  simp only [emulsionlaw10_ExtentSets.j2] at H
                  by_cases c39 : a1_2 > 0
                  · rw [if_pos c39] at H
                    have c39b0 : decide (0 < a1_2) = true := decide_eq_true c39
                    clear c39
                    by_cases c40 : x15_30 = true
                    · subst c40
                      have H1 : (if t261 = true then (if t260 = (wrap64 ((wrap64 (a1_2 + x8_2)) - a1_0)) then (if t263 = true then (some false) else (emulsionlaw10_ExtentSets.l0 kj30 t249 t252 t255 (wrap64 (x8_2 + 1)) a1_0 a1_1 a1_2)) else (some false)) else (some false)) = some r := by rw [if_pos rfl] at H; exact H
                      clear H
                      have H := H1
                      clear H1
                      by_cases c41 : t261 = true
                      · subst c41
                        have H1 : (if t260 = (wrap64 ((wrap64 (a1_2 + x8_2)) - a1_0)) then (if t263 = true then (some false) else (emulsionlaw10_ExtentSets.l0 kj30 t249 t252 t255 (wrap64 (x8_2 + 1)) a1_0 a1_1 a1_2)) else (some false)) = some r := by rw [if_pos rfl] at H; exact H
                        clear H
                        have H := H1
                        clear H1
                        by_cases c42 : t260 = (wrap64 ((wrap64 (a1_2 + x8_2)) - a1_0))
                        · rw [if_pos c42] at H
                          have c42b0 : (t260 == (wrap64 ((wrap64 (a1_2 + x8_2)) - a1_0))) = true := beq_iff_eq.mpr c42
                          have c42b1 : (t260 != (wrap64 ((wrap64 (a1_2 + x8_2)) - a1_0))) = false := bne_eq_false_iff_eq.mpr c42
                          clear c42
                          by_cases c43 : t263 = true
                          · subst c43
                            have H1 : (some false) = some r := by rw [if_pos rfl] at H; exact H
                            clear H
                            have H := H1
                            clear H1
                            obtain rfl := Option.some.inj H
                            have hcz44_0 : wc.cell? ⟨gb245, 0, none⟩ = some (.int .i64 a1_0) := (blk_cell BK245.out 0).trans rfl
                            have hcz44_1 : wc.cell? ⟨gb245, 1, none⟩ = some (.int .i64 a1_1) := (blk_cell BK245.out 1).trans rfl
                            have hcz44_2 : wc.cell? ⟨gb245, 2, none⟩ = some (.int .i64 a1_2) := (blk_cell BK245.out 2).trans rfl
                            have hfz44_0 := blk_frozen BK245.out 0
                            have hfz44_1 := blk_frozen BK245.out 1
                            have hfz44_2 := blk_frozen BK245.out 2
                            go_wp2
                            go_ret
                            exact ⟨by first | rfl | (simp [errW_none, errW_some] <;> rfl) | (simp [*, errW_none, errW_some] <;> rfl), by repeat (first | (with_reducible first | exact HB.out | apply below_alloc | apply pw_below_drewN | apply below_drew1 | refine below_set ?_ GE245.out) | exact HB.out)⟩
                          · replace c43 := Bool.eq_false_iff.mpr c43
                            subst c43
                            have H1 : (emulsionlaw10_ExtentSets.l0 kj30 t249 t252 t255 (wrap64 (x8_2 + 1)) a1_0 a1_1 a1_2) = some r := by rw [if_neg (show ¬ (false = true) by decide)] at H; exact H
                            clear H
                            have H := H1
                            clear H1
                            have H' := Aside0.mk H
                            clear H
                            have hcz45_0 : wc.cell? ⟨gb245, 0, none⟩ = some (.int .i64 a1_0) := (blk_cell BK245.out 0).trans rfl
                            have hcz45_1 : wc.cell? ⟨gb245, 1, none⟩ = some (.int .i64 a1_1) := (blk_cell BK245.out 1).trans rfl
                            have hcz45_2 : wc.cell? ⟨gb245, 2, none⟩ = some (.int .i64 a1_2) := (blk_cell BK245.out 2).trans rfl
                            have hfz45_0 := blk_frozen BK245.out 0
                            have hfz45_1 := blk_frozen BK245.out 1
                            have hfz45_2 := blk_frozen BK245.out 2
                            go_wp2
                            go_roundg kj30
                            case measure => have := HJ2.out; have := HK2.out; have := HJ30.out; omega
                            case rel => exact ⟨(wrap64 (x8_2 + 1)), (by first | rfl | (simp; done) | (simp [*]; done)), H', ⟨by have := HJ2.out; have := HK2.out; have := HJ30.out; omega⟩, ⟨by (with_reducible repeat (first | apply Kd.R_alloc | apply Kd.R_drewN | apply Kd.R_drew)); exact HO_5.out⟩, ⟨by (with_reducible repeat (first | apply Kd.R_alloc | apply Kd.R_drewN | apply Kd.R_drew)); exact HO_6.out⟩, ⟨by (with_reducible repeat (first | apply Kd.R_alloc | apply Kd.R_drewN | apply Kd.R_drew)); exact HO_7.out⟩, ⟨by (with_reducible repeat (first | refine blk_drewN ?_ _ | refine blk_drew ?_ | refine blk_alloc ?_ _)); exact BK245.out⟩, ⟨by repeat (first | (with_reducible first | exact HB.out | apply below_alloc | apply pw_below_drewN | apply below_drew1 | refine below_set ?_ GE245.out) | exact HB.out)⟩⟩
                        · rw [if_neg c42] at H
                          have c42b0 : (t260 == (wrap64 ((wrap64 (a1_2 + x8_2)) - a1_0))) = false := beq_eq_false_iff_ne.mpr c42
                          have c42b1 : (t260 != (wrap64 ((wrap64 (a1_2 + x8_2)) - a1_0))) = true := bne_iff_ne.mpr c42
                          obtain rfl := Option.some.inj H
                          have hcz46_0 : wc.cell? ⟨gb245, 0, none⟩ = some (.int .i64 a1_0) := (blk_cell BK245.out 0).trans rfl
                          have hcz46_1 : wc.cell? ⟨gb245, 1, none⟩ = some (.int .i64 a1_1) := (blk_cell BK245.out 1).trans rfl
                          have hcz46_2 : wc.cell? ⟨gb245, 2, none⟩ = some (.int .i64 a1_2) := (blk_cell BK245.out 2).trans rfl
                          have hfz46_0 := blk_frozen BK245.out 0
                          have hfz46_1 := blk_frozen BK245.out 1
                          have hfz46_2 := blk_frozen BK245.out 2
                          go_wp2
                          go_ret
                          exact ⟨by first | rfl | (simp [errW_none, errW_some] <;> rfl) | (simp [*, errW_none, errW_some] <;> rfl), by repeat (first | (with_reducible first | exact HB.out | apply below_alloc | apply pw_below_drewN | apply below_drew1 | refine below_set ?_ GE245.out) | exact HB.out)⟩
                      · replace c41 := Bool.eq_false_iff.mpr c41
                        subst c41
                        have H1 : (some false) = some r := by rw [if_neg (show ¬ (false = true) by decide)] at H; exact H
                        clear H
                        have H := H1
                        clear H1
                        obtain rfl := Option.some.inj H
                        have hcz47_0 : wc.cell? ⟨gb245, 0, none⟩ = some (.int .i64 a1_0) := (blk_cell BK245.out 0).trans rfl
                        have hcz47_1 : wc.cell? ⟨gb245, 1, none⟩ = some (.int .i64 a1_1) := (blk_cell BK245.out 1).trans rfl
                        have hcz47_2 : wc.cell? ⟨gb245, 2, none⟩ = some (.int .i64 a1_2) := (blk_cell BK245.out 2).trans rfl
                        have hfz47_0 := blk_frozen BK245.out 0
                        have hfz47_1 := blk_frozen BK245.out 1
                        have hfz47_2 := blk_frozen BK245.out 2
                        go_wp2
                        go_ret
                        exact ⟨by first | rfl | (simp [errW_none, errW_some] <;> rfl) | (simp [*, errW_none, errW_some] <;> rfl), by repeat (first | (with_reducible first | exact HB.out | apply below_alloc | apply pw_below_drewN | apply below_drew1 | refine below_set ?_ GE245.out) | exact HB.out)⟩
                    · replace c40 := Bool.eq_false_iff.mpr c40
                      subst c40
                      have H1 : (if (t259 != t261) = true then (some false) else (if t258 = t260 then (if (t259 != t263) = true then (some false) else (emulsionlaw10_ExtentSets.l0 kj30 t249 t252 t255 (wrap64 (x8_2 + 1)) a1_0 a1_1 a1_2)) else (some false))) = some r := by rw [if_neg (show ¬ (false = true) by decide)] at H; exact H
                      clear H
                      have H := H1
                      clear H1
                      by_cases c48 : (t259 != t261) = true
                      · rw [if_pos c48] at H
                        have c48b0 : (t259 != t261) = true := c48
                        (try (have c48b1 : decide (t259 = t261) = false := by simpa using c48))
                        (try (have c48b2 : (t259 == t261) = false := by simpa using c48))
                        (try (have c48b3 : ¬ (t259 = t261) := by simpa using c48))
                        clear c48
                        obtain rfl := Option.some.inj H
                        have hcz49_0 : wc.cell? ⟨gb245, 0, none⟩ = some (.int .i64 a1_0) := (blk_cell BK245.out 0).trans rfl
                        have hcz49_1 : wc.cell? ⟨gb245, 1, none⟩ = some (.int .i64 a1_1) := (blk_cell BK245.out 1).trans rfl
                        have hcz49_2 : wc.cell? ⟨gb245, 2, none⟩ = some (.int .i64 a1_2) := (blk_cell BK245.out 2).trans rfl
                        have hfz49_0 := blk_frozen BK245.out 0
                        have hfz49_1 := blk_frozen BK245.out 1
                        have hfz49_2 := blk_frozen BK245.out 2
                        go_wp2
                        go_ret
                        exact ⟨by first | rfl | (simp [errW_none, errW_some] <;> rfl) | (simp [*, errW_none, errW_some] <;> rfl), by repeat (first | (with_reducible first | exact HB.out | apply below_alloc | apply pw_below_drewN | apply below_drew1 | refine below_set ?_ GE245.out) | exact HB.out)⟩
                      · rw [if_neg c48] at H
                        have c48b0 : (t259 != t261) = false := by simpa using c48
                        (try (have c48b1 : decide (t259 = t261) = true := by simpa using c48))
                        (try (have c48b2 : (t259 == t261) = true := by simpa using c48))
                        clear c48
                        by_cases c50 : t258 = t260
                        · rw [if_pos c50] at H
                          have c50b0 : (t258 == t260) = true := beq_iff_eq.mpr c50
                          have c50b1 : (t258 != t260) = false := bne_eq_false_iff_eq.mpr c50
                          clear c50
                          by_cases c51 : (t259 != t263) = true
                          · rw [if_pos c51] at H
                            have c51b0 : (t259 != t263) = true := c51
                            (try (have c51b1 : decide (t259 = t263) = false := by simpa using c51))
                            (try (have c51b2 : (t259 == t263) = false := by simpa using c51))
                            (try (have c51b3 : ¬ (t259 = t263) := by simpa using c51))
                            clear c51
                            obtain rfl := Option.some.inj H
                            have hcz52_0 : wc.cell? ⟨gb245, 0, none⟩ = some (.int .i64 a1_0) := (blk_cell BK245.out 0).trans rfl
                            have hcz52_1 : wc.cell? ⟨gb245, 1, none⟩ = some (.int .i64 a1_1) := (blk_cell BK245.out 1).trans rfl
                            have hcz52_2 : wc.cell? ⟨gb245, 2, none⟩ = some (.int .i64 a1_2) := (blk_cell BK245.out 2).trans rfl
                            have hfz52_0 := blk_frozen BK245.out 0
                            have hfz52_1 := blk_frozen BK245.out 1
                            have hfz52_2 := blk_frozen BK245.out 2
                            go_wp2
                            go_ret
                            exact ⟨by first | rfl | (simp [errW_none, errW_some] <;> rfl) | (simp [*, errW_none, errW_some] <;> rfl), by repeat (first | (with_reducible first | exact HB.out | apply below_alloc | apply pw_below_drewN | apply below_drew1 | refine below_set ?_ GE245.out) | exact HB.out)⟩
                          · rw [if_neg c51] at H
                            have c51b0 : (t259 != t263) = false := by simpa using c51
                            (try (have c51b1 : decide (t259 = t263) = true := by simpa using c51))
                            (try (have c51b2 : (t259 == t263) = true := by simpa using c51))
                            clear c51
                            have H' := Aside0.mk H
                            clear H
                            have hcz53_0 : wc.cell? ⟨gb245, 0, none⟩ = some (.int .i64 a1_0) := (blk_cell BK245.out 0).trans rfl
                            have hcz53_1 : wc.cell? ⟨gb245, 1, none⟩ = some (.int .i64 a1_1) := (blk_cell BK245.out 1).trans rfl
                            have hcz53_2 : wc.cell? ⟨gb245, 2, none⟩ = some (.int .i64 a1_2) := (blk_cell BK245.out 2).trans rfl
                            have hfz53_0 := blk_frozen BK245.out 0
                            have hfz53_1 := blk_frozen BK245.out 1
                            have hfz53_2 := blk_frozen BK245.out 2
                            go_wp2
                            go_roundg kj30
                            case measure => have := HJ2.out; have := HK2.out; have := HJ30.out; omega
                            case rel => exact ⟨(wrap64 (x8_2 + 1)), (by first | rfl | (simp; done) | (simp [*]; done)), H', ⟨by have := HJ2.out; have := HK2.out; have := HJ30.out; omega⟩, ⟨by (with_reducible repeat (first | apply Kd.R_alloc | apply Kd.R_drewN | apply Kd.R_drew)); exact HO_5.out⟩, ⟨by (with_reducible repeat (first | apply Kd.R_alloc | apply Kd.R_drewN | apply Kd.R_drew)); exact HO_6.out⟩, ⟨by (with_reducible repeat (first | apply Kd.R_alloc | apply Kd.R_drewN | apply Kd.R_drew)); exact HO_7.out⟩, ⟨by (with_reducible repeat (first | refine blk_drewN ?_ _ | refine blk_drew ?_ | refine blk_alloc ?_ _)); exact BK245.out⟩, ⟨by repeat (first | (with_reducible first | exact HB.out | apply below_alloc | apply pw_below_drewN | apply below_drew1 | refine below_set ?_ GE245.out) | exact HB.out)⟩⟩
                        · rw [if_neg c50] at H
                          have c50b0 : (t258 == t260) = false := beq_eq_false_iff_ne.mpr c50
                          have c50b1 : (t258 != t260) = true := bne_iff_ne.mpr c50
                          obtain rfl := Option.some.inj H
                          have hcz54_0 : wc.cell? ⟨gb245, 0, none⟩ = some (.int .i64 a1_0) := (blk_cell BK245.out 0).trans rfl
                          have hcz54_1 : wc.cell? ⟨gb245, 1, none⟩ = some (.int .i64 a1_1) := (blk_cell BK245.out 1).trans rfl
                          have hcz54_2 : wc.cell? ⟨gb245, 2, none⟩ = some (.int .i64 a1_2) := (blk_cell BK245.out 2).trans rfl
                          have hfz54_0 := blk_frozen BK245.out 0
                          have hfz54_1 := blk_frozen BK245.out 1
                          have hfz54_2 := blk_frozen BK245.out 2
                          go_wp2
                          go_ret
                          exact ⟨by first | rfl | (simp [errW_none, errW_some] <;> rfl) | (simp [*, errW_none, errW_some] <;> rfl), by repeat (first | (with_reducible first | exact HB.out | apply below_alloc | apply pw_below_drewN | apply below_drew1 | refine below_set ?_ GE245.out) | exact HB.out)⟩
                  · rw [if_neg c39] at H
                    have c39b0 : decide (0 < a1_2) = false := decide_eq_false c39
                    clear c39
                    by_cases c55 : x15_30 = true
                    · subst c55
                      have H1 : (if t261 = true then (if t260 = 0 then (if t263 = true then (some false) else (emulsionlaw10_ExtentSets.l0 kj30 t249 t252 t255 (wrap64 (x8_2 + 1)) a1_0 a1_1 a1_2)) else (some false)) else (some false)) = some r := by rw [if_pos rfl] at H; exact H
                      clear H
                      have H := H1
                      clear H1
                      by_cases c56 : t261 = true
                      · subst c56
                        have H1 : (if t260 = 0 then (if t263 = true then (some false) else (emulsionlaw10_ExtentSets.l0 kj30 t249 t252 t255 (wrap64 (x8_2 + 1)) a1_0 a1_1 a1_2)) else (some false)) = some r := by rw [if_pos rfl] at H; exact H
                        clear H
                        have H := H1
                        clear H1
                        by_cases c57 : t260 = 0
                        · rw [if_pos c57] at H
                          have c57b0 : (t260 == 0) = true := beq_iff_eq.mpr c57
                          have c57b1 : (t260 != 0) = false := bne_eq_false_iff_eq.mpr c57
                          clear c57
                          by_cases c58 : t263 = true
                          · subst c58
                            have H1 : (some false) = some r := by rw [if_pos rfl] at H; exact H
                            clear H
                            have H := H1
                            clear H1
                            obtain rfl := Option.some.inj H
                            have hcz59_0 : wc.cell? ⟨gb245, 0, none⟩ = some (.int .i64 a1_0) := (blk_cell BK245.out 0).trans rfl
                            have hcz59_1 : wc.cell? ⟨gb245, 1, none⟩ = some (.int .i64 a1_1) := (blk_cell BK245.out 1).trans rfl
                            have hcz59_2 : wc.cell? ⟨gb245, 2, none⟩ = some (.int .i64 a1_2) := (blk_cell BK245.out 2).trans rfl
                            have hfz59_0 := blk_frozen BK245.out 0
                            have hfz59_1 := blk_frozen BK245.out 1
                            have hfz59_2 := blk_frozen BK245.out 2
                            go_wp2
                            go_ret
                            exact ⟨by first | rfl | (simp [errW_none, errW_some] <;> rfl) | (simp [*, errW_none, errW_some] <;> rfl), by repeat (first | (with_reducible first | exact HB.out | apply below_alloc | apply pw_below_drewN | apply below_drew1 | refine below_set ?_ GE245.out) | exact HB.out)⟩
                          · replace c58 := Bool.eq_false_iff.mpr c58
                            subst c58
                            have H1 : (emulsionlaw10_ExtentSets.l0 kj30 t249 t252 t255 (wrap64 (x8_2 + 1)) a1_0 a1_1 a1_2) = some r := by rw [if_neg (show ¬ (false = true) by decide)] at H; exact H
                            clear H
                            have H := H1
                            clear H1
                            have H' := Aside0.mk H
                            clear H
                            have hcz60_0 : wc.cell? ⟨gb245, 0, none⟩ = some (.int .i64 a1_0) := (blk_cell BK245.out 0).trans rfl
                            have hcz60_1 : wc.cell? ⟨gb245, 1, none⟩ = some (.int .i64 a1_1) := (blk_cell BK245.out 1).trans rfl
                            have hcz60_2 : wc.cell? ⟨gb245, 2, none⟩ = some (.int .i64 a1_2) := (blk_cell BK245.out 2).trans rfl
                            have hfz60_0 := blk_frozen BK245.out 0
                            have hfz60_1 := blk_frozen BK245.out 1
                            have hfz60_2 := blk_frozen BK245.out 2
                            go_wp2
                            go_roundg kj30
                            case measure => have := HJ2.out; have := HK2.out; have := HJ30.out; omega
                            case rel => exact ⟨(wrap64 (x8_2 + 1)), (by first | rfl | (simp; done) | (simp [*]; done)), H', ⟨by have := HJ2.out; have := HK2.out; have := HJ30.out; omega⟩, ⟨by (with_reducible repeat (first | apply Kd.R_alloc | apply Kd.R_drewN | apply Kd.R_drew)); exact HO_5.out⟩, ⟨by (with_reducible repeat (first | apply Kd.R_alloc | apply Kd.R_drewN | apply Kd.R_drew)); exact HO_6.out⟩, ⟨by (with_reducible repeat (first | apply Kd.R_alloc | apply Kd.R_drewN | apply Kd.R_drew)); exact HO_7.out⟩, ⟨by (with_reducible repeat (first | refine blk_drewN ?_ _ | refine blk_drew ?_ | refine blk_alloc ?_ _)); exact BK245.out⟩, ⟨by repeat (first | (with_reducible first | exact HB.out | apply below_alloc | apply pw_below_drewN | apply below_drew1 | refine below_set ?_ GE245.out) | exact HB.out)⟩⟩
                        · rw [if_neg c57] at H
                          have c57b0 : (t260 == 0) = false := beq_eq_false_iff_ne.mpr c57
                          have c57b1 : (t260 != 0) = true := bne_iff_ne.mpr c57
                          obtain rfl := Option.some.inj H
                          have hcz61_0 : wc.cell? ⟨gb245, 0, none⟩ = some (.int .i64 a1_0) := (blk_cell BK245.out 0).trans rfl
                          have hcz61_1 : wc.cell? ⟨gb245, 1, none⟩ = some (.int .i64 a1_1) := (blk_cell BK245.out 1).trans rfl
                          have hcz61_2 : wc.cell? ⟨gb245, 2, none⟩ = some (.int .i64 a1_2) := (blk_cell BK245.out 2).trans rfl
                          have hfz61_0 := blk_frozen BK245.out 0
                          have hfz61_1 := blk_frozen BK245.out 1
                          have hfz61_2 := blk_frozen BK245.out 2
                          go_wp2
                          go_ret
                          exact ⟨by first | rfl | (simp [errW_none, errW_some] <;> rfl) | (simp [*, errW_none, errW_some] <;> rfl), by repeat (first | (with_reducible first | exact HB.out | apply below_alloc | apply pw_below_drewN | apply below_drew1 | refine below_set ?_ GE245.out) | exact HB.out)⟩
                      · replace c56 := Bool.eq_false_iff.mpr c56
                        subst c56
                        have H1 : (some false) = some r := by rw [if_neg (show ¬ (false = true) by decide)] at H; exact H
                        clear H
                        have H := H1
                        clear H1
                        obtain rfl := Option.some.inj H
                        have hcz62_0 : wc.cell? ⟨gb245, 0, none⟩ = some (.int .i64 a1_0) := (blk_cell BK245.out 0).trans rfl
                        have hcz62_1 : wc.cell? ⟨gb245, 1, none⟩ = some (.int .i64 a1_1) := (blk_cell BK245.out 1).trans rfl
                        have hcz62_2 : wc.cell? ⟨gb245, 2, none⟩ = some (.int .i64 a1_2) := (blk_cell BK245.out 2).trans rfl
                        have hfz62_0 := blk_frozen BK245.out 0
                        have hfz62_1 := blk_frozen BK245.out 1
                        have hfz62_2 := blk_frozen BK245.out 2
                        go_wp2
                        go_ret
                        exact ⟨by first | rfl | (simp [errW_none, errW_some] <;> rfl) | (simp [*, errW_none, errW_some] <;> rfl), by repeat (first | (with_reducible first | exact HB.out | apply below_alloc | apply pw_below_drewN | apply below_drew1 | refine below_set ?_ GE245.out) | exact HB.out)⟩
                    · replace c55 := Bool.eq_false_iff.mpr c55
                      subst c55
                      have H1 : (if (t259 != t261) = true then (some false) else (if t258 = t260 then (if (t259 != t263) = true then (some false) else (emulsionlaw10_ExtentSets.l0 kj30 t249 t252 t255 (wrap64 (x8_2 + 1)) a1_0 a1_1 a1_2)) else (some false))) = some r := by rw [if_neg (show ¬ (false = true) by decide)] at H; exact H
                      clear H
                      have H := H1
                      clear H1
                      by_cases c63 : (t259 != t261) = true
                      · rw [if_pos c63] at H
                        have c63b0 : (t259 != t261) = true := c63
                        (try (have c63b1 : decide (t259 = t261) = false := by simpa using c63))
                        (try (have c63b2 : (t259 == t261) = false := by simpa using c63))
                        (try (have c63b3 : ¬ (t259 = t261) := by simpa using c63))
                        clear c63
                        obtain rfl := Option.some.inj H
                        have hcz64_0 : wc.cell? ⟨gb245, 0, none⟩ = some (.int .i64 a1_0) := (blk_cell BK245.out 0).trans rfl
                        have hcz64_1 : wc.cell? ⟨gb245, 1, none⟩ = some (.int .i64 a1_1) := (blk_cell BK245.out 1).trans rfl
                        have hcz64_2 : wc.cell? ⟨gb245, 2, none⟩ = some (.int .i64 a1_2) := (blk_cell BK245.out 2).trans rfl
                        have hfz64_0 := blk_frozen BK245.out 0
                        have hfz64_1 := blk_frozen BK245.out 1
                        have hfz64_2 := blk_frozen BK245.out 2
                        go_wp2
                        go_ret
                        exact ⟨by first | rfl | (simp [errW_none, errW_some] <;> rfl) | (simp [*, errW_none, errW_some] <;> rfl), by repeat (first | (with_reducible first | exact HB.out | apply below_alloc | apply pw_below_drewN | apply below_drew1 | refine below_set ?_ GE245.out) | exact HB.out)⟩
                      · rw [if_neg c63] at H
                        have c63b0 : (t259 != t261) = false := by simpa using c63
                        (try (have c63b1 : decide (t259 = t261) = true := by simpa using c63))
                        (try (have c63b2 : (t259 == t261) = true := by simpa using c63))
                        clear c63
                        by_cases c65 : t258 = t260
                        · rw [if_pos c65] at H
                          have c65b0 : (t258 == t260) = true := beq_iff_eq.mpr c65
                          have c65b1 : (t258 != t260) = false := bne_eq_false_iff_eq.mpr c65
                          clear c65
                          by_cases c66 : (t259 != t263) = true
                          · rw [if_pos c66] at H
                            have c66b0 : (t259 != t263) = true := c66
                            (try (have c66b1 : decide (t259 = t263) = false := by simpa using c66))
                            (try (have c66b2 : (t259 == t263) = false := by simpa using c66))
                            (try (have c66b3 : ¬ (t259 = t263) := by simpa using c66))
                            clear c66
                            obtain rfl := Option.some.inj H
                            have hcz67_0 : wc.cell? ⟨gb245, 0, none⟩ = some (.int .i64 a1_0) := (blk_cell BK245.out 0).trans rfl
                            have hcz67_1 : wc.cell? ⟨gb245, 1, none⟩ = some (.int .i64 a1_1) := (blk_cell BK245.out 1).trans rfl
                            have hcz67_2 : wc.cell? ⟨gb245, 2, none⟩ = some (.int .i64 a1_2) := (blk_cell BK245.out 2).trans rfl
                            have hfz67_0 := blk_frozen BK245.out 0
                            have hfz67_1 := blk_frozen BK245.out 1
                            have hfz67_2 := blk_frozen BK245.out 2
                            go_wp2
                            go_ret
                            exact ⟨by first | rfl | (simp [errW_none, errW_some] <;> rfl) | (simp [*, errW_none, errW_some] <;> rfl), by repeat (first | (with_reducible first | exact HB.out | apply below_alloc | apply pw_below_drewN | apply below_drew1 | refine below_set ?_ GE245.out) | exact HB.out)⟩
                          · rw [if_neg c66] at H
                            have c66b0 : (t259 != t263) = false := by simpa using c66
                            (try (have c66b1 : decide (t259 = t263) = true := by simpa using c66))
                            (try (have c66b2 : (t259 == t263) = true := by simpa using c66))
                            clear c66
                            have H' := Aside0.mk H
                            clear H
                            have hcz68_0 : wc.cell? ⟨gb245, 0, none⟩ = some (.int .i64 a1_0) := (blk_cell BK245.out 0).trans rfl
                            have hcz68_1 : wc.cell? ⟨gb245, 1, none⟩ = some (.int .i64 a1_1) := (blk_cell BK245.out 1).trans rfl
                            have hcz68_2 : wc.cell? ⟨gb245, 2, none⟩ = some (.int .i64 a1_2) := (blk_cell BK245.out 2).trans rfl
                            have hfz68_0 := blk_frozen BK245.out 0
                            have hfz68_1 := blk_frozen BK245.out 1
                            have hfz68_2 := blk_frozen BK245.out 2
                            go_wp2
                            go_roundg kj30
                            case measure => have := HJ2.out; have := HK2.out; have := HJ30.out; omega
                            case rel => exact ⟨(wrap64 (x8_2 + 1)), (by first | rfl | (simp; done) | (simp [*]; done)), H', ⟨by have := HJ2.out; have := HK2.out; have := HJ30.out; omega⟩, ⟨by (with_reducible repeat (first | apply Kd.R_alloc | apply Kd.R_drewN | apply Kd.R_drew)); exact HO_5.out⟩, ⟨by (with_reducible repeat (first | apply Kd.R_alloc | apply Kd.R_drewN | apply Kd.R_drew)); exact HO_6.out⟩, ⟨by (with_reducible repeat (first | apply Kd.R_alloc | apply Kd.R_drewN | apply Kd.R_drew)); exact HO_7.out⟩, ⟨by (with_reducible repeat (first | refine blk_drewN ?_ _ | refine blk_drew ?_ | refine blk_alloc ?_ _)); exact BK245.out⟩, ⟨by repeat (first | (with_reducible first | exact HB.out | apply below_alloc | apply pw_below_drewN | apply below_drew1 | refine below_set ?_ GE245.out) | exact HB.out)⟩⟩
                        · rw [if_neg c65] at H
                          have c65b0 : (t258 == t260) = false := beq_eq_false_iff_ne.mpr c65
                          have c65b1 : (t258 != t260) = true := bne_iff_ne.mpr c65
                          obtain rfl := Option.some.inj H
                          have hcz69_0 : wc.cell? ⟨gb245, 0, none⟩ = some (.int .i64 a1_0) := (blk_cell BK245.out 0).trans rfl
                          have hcz69_1 : wc.cell? ⟨gb245, 1, none⟩ = some (.int .i64 a1_1) := (blk_cell BK245.out 1).trans rfl
                          have hcz69_2 : wc.cell? ⟨gb245, 2, none⟩ = some (.int .i64 a1_2) := (blk_cell BK245.out 2).trans rfl
                          have hfz69_0 := blk_frozen BK245.out 0
                          have hfz69_1 := blk_frozen BK245.out 1
                          have hfz69_2 := blk_frozen BK245.out 2
                          go_wp2
                          go_ret
                          exact ⟨by first | rfl | (simp [errW_none, errW_some] <;> rfl) | (simp [*, errW_none, errW_some] <;> rfl), by repeat (first | (with_reducible first | exact HB.out | apply below_alloc | apply pw_below_drewN | apply below_drew1 | refine below_set ?_ GE245.out) | exact HB.out)⟩
            · rw [if_neg c27] at H
              have c27b0 : decide (x8_2 < 64) = false := decide_eq_false c27
              clear c27
              obtain rfl := Option.some.inj H
              go_wp2
              go_ret
              exact ⟨by first | rfl | (simp [errW_none, errW_some] <;> rfl) | (simp [*, errW_none, errW_some] <;> rfl), by repeat (first | (with_reducible first | exact HB.out | apply below_alloc | apply pw_below_drewN | apply below_drew1 | refine below_set ?_ GE245.out) | exact HB.out)⟩

end Go.Proofs.Ytmbigclkmclbdaa.B
