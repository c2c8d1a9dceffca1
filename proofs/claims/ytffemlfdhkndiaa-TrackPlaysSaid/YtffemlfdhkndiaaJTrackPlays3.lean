/- Parts of the proof for TrackPlays: Ax8, SpanT, Runs, Abs, BookG, BookF, BookS, Ax13, Ax14, Ax15, Ax16, Ax2, Ax17, Ax18. -/
import Derived.Test.YtffemlfdhkndiaaJTrackPlays2
section
namespace Go.Proofs.Ytffemlfdhkndiaa.A
open Go.RowKit Go.Proofs.YtffemlfdhkndiaaW.PrintWords Go.Proofs.YtffemlfdhkndiaaW.PrintLast Go.Proofs.YtffemlfdhkndiaaW.PrintMore
attribute [local go_sem] max2_int min2_int max_two min_two max_three min_three max_four min_four   -- for this text's walks alone
set_option linter.unusedVariables false
set_option linter.unusedSimpArgs false
def span_Join.f (a0_0 : Int) (a0_1 : Int) (a1_0 : Int) (a1_1 : Int) : Option (Int × Int × Bool) := (span_Touch.f a0_0 a0_1 a1_0 a1_1).bind fun t119 => (if t119 = true then ((span_End.f a0_0 a0_1).bind fun t120 => ((span_End.f a1_0 a1_1).bind fun t121 => ((span_of.f (mn a0_0 a1_0) (mx t120 t121)).bind fun bt122 => (some (bt122.1, bt122.2.1, bt122.2.2))))) else (some (0, 0, false)))
def span_Join.T3 : Bool × List (List Nat × List Nat) := (true, [([], []), ([0], [0]), ([], []), ([2], [2]), ([1, 3], [1, 3]), ([], []), ([5], [5]), ([], []), ([7, 6], [7]), ([6, 8], [6, 8]), ([4, 9, 8], [4, 9]), ([10], [10]), ([10], [10]), ([11, 10, 0, 1, 2, 3, 4, 5, 6, 7, 8, 9, 10, 11, 12], [11]), ([12, 13, 0, 1, 2, 3, 4, 5, 6, 7, 8, 9, 10, 11, 12, 13], [12])])
def span_Join.B3 : List Nat := [0, 1, 0, 4, 15, 0, 32, 0, 224, 480, 1023, 2047, 2047, 8191, 16383]
theorem span_Join.tab3 : rtab .any (opsOf Try.f96 3) = span_Join.T3 := by kernel_rfl
theorem span_Join.bits3 : waitsOk span_Join.T3.2 span_Join.B3 = true := by kernel_rfl
set_option maxHeartbeats 8000000 in
set_option maxRecDepth 100000 in
theorem span_Join.calls (a0_0 : Int) (a0_1 : Int) (a1_0 : Int) (a1_1 : Int) (r1 : Int) (r2 : Int) (r3 : Bool) (w : World) (h : span_Join.f a0_0 a0_1 a1_0 a1_1 = some (r1, r2, r3)) :
    Calls Try.prog 96 #[.agg #[.int .i64 a0_0, .int .i64 a0_1], .agg #[.int .i64 a1_0, .int .i64 a1_1]] w fun e w' => e = .returned (.tuple #[.agg #[.int .i64 r1, .int .i64 r2], .bool r3]) ∧ Below w.heap.size w w' := by
  have hu31 := Try.underlying31
  have HB := Aside0.mk (Below.refl w.heap.size w)
  have H : ((span_Touch.f a0_0 a0_1 a1_0 a1_1).bind fun t119 => (if t119 = true then ((span_End.f a0_0 a0_1).bind fun t120 => ((span_End.f a1_0 a1_1).bind fun t121 => ((span_of.f (mn a0_0 a1_0) (mx t120 t121)).bind fun bt122 => (some (bt122.1, bt122.2.1, bt122.2.2))))) else (some (0, 0, false)))) = some (r1, r2, r3) := h
  clear h
  replace H := Option.bind_eq_some_iff.mp H
  obtain ⟨t119, A30, H⟩ := H
  replace H : (if t119 = true then ((span_End.f a0_0 a0_1).bind fun t120 => ((span_End.f a1_0 a1_1).bind fun t121 => ((span_of.f (mn a0_0 a1_0) (mx t120 t121)).bind fun bt122 => (some (bt122.1, bt122.2.1, bt122.2.2))))) else (some (0, 0, false))) = some (r1, r2, r3) := H
  have A3 := Aside0.mk A30
  clear A30
  by_cases c4 : t119 = true
  · subst c4
    have H1 : ((span_End.f a0_0 a0_1).bind fun t120 => ((span_End.f a1_0 a1_1).bind fun t121 => ((span_of.f (mn a0_0 a1_0) (mx t120 t121)).bind fun bt122 => (some (bt122.1, bt122.2.1, bt122.2.2))))) = some (r1, r2, r3) := by rw [if_pos rfl] at H; exact H
    clear H
    have H := H1
    clear H1
    obtain ⟨ji5, hji5⟩ : ∃ j_ : Int, (mn a0_0 a1_0) = j_ := ⟨_, rfl⟩
    replace H : ((span_End.f a0_0 a0_1).bind fun t120 => ((span_End.f a1_0 a1_1).bind fun t121 => ((span_of.f (ji5) (mx t120 t121)).bind fun bt122 => (some (bt122.1, bt122.2.1, bt122.2.2))))) = some (r1, r2, r3) := by first | (rw [hji5] at H; exact H) | (simp only [hji5] at H ⊢; exact H)
    (try rw [hji5] at A3)
    have hji5_ : (if a1_0 < a0_0 then a1_0 else a0_0) = ji5 := hji5
    replace H := Option.bind_eq_some_iff.mp H
    obtain ⟨t120, A60, H⟩ := H
    replace H : ((span_End.f a1_0 a1_1).bind fun t121 => ((span_of.f (ji5) (mx t120 t121)).bind fun bt122 => (some (bt122.1, bt122.2.1, bt122.2.2)))) = some (r1, r2, r3) := H
    have A6 := Aside0.mk A60
    clear A60
    replace H := Option.bind_eq_some_iff.mp H
    obtain ⟨t121, A70, H⟩ := H
    replace H : ((span_of.f (ji5) (mx t120 t121)).bind fun bt122 => (some (bt122.1, bt122.2.1, bt122.2.2))) = some (r1, r2, r3) := H
    have A7 := Aside0.mk A70
    clear A70
    obtain ⟨ji8, hji8⟩ : ∃ j_ : Int, (mx t120 t121) = j_ := ⟨_, rfl⟩
    replace H : ((span_of.f (ji5) (ji8)).bind fun bt122 => (some (bt122.1, bt122.2.1, bt122.2.2))) = some (r1, r2, r3) := by first | (rw [hji8] at H; exact H) | (simp only [hji8] at H ⊢; exact H)
    (try rw [hji8] at A3)
    (try rw [hji8] at A6)
    (try rw [hji8] at A7)
    have hji8_ : (if t120 < t121 then t121 else t120) = ji8 := hji8
    replace H := Option.bind_eq_some_iff.mp H
    obtain ⟨⟨t122, t123, t124⟩, A90, H⟩ := H
    replace H : (some (t122, t123, t124)) = some (r1, r2, r3) := H
    have A9 := Aside0.mk A90
    clear A90
    simp only [Option.some.injEq, Prod.mk.injEq] at H
    obtain ⟨rfl, rfl, rfl⟩ := H
    go_enter Try.func96, Try.ntmps96
    try go_wp2_with (first | ((with_reducible refine gate_dst (N := 2) rfl ?_); refine box_event ?hg (N := 2) ?hd (cs := #[.int .i64 a0_0, .int .i64 a0_1]) (t := 31) ?hr ?_; (case hd => rfl); (case hg => rfl); (case hr => first | (go_simp; done) | (go_simp; rfl)); intro gb116 hg w10 hbox hb; have n0_ := Aside0.mk (below_step (by repeat (first | (with_reducible first | exact HB.out | apply below_alloc | apply pw_below_drewN | apply below_drew1) | exact HB.out)) hb); have n1_ := Aside0.mk (hbox); have n2_ := Aside0.mk ((by rw [hg]; exact (below_size (by repeat (first | (with_reducible first | exact HB.out | apply below_alloc | apply pw_below_drewN | apply below_drew1) | exact HB.out))) : w.heap.size ≤ gb116)); have n3_ := Aside0.mk ((by rw [hg]; exact (below_size (by repeat (first | (with_reducible first | exact HB.out | apply below_alloc | apply pw_below_drewN | apply below_drew1) | exact HB.out))) : w.heap.size ≤ gb116)); clear HB; have HB := n0_; have BK116 := n1_; have GW116 := n2_; have GE116 := n3_; clear n0_ n1_ n2_ n3_; clear hb hbox hg) | ((with_reducible refine gate_dst (N := 3) rfl ?_); refine box_event ?hg (N := 3) ?hd (cs := #[.int .i64 a1_0, .int .i64 a1_1]) (t := 31) ?hr ?_; (case hd => rfl); (case hg => rfl); (case hr => first | (go_simp; done) | (go_simp; rfl)); intro gb117 hg w11 hbox hb; have n0_ := Aside0.mk (blk_below (g := gb116) (o := .cells #[.int .i64 a0_0, .int .i64 a0_1] 31 (0, 0)) (by (with_reducible repeat (first | refine blk_drewN ?_ _ | refine blk_drew ?_ | refine blk_alloc ?_ _)); exact BK116.out) hb); have n1_ := Aside0.mk (below_step (by repeat (first | (with_reducible first | exact HB.out | apply below_alloc | apply pw_below_drewN | apply below_drew1 | refine below_set ?_ GE116.out) | exact HB.out)) hb); have n2_ := Aside0.mk (hbox); have n3_ := Aside0.mk ((by rw [hg]; exact (below_size (by repeat (first | (with_reducible first | exact HB.out | apply below_alloc | apply pw_below_drewN | apply below_drew1 | refine below_set ?_ GE116.out) | exact HB.out))) : w.heap.size ≤ gb117)); have n4_ := Aside0.mk ((by rw [hg]; exact (below_size (by repeat (first | (with_reducible first | exact HB.out | apply below_alloc | apply pw_below_drewN | apply below_drew1 | refine below_set ?_ GE116.out) | exact HB.out))) : w.heap.size ≤ gb117)); have n5_ := Aside0.mk ((by rw [hg]; exact Nat.ne_of_lt (blk_lt (g := gb116) (o := .cells #[.int .i64 a0_0, .int .i64 a0_1] 31 (0, 0)) (by (with_reducible repeat (first | refine blk_drewN ?_ _ | refine blk_drew ?_ | refine blk_alloc ?_ _)); exact BK116.out)) : gb116 ≠ gb117)); have n6_ := Aside0.mk ((by rw [hg]; exact Nat.ne_of_gt (blk_lt (g := gb116) (o := .cells #[.int .i64 a0_0, .int .i64 a0_1] 31 (0, 0)) (by (with_reducible repeat (first | refine blk_drewN ?_ _ | refine blk_drew ?_ | refine blk_alloc ?_ _)); exact BK116.out)) : gb117 ≠ gb116)); clear BK116; clear HB; have BK116 := n0_; have HB := n1_; have BK117 := n2_; have GW117 := n3_; have GE117 := n4_; have NB116_117 := n5_; have NB117_116 := n6_; clear n0_ n1_ n2_ n3_ n4_ n5_ n6_; clear hb hbox hg) | ((with_reducible refine gate_dst (N := 4) rfl ?_); refine box_event ?hg (N := 4) ?hd (cs := #[.int .i64 0, .int .i64 0]) (t := 31) ?hr ?_; (case hd => rfl); (case hg => rfl); (case hr => first | (go_simp; done) | (go_simp; rfl)); intro gb118 hg w12 hbox hb; have n0_ := Aside0.mk (blk_below (g := gb116) (o := .cells #[.int .i64 a0_0, .int .i64 a0_1] 31 (0, 0)) (by (with_reducible repeat (first | refine blk_drewN ?_ _ | refine blk_drew ?_ | refine blk_alloc ?_ _)); exact BK116.out) hb); have n1_ := Aside0.mk (blk_below (g := gb117) (o := .cells #[.int .i64 a1_0, .int .i64 a1_1] 31 (0, 0)) (by (with_reducible repeat (first | refine blk_drewN ?_ _ | refine blk_drew ?_ | refine blk_alloc ?_ _)); exact BK117.out) hb); have n2_ := Aside0.mk (below_step (by repeat (first | (with_reducible first | exact HB.out | apply below_alloc | apply pw_below_drewN | apply below_drew1 | refine below_set ?_ GE116.out | refine below_set ?_ GE117.out) | exact HB.out)) hb); have n3_ := Aside0.mk (hbox); have n4_ := Aside0.mk ((by rw [hg]; exact (below_size (by repeat (first | (with_reducible first | exact HB.out | apply below_alloc | apply pw_below_drewN | apply below_drew1 | refine below_set ?_ GE116.out | refine below_set ?_ GE117.out) | exact HB.out))) : w.heap.size ≤ gb118)); have n5_ := Aside0.mk ((by rw [hg]; exact (below_size (by repeat (first | (with_reducible first | exact HB.out | apply below_alloc | apply pw_below_drewN | apply below_drew1 | refine below_set ?_ GE116.out | refine below_set ?_ GE117.out) | exact HB.out))) : w.heap.size ≤ gb118)); have n6_ := Aside0.mk ((by rw [hg]; exact Nat.ne_of_lt (blk_lt (g := gb116) (o := .cells #[.int .i64 a0_0, .int .i64 a0_1] 31 (0, 0)) (by (with_reducible repeat (first | refine blk_drewN ?_ _ | refine blk_drew ?_ | refine blk_alloc ?_ _)); exact BK116.out)) : gb116 ≠ gb118)); have n7_ := Aside0.mk ((by rw [hg]; exact Nat.ne_of_gt (blk_lt (g := gb116) (o := .cells #[.int .i64 a0_0, .int .i64 a0_1] 31 (0, 0)) (by (with_reducible repeat (first | refine blk_drewN ?_ _ | refine blk_drew ?_ | refine blk_alloc ?_ _)); exact BK116.out)) : gb118 ≠ gb116)); have n8_ := Aside0.mk ((by rw [hg]; exact Nat.ne_of_lt (blk_lt (g := gb117) (o := .cells #[.int .i64 a1_0, .int .i64 a1_1] 31 (0, 0)) (by (with_reducible repeat (first | refine blk_drewN ?_ _ | refine blk_drew ?_ | refine blk_alloc ?_ _)); exact BK117.out)) : gb117 ≠ gb118)); have n9_ := Aside0.mk ((by rw [hg]; exact Nat.ne_of_gt (blk_lt (g := gb117) (o := .cells #[.int .i64 a1_0, .int .i64 a1_1] 31 (0, 0)) (by (with_reducible repeat (first | refine blk_drewN ?_ _ | refine blk_drew ?_ | refine blk_alloc ?_ _)); exact BK117.out)) : gb118 ≠ gb117)); clear BK116; clear BK117; clear HB; have BK116 := n0_; have BK117 := n1_; have HB := n2_; have BK118 := n3_; have GW118 := n4_; have GE118 := n5_; have NB116_118 := n6_; have NB118_116 := n7_; have NB117_118 := n8_; have NB118_117 := n9_; clear n0_ n1_ n2_ n3_ n4_ n5_ n6_ n7_ n8_ n9_; clear hb hbox hg; have hnb13 := NB116_117.out; have hnc13 := NB117_116.out; have hnb14 := NB116_118.out; have hnc14 := NB118_116.out; have hcz15_0 : w12.cell? ⟨gb116, 0, none⟩ = some (.int .i64 a0_0) := (blk_cell BK116.out 0).trans rfl; have hcz15_1 : w12.cell? ⟨gb116, 1, none⟩ = some (.int .i64 a0_1) := (blk_cell BK116.out 1).trans rfl; have hfz15_0 := blk_frozen BK116.out 0; have hfz15_1 := blk_frozen BK116.out 1; have hnb16 := NB117_118.out; have hnc16 := NB118_117.out; have hcz17_0 : w12.cell? ⟨gb117, 0, none⟩ = some (.int .i64 a1_0) := (blk_cell BK117.out 0).trans rfl; have hcz17_1 : w12.cell? ⟨gb117, 1, none⟩ = some (.int .i64 a1_1) := (blk_cell BK117.out 1).trans rfl; have hfz17_0 := blk_frozen BK117.out 0; have hfz17_1 := blk_frozen BK117.out 1) | ((with_reducible refine gate_callee (f := 95) rfl ?_); refine goesL_ (some 8) rfl rfl Try.func95 (by kernel_rfl) rfl #[.agg #[.int .i64 a0_0, .int .i64 a0_1], .agg #[.int .i64 a1_0, .int .i64 a1_1]] rfl (by (try simp only [List.map_toArray, List.map_cons, List.map_nil]); first | done | rfl | (simp only [List.length_drop, List.length_take]; rfl)) ?_; (with_reducible refine (span_Touch.calls a0_0 a0_1 a1_0 a1_1 true _ A3.out).mono ?_); rintro e w18 ⟨rfl, hb⟩; refine ⟨_, rfl, ?_⟩; have n0_ := Aside0.mk (blk_below (g := gb116) (o := .cells #[.int .i64 a0_0, .int .i64 a0_1] 31 (0, 0)) (by (with_reducible repeat (first | refine blk_drewN ?_ _ | refine blk_drew ?_ | refine blk_alloc ?_ _)); exact BK116.out) hb); have n1_ := Aside0.mk (blk_below (g := gb117) (o := .cells #[.int .i64 a1_0, .int .i64 a1_1] 31 (0, 0)) (by (with_reducible repeat (first | refine blk_drewN ?_ _ | refine blk_drew ?_ | refine blk_alloc ?_ _)); exact BK117.out) hb); have n2_ := Aside0.mk (blk_below (g := gb118) (o := .cells #[.int .i64 0, .int .i64 0] 31 (0, 0)) (by (with_reducible repeat (first | refine blk_drewN ?_ _ | refine blk_drew ?_ | refine blk_alloc ?_ _)); exact BK118.out) hb); have n3_ := Aside0.mk (below_step (by repeat (first | (with_reducible first | exact HB.out | apply below_alloc | apply pw_below_drewN | apply below_drew1 | refine below_set ?_ GE116.out | refine below_set ?_ GE117.out | refine below_set ?_ GE118.out) | exact HB.out)) hb); clear BK116; clear BK117; clear BK118; clear HB; have BK116 := n0_; have BK117 := n1_; have BK118 := n2_; have HB := n3_; clear n0_ n1_ n2_ n3_; (try clear hb); (try clear hb2); (try clear hk); (try clear hi)))
    have n0_ := Aside0.mk (blk_drew BK116.out)
    have n1_ := Aside0.mk (blk_drew BK117.out)
    have n2_ := Aside0.mk (blk_drew BK118.out)
    have n3_ := Aside0.mk (below_drew1 HB.out)
    clear BK116
    clear BK117
    clear BK118
    clear HB
    have BK116 := n0_
    have BK117 := n1_
    have BK118 := n2_
    have HB := n3_
    clear n0_ n1_ n2_ n3_
    refine start_ (n := 15) (S := fun w' => w'.cell? ⟨gb116, 0, none⟩ = some (.int .i64 a0_0) ∧ w'.cell? ⟨gb116, 1, none⟩ = some (.int .i64 a0_1) ∧ w'.cell? ⟨gb117, 0, none⟩ = some (.int .i64 a1_0) ∧ w'.cell? ⟨gb117, 1, none⟩ = some (.int .i64 a1_1)) (ds := []) #[false, false, false, false, false, false, false, false, false, false, false, false, false, false, false] (by kernel_rfl) rfl rfl ⟨(blk_cell BK116.out 0).trans rfl, (blk_cell BK116.out 1).trans rfl, (blk_cell BK117.out 0).trans rfl, (blk_cell BK117.out 1).trans rfl⟩ (fun hHeld => ?_); refine with_tabW span_Join.tab3 span_Join.bits3 (fun HT_ HW_ => ?_)
    generalize w18.drew = w19 at BK116 BK117 BK118 HB hHeld ⊢
    refine pure_ (i := 0) (N := some 11) (v := ?_) (a' := ?_) #[true, false, false, false, false, false, false, false, false, false, false, false, false, false, false] rfl rfl (any_of HT_.out (by kernel_rfl)) (fun _ _ _ h => h) (Or.inl ⟨by rfl, ?_⟩) ?_ ?_
    rotate_left
    · intro w'
      go_simp
      with_reducible rfl
    rotate_left
    · simp only [Act.put, List.setIfInBounds_toArray, List.set_cons_zero, List.set_cons_succ, i64_w, i32_w]
      rfl
    refine pure_ (i := 2) (N := some 13) (v := ?_) (a' := ?_) #[true, false, true, false, false, false, false, false, false, false, false, false, false, false, false] rfl rfl (any_of HT_.out (by kernel_rfl)) (fun _ _ _ h => h) (Or.inl ⟨by rfl, ?_⟩) ?_ ?_
    rotate_left
    · intro w'
      go_simp
      with_reducible rfl
    rotate_left
    · simp only [Act.put, List.setIfInBounds_toArray, List.set_cons_zero, List.set_cons_succ, i64_w, i32_w]
      rfl
    refine take_ (i := 1) (N := some 12) (v := ?_) (a' := ?_) #[true, true, true, false, false, false, false, false, false, false, false, false, false, false, false] rfl rfl (take_ofW HT_.out HW_.out (by kernel_rfl)) (fun _ _ _ h => h) (Or.inl ⟨by rfl, ?_⟩) hHeld ?_ ?_
    rotate_left
    · rintro w' ⟨s0, s1, s2, s3⟩
      go_simp
      with_reducible rfl
    rotate_left
    · simp only [Act.put, List.setIfInBounds_toArray, List.set_cons_zero, List.set_cons_succ, i64_w, i32_w]
      rfl
    refine take_ (i := 3) (N := some 14) (v := ?_) (a' := ?_) #[true, true, true, true, false, false, false, false, false, false, false, false, false, false, false] rfl rfl (take_ofW HT_.out HW_.out (by kernel_rfl)) (fun _ _ _ h => h) (Or.inl ⟨by rfl, ?_⟩) hHeld ?_ ?_
    rotate_left
    · rintro w' ⟨s0, s1, s2, s3⟩
      go_simp
      with_reducible rfl
    rotate_left
    · simp only [Act.put, List.setIfInBounds_toArray, List.set_cons_zero, List.set_cons_succ, i64_w, i32_w]
      rfl
    refine pure_ (i := 4) (N := some 15) (v := ?_) (a' := ?_) #[true, true, true, true, true, false, false, false, false, false, false, false, false, false, false] rfl rfl (any_of HT_.out (by kernel_rfl)) (fun _ _ _ h => h) (Or.inl ⟨by rfl, ?_⟩) ?_ ?_
    rotate_left
    · intro w'
      go_simp
      with_reducible rfl
    rotate_left
    · simp only [Act.put, List.setIfInBounds_toArray, List.set_cons_zero, List.set_cons_succ, i64_w, i32_w]
      rfl
    refine take_ (i := 5) (N := some 16) (v := ?_) (a' := ?_) #[true, true, true, true, true, true, false, false, false, false, false, false, false, false, false] rfl rfl (take_ofW HT_.out HW_.out (by kernel_rfl)) (fun _ _ _ h => h) (Or.inl ⟨by rfl, ?_⟩) hHeld ?_ ?_
    rotate_left
    · rintro w' ⟨s0, s1, s2, s3⟩
      go_simp
      with_reducible rfl
    rotate_left
    · simp only [Act.put, List.setIfInBounds_toArray, List.set_cons_zero, List.set_cons_succ, i64_w, i32_w]
      rfl
    refine take_ (i := 7) (N := some 18) (v := ?_) (a' := ?_) #[true, true, true, true, true, true, false, true, false, false, false, false, false, false, false] rfl rfl (take_ofW HT_.out HW_.out (by kernel_rfl)) (fun _ _ _ h => h) (Or.inl ⟨by rfl, ?_⟩) hHeld ?_ ?_
    rotate_left
    · rintro w' ⟨s0, s1, s2, s3⟩
      go_simp
      with_reducible rfl
    rotate_left
    · simp only [Act.put, List.setIfInBounds_toArray, List.set_cons_zero, List.set_cons_succ, i64_w, i32_w]
      rfl
    refine one_ (i := 6) (N := some 17) #[true, true, true, true, true, true, true, true, false, false, false, false, false, false, false] rfl rfl (one_of HT_.out (by kernel_rfl)) (by decide) (fun K hK => ?_)
    refine goes_ Try.func110 (by kernel_rfl) rfl #[.agg #[.int .i64 a0_0, .int .i64 a0_1]] (by rfl) rfl rfl (by (try simp only [List.map_toArray, List.map_cons, List.map_nil]); first | done | rfl | (simp only [List.length_drop, List.length_take]; rfl)) ?_
    with_reducible refine (span_End.calls a0_0 a0_1 t120 _ A6.out).mono ?_
    rintro e w20 ⟨rfl, hb⟩
    refine ⟨_, rfl, ?_⟩
    have n0_ := Aside0.mk (blk_below (g := gb116) (o := .cells #[.int .i64 a0_0, .int .i64 a0_1] 31 (0, 0)) (by (with_reducible repeat (first | refine blk_drewN ?_ _ | refine blk_drew ?_ | refine blk_alloc ?_ _)); exact BK116.out) hb)
    have n1_ := Aside0.mk (blk_below (g := gb117) (o := .cells #[.int .i64 a1_0, .int .i64 a1_1] 31 (0, 0)) (by (with_reducible repeat (first | refine blk_drewN ?_ _ | refine blk_drew ?_ | refine blk_alloc ?_ _)); exact BK117.out) hb)
    have n2_ := Aside0.mk (blk_below (g := gb118) (o := .cells #[.int .i64 0, .int .i64 0] 31 (0, 0)) (by (with_reducible repeat (first | refine blk_drewN ?_ _ | refine blk_drew ?_ | refine blk_alloc ?_ _)); exact BK118.out) hb)
    have n3_ := Aside0.mk (below_step (by repeat (first | (with_reducible first | exact HB.out | apply below_alloc | apply pw_below_drewN | apply below_drew1 | refine below_set ?_ GE116.out | refine below_set ?_ GE117.out | refine below_set ?_ GE118.out) | exact HB.out)) hb)
    clear BK116
    clear BK117
    clear BK118
    clear HB
    have BK116 := n0_
    have BK117 := n1_
    have BK118 := n2_
    have HB := n3_
    clear n0_ n1_ n2_ n3_
    (try clear hb)
    (try clear hb2)
    (try clear hk)
    (try clear hi)
    refine hK.out _ _ ⟨(blk_cell BK116.out 0).trans rfl, (blk_cell BK116.out 1).trans rfl, (blk_cell BK117.out 0).trans rfl, (blk_cell BK117.out 1).trans rfl⟩ (fun hHeld => ?_)
    clear hK K
    refine norm_ (a' := ?_) ?_ ?_
    rotate_left
    · show Act.put _ (some 17) _ = _
      simp only [Act.put, List.setIfInBounds_toArray, List.set_cons_zero, List.set_cons_succ, i64_w, i32_w]
      rfl
    refine one_ (i := 8) (N := some 19) #[true, true, true, true, true, true, true, true, true, false, false, false, false, false, false] rfl rfl (one_of HT_.out (by kernel_rfl)) (by decide) (fun K hK => ?_)
    refine goes_ Try.func110 (by kernel_rfl) rfl #[.agg #[.int .i64 a1_0, .int .i64 a1_1]] (by rfl) rfl rfl (by (try simp only [List.map_toArray, List.map_cons, List.map_nil]); first | done | rfl | (simp only [List.length_drop, List.length_take]; rfl)) ?_
    with_reducible refine (span_End.calls a1_0 a1_1 t121 _ A7.out).mono ?_
    rintro e w21 ⟨rfl, hb⟩
    refine ⟨_, rfl, ?_⟩
    have n0_ := Aside0.mk (blk_below (g := gb116) (o := .cells #[.int .i64 a0_0, .int .i64 a0_1] 31 (0, 0)) (by (with_reducible repeat (first | refine blk_drewN ?_ _ | refine blk_drew ?_ | refine blk_alloc ?_ _)); exact BK116.out) hb)
    have n1_ := Aside0.mk (blk_below (g := gb117) (o := .cells #[.int .i64 a1_0, .int .i64 a1_1] 31 (0, 0)) (by (with_reducible repeat (first | refine blk_drewN ?_ _ | refine blk_drew ?_ | refine blk_alloc ?_ _)); exact BK117.out) hb)
    have n2_ := Aside0.mk (blk_below (g := gb118) (o := .cells #[.int .i64 0, .int .i64 0] 31 (0, 0)) (by (with_reducible repeat (first | refine blk_drewN ?_ _ | refine blk_drew ?_ | refine blk_alloc ?_ _)); exact BK118.out) hb)
    have n3_ := Aside0.mk (below_step (by repeat (first | (with_reducible first | exact HB.out | apply below_alloc | apply pw_below_drewN | apply below_drew1 | refine below_set ?_ GE116.out | refine below_set ?_ GE117.out | refine below_set ?_ GE118.out) | exact HB.out)) hb)
    clear BK116
    clear BK117
    clear BK118
    clear HB
    have BK116 := n0_
    have BK117 := n1_
    have BK118 := n2_
    have HB := n3_
    clear n0_ n1_ n2_ n3_
    (try clear hb)
    (try clear hb2)
    (try clear hk)
    (try clear hi)
    refine hK.out _ _ ⟨(blk_cell BK116.out 0).trans rfl, (blk_cell BK116.out 1).trans rfl, (blk_cell BK117.out 0).trans rfl, (blk_cell BK117.out 1).trans rfl⟩ (fun hHeld => ?_)
    clear hK K
    refine norm_ (a' := ?_) ?_ ?_
    rotate_left
    · show Act.put _ (some 19) _ = _
      simp only [Act.put, List.setIfInBounds_toArray, List.set_cons_zero, List.set_cons_succ, i64_w, i32_w]
      rfl
    refine pure_ (i := 9) (N := some 20) (v := ?_) (a' := ?_) #[true, true, true, true, true, true, true, true, true, true, false, false, false, false, false] rfl rfl (any_of HT_.out (by kernel_rfl)) (fun _ _ _ h => h) (Or.inl ⟨by rfl, ?_⟩) ?_ ?_
    rotate_left
    · intro w'
      go_simp
      with_reducible rfl
    rotate_left
    · simp only [Act.put, List.setIfInBounds_toArray, List.set_cons_zero, List.set_cons_succ, i64_w, i32_w]
      rfl
    refine one_ (i := 10) (N := some 21) #[true, true, true, true, true, true, true, true, true, true, true, false, false, false, false] rfl rfl (one_of HT_.out (by kernel_rfl)) (by decide) (fun K hK => ?_)
    refine goes_ Try.func111 (by kernel_rfl) rfl #[.int .i64 ji5, .int .i64 ji8] (by rfl) rfl rfl (by (try simp only [List.map_toArray, List.map_cons, List.map_nil]); first | done | (simp only [hji5, hji8]; rfl) | rfl | (simp only [List.length_drop, List.length_take]; rfl)) ?_
    with_reducible refine (span_of.calls ji5 ji8 t122 t123 t124 _ A9.out).mono ?_
    rintro e w22 ⟨rfl, hb⟩
    refine ⟨_, rfl, ?_⟩
    have n0_ := Aside0.mk (blk_below (g := gb116) (o := .cells #[.int .i64 a0_0, .int .i64 a0_1] 31 (0, 0)) (by (with_reducible repeat (first | refine blk_drewN ?_ _ | refine blk_drew ?_ | refine blk_alloc ?_ _)); exact BK116.out) hb)
    have n1_ := Aside0.mk (blk_below (g := gb117) (o := .cells #[.int .i64 a1_0, .int .i64 a1_1] 31 (0, 0)) (by (with_reducible repeat (first | refine blk_drewN ?_ _ | refine blk_drew ?_ | refine blk_alloc ?_ _)); exact BK117.out) hb)
    have n2_ := Aside0.mk (blk_below (g := gb118) (o := .cells #[.int .i64 0, .int .i64 0] 31 (0, 0)) (by (with_reducible repeat (first | refine blk_drewN ?_ _ | refine blk_drew ?_ | refine blk_alloc ?_ _)); exact BK118.out) hb)
    have n3_ := Aside0.mk (below_step (by repeat (first | (with_reducible first | exact HB.out | apply below_alloc | apply pw_below_drewN | apply below_drew1 | refine below_set ?_ GE116.out | refine below_set ?_ GE117.out | refine below_set ?_ GE118.out) | exact HB.out)) hb)
    clear BK116
    clear BK117
    clear BK118
    clear HB
    have BK116 := n0_
    have BK117 := n1_
    have BK118 := n2_
    have HB := n3_
    clear n0_ n1_ n2_ n3_
    (try clear hb)
    (try clear hb2)
    (try clear hk)
    (try clear hi)
    refine hK.out _ _ ⟨(blk_cell BK116.out 0).trans rfl, (blk_cell BK116.out 1).trans rfl, (blk_cell BK117.out 0).trans rfl, (blk_cell BK117.out 1).trans rfl⟩ (fun hHeld => ?_)
    clear hK K
    refine norm_ (a' := ?_) ?_ ?_
    rotate_left
    · show Act.put _ (some 21) _ = _
      simp only [Act.put, List.setIfInBounds_toArray, List.set_cons_zero, List.set_cons_succ, i64_w, i32_w]
      rfl
    refine pure_ (i := 11) (N := some 22) (v := ?_) (a' := ?_) #[true, true, true, true, true, true, true, true, true, true, true, true, false, false, false] rfl rfl (any_of HT_.out (by kernel_rfl)) (fun _ _ _ h => h) (Or.inl ⟨by rfl, ?_⟩) ?_ ?_
    rotate_left
    · intro w'
      go_simp
      with_reducible rfl
    rotate_left
    · simp only [Act.put, List.setIfInBounds_toArray, List.set_cons_zero, List.set_cons_succ, i64_w, i32_w]
      rfl
    refine pure_ (i := 12) (N := some 23) (v := ?_) (a' := ?_) #[true, true, true, true, true, true, true, true, true, true, true, true, true, false, false] rfl rfl (any_of HT_.out (by kernel_rfl)) (fun _ _ _ h => h) (Or.inl ⟨by rfl, ?_⟩) ?_ ?_
    rotate_left
    · intro w'
      go_simp
      with_reducible rfl
    rotate_left
    · simp only [Act.put, List.setIfInBounds_toArray, List.set_cons_zero, List.set_cons_succ, i64_w, i32_w]
      rfl
    refine one_ (i := 13) (N := none) #[true, true, true, true, true, true, true, true, true, true, true, true, true, true, false] rfl rfl (one_of HT_.out (by kernel_rfl)) (by decide) (fun K hK => ?_)
    have hs23 : w22.cell? ⟨gb118, 0, none⟩ = some (.int .i64 0) := (blk_cell BK118.out 0).trans rfl
    have hfs23 := blk_frozen BK118.out 0
    have hns23_0 := NB116_118.out
    have hns23_1 := NB117_118.out
    have hms23_0 := NB118_116.out
    have hms23_1 := NB118_117.out
    have hs24 : w22.cell? ⟨gb118, 1, none⟩ = some (.int .i64 0) := (blk_cell BK118.out 1).trans rfl
    have hfs24 := blk_frozen BK118.out 1
    have hns24_0 := NB116_118.out
    have hns24_1 := NB117_118.out
    have hms24_0 := NB118_116.out
    have hms24_1 := NB118_117.out
    refine skip_ (w1 := ?_) (by rfl) rfl ?_ ?_
    rotate_left
    · go_simp
      rfl
    refine hK.out _ _ ⟨((cell_far (p := ⟨gb118, _, none⟩) NB116_118.out _).trans (((cell_far (p := ⟨gb118, _, none⟩) NB116_118.out _).trans (hHeld.1)))), ((cell_far (p := ⟨gb118, _, none⟩) NB116_118.out _).trans (((cell_far (p := ⟨gb118, _, none⟩) NB116_118.out _).trans (hHeld.2.1)))), ((cell_far (p := ⟨gb118, _, none⟩) NB117_118.out _).trans (((cell_far (p := ⟨gb118, _, none⟩) NB117_118.out _).trans (hHeld.2.2.1)))), ((cell_far (p := ⟨gb118, _, none⟩) NB117_118.out _).trans (((cell_far (p := ⟨gb118, _, none⟩) NB117_118.out _).trans (hHeld.2.2.2))))⟩ (fun hHeld => ?_)
    clear hK K
    refine pure_ (i := 14) (N := some 5) (v := ?_) (a' := ?_) #[true, true, true, true, true, true, true, true, true, true, true, true, true, true, true] rfl rfl (any_of HT_.out (by kernel_rfl)) (fun _ _ _ h => h) (Or.inl ⟨by rfl, ?_⟩) ?_ ?_
    rotate_left
    · intro w'
      go_simp
      with_reducible rfl
    rotate_left
    · simp only [Act.put, List.setIfInBounds_toArray, List.set_cons_zero, List.set_cons_succ, i64_w, i32_w]
      rfl
    refine done_ (done_of HT_.out (by kernel_rfl)) ?_
    try go_wp2
    refine bodyPost_ret (results_ct rfl _ _ gb118 31 #[.int .i64 t122, .int .i64 t123] (0, 0) _ rfl (by (with_reducible repeat (first | refine blk_drewN ?_ _ | refine blk_drew ?_ | refine blk_alloc ?_ _)); refine blk_put (cs := #[.int .i64 t122, .int .i64 0]) ?_ 1 _ rfl; (with_reducible repeat (first | refine blk_drewN ?_ _ | refine blk_drew ?_ | refine blk_alloc ?_ _)); refine blk_put (cs := #[.int .i64 0, .int .i64 0]) ?_ 0 _ rfl; (with_reducible repeat (first | refine blk_drewN ?_ _ | refine blk_drew ?_ | refine blk_alloc ?_ _)); exact BK118.out) Try.underlying31 rfl (by kernel_rfl)) rfl ?_
    exact ⟨by first | rfl | (simp [errW_none, errW_some] <;> rfl) | (simp only [← hji5, ← hji8]; first | rfl | (simp [errW_none, errW_some] <;> rfl)) | (simp [*, errW_none, errW_some] <;> rfl), by repeat (first | (with_reducible first | exact HB.out | apply below_alloc | apply pw_below_drewN | apply below_drew1 | refine below_set ?_ GE116.out | refine below_set ?_ GE117.out | refine below_set ?_ GE118.out) | exact HB.out)⟩
  · replace c4 := Bool.eq_false_iff.mpr c4
    subst c4
    have H1 : (some (0, 0, false)) = some (r1, r2, r3) := by rw [if_neg (show ¬ (false = true) by decide)] at H; exact H
    clear H
    have H := H1
    clear H1
    simp only [Option.some.injEq, Prod.mk.injEq] at H
    obtain ⟨rfl, rfl, rfl⟩ := H
    go_enter Try.func96, Try.ntmps96
    go_wp2_with (first | ((with_reducible refine gate_dst (N := 2) rfl ?_); refine box_event ?hg (N := 2) ?hd (cs := #[.int .i64 a0_0, .int .i64 a0_1]) (t := 31) ?hr ?_; (case hd => rfl); (case hg => rfl); (case hr => first | (go_simp; done) | (go_simp; rfl)); intro gb116 hg w25 hbox hb; have n0_ := Aside0.mk (below_step (by repeat (first | (with_reducible first | exact HB.out | apply below_alloc | apply pw_below_drewN | apply below_drew1) | exact HB.out)) hb); have n1_ := Aside0.mk (hbox); have n2_ := Aside0.mk ((by rw [hg]; exact (below_size (by repeat (first | (with_reducible first | exact HB.out | apply below_alloc | apply pw_below_drewN | apply below_drew1) | exact HB.out))) : w.heap.size ≤ gb116)); have n3_ := Aside0.mk ((by rw [hg]; exact (below_size (by repeat (first | (with_reducible first | exact HB.out | apply below_alloc | apply pw_below_drewN | apply below_drew1) | exact HB.out))) : w.heap.size ≤ gb116)); clear HB; have HB := n0_; have BK116 := n1_; have GW116 := n2_; have GE116 := n3_; clear n0_ n1_ n2_ n3_; clear hb hbox hg) | ((with_reducible refine gate_dst (N := 3) rfl ?_); refine box_event ?hg (N := 3) ?hd (cs := #[.int .i64 a1_0, .int .i64 a1_1]) (t := 31) ?hr ?_; (case hd => rfl); (case hg => rfl); (case hr => first | (go_simp; done) | (go_simp; rfl)); intro gb117 hg w26 hbox hb; have n0_ := Aside0.mk (blk_below (g := gb116) (o := .cells #[.int .i64 a0_0, .int .i64 a0_1] 31 (0, 0)) (by (with_reducible repeat (first | refine blk_drewN ?_ _ | refine blk_drew ?_ | refine blk_alloc ?_ _)); exact BK116.out) hb); have n1_ := Aside0.mk (below_step (by repeat (first | (with_reducible first | exact HB.out | apply below_alloc | apply pw_below_drewN | apply below_drew1 | refine below_set ?_ GE116.out) | exact HB.out)) hb); have n2_ := Aside0.mk (hbox); have n3_ := Aside0.mk ((by rw [hg]; exact (below_size (by repeat (first | (with_reducible first | exact HB.out | apply below_alloc | apply pw_below_drewN | apply below_drew1 | refine below_set ?_ GE116.out) | exact HB.out))) : w.heap.size ≤ gb117)); have n4_ := Aside0.mk ((by rw [hg]; exact (below_size (by repeat (first | (with_reducible first | exact HB.out | apply below_alloc | apply pw_below_drewN | apply below_drew1 | refine below_set ?_ GE116.out) | exact HB.out))) : w.heap.size ≤ gb117)); have n5_ := Aside0.mk ((by rw [hg]; exact Nat.ne_of_lt (blk_lt (g := gb116) (o := .cells #[.int .i64 a0_0, .int .i64 a0_1] 31 (0, 0)) (by (with_reducible repeat (first | refine blk_drewN ?_ _ | refine blk_drew ?_ | refine blk_alloc ?_ _)); exact BK116.out)) : gb116 ≠ gb117)); have n6_ := Aside0.mk ((by rw [hg]; exact Nat.ne_of_gt (blk_lt (g := gb116) (o := .cells #[.int .i64 a0_0, .int .i64 a0_1] 31 (0, 0)) (by (with_reducible repeat (first | refine blk_drewN ?_ _ | refine blk_drew ?_ | refine blk_alloc ?_ _)); exact BK116.out)) : gb117 ≠ gb116)); clear BK116; clear HB; have BK116 := n0_; have HB := n1_; have BK117 := n2_; have GW117 := n3_; have GE117 := n4_; have NB116_117 := n5_; have NB117_116 := n6_; clear n0_ n1_ n2_ n3_ n4_ n5_ n6_; clear hb hbox hg) | ((with_reducible refine gate_dst (N := 4) rfl ?_); refine box_event ?hg (N := 4) ?hd (cs := #[.int .i64 0, .int .i64 0]) (t := 31) ?hr ?_; (case hd => rfl); (case hg => rfl); (case hr => first | (go_simp; done) | (go_simp; rfl)); intro gb118 hg w27 hbox hb; have n0_ := Aside0.mk (blk_below (g := gb116) (o := .cells #[.int .i64 a0_0, .int .i64 a0_1] 31 (0, 0)) (by (with_reducible repeat (first | refine blk_drewN ?_ _ | refine blk_drew ?_ | refine blk_alloc ?_ _)); exact BK116.out) hb); have n1_ := Aside0.mk (blk_below (g := gb117) (o := .cells #[.int .i64 a1_0, .int .i64 a1_1] 31 (0, 0)) (by (with_reducible repeat (first | refine blk_drewN ?_ _ | refine blk_drew ?_ | refine blk_alloc ?_ _)); exact BK117.out) hb); have n2_ := Aside0.mk (below_step (by repeat (first | (with_reducible first | exact HB.out | apply below_alloc | apply pw_below_drewN | apply below_drew1 | refine below_set ?_ GE116.out | refine below_set ?_ GE117.out) | exact HB.out)) hb); have n3_ := Aside0.mk (hbox); have n4_ := Aside0.mk ((by rw [hg]; exact (below_size (by repeat (first | (with_reducible first | exact HB.out | apply below_alloc | apply pw_below_drewN | apply below_drew1 | refine below_set ?_ GE116.out | refine below_set ?_ GE117.out) | exact HB.out))) : w.heap.size ≤ gb118)); have n5_ := Aside0.mk ((by rw [hg]; exact (below_size (by repeat (first | (with_reducible first | exact HB.out | apply below_alloc | apply pw_below_drewN | apply below_drew1 | refine below_set ?_ GE116.out | refine below_set ?_ GE117.out) | exact HB.out))) : w.heap.size ≤ gb118)); have n6_ := Aside0.mk ((by rw [hg]; exact Nat.ne_of_lt (blk_lt (g := gb116) (o := .cells #[.int .i64 a0_0, .int .i64 a0_1] 31 (0, 0)) (by (with_reducible repeat (first | refine blk_drewN ?_ _ | refine blk_drew ?_ | refine blk_alloc ?_ _)); exact BK116.out)) : gb116 ≠ gb118)); have n7_ := Aside0.mk ((by rw [hg]; exact Nat.ne_of_gt (blk_lt (g := gb116) (o := .cells #[.int .i64 a0_0, .int .i64 a0_1] 31 (0, 0)) (by (with_reducible repeat (first | refine blk_drewN ?_ _ | refine blk_drew ?_ | refine blk_alloc ?_ _)); exact BK116.out)) : gb118 ≠ gb116)); have n8_ := Aside0.mk ((by rw [hg]; exact Nat.ne_of_lt (blk_lt (g := gb117) (o := .cells #[.int .i64 a1_0, .int .i64 a1_1] 31 (0, 0)) (by (with_reducible repeat (first | refine blk_drewN ?_ _ | refine blk_drew ?_ | refine blk_alloc ?_ _)); exact BK117.out)) : gb117 ≠ gb118)); have n9_ := Aside0.mk ((by rw [hg]; exact Nat.ne_of_gt (blk_lt (g := gb117) (o := .cells #[.int .i64 a1_0, .int .i64 a1_1] 31 (0, 0)) (by (with_reducible repeat (first | refine blk_drewN ?_ _ | refine blk_drew ?_ | refine blk_alloc ?_ _)); exact BK117.out)) : gb118 ≠ gb117)); clear BK116; clear BK117; clear HB; have BK116 := n0_; have BK117 := n1_; have HB := n2_; have BK118 := n3_; have GW118 := n4_; have GE118 := n5_; have NB116_118 := n6_; have NB118_116 := n7_; have NB117_118 := n8_; have NB118_117 := n9_; clear n0_ n1_ n2_ n3_ n4_ n5_ n6_ n7_ n8_ n9_; clear hb hbox hg; have hnb28 := NB116_117.out; have hnc28 := NB117_116.out; have hnb29 := NB116_118.out; have hnc29 := NB118_116.out; have hcz30_0 : w27.cell? ⟨gb116, 0, none⟩ = some (.int .i64 a0_0) := (blk_cell BK116.out 0).trans rfl; have hcz30_1 : w27.cell? ⟨gb116, 1, none⟩ = some (.int .i64 a0_1) := (blk_cell BK116.out 1).trans rfl; have hfz30_0 := blk_frozen BK116.out 0; have hfz30_1 := blk_frozen BK116.out 1; have hnb31 := NB117_118.out; have hnc31 := NB118_117.out; have hcz32_0 : w27.cell? ⟨gb117, 0, none⟩ = some (.int .i64 a1_0) := (blk_cell BK117.out 0).trans rfl; have hcz32_1 : w27.cell? ⟨gb117, 1, none⟩ = some (.int .i64 a1_1) := (blk_cell BK117.out 1).trans rfl; have hfz32_0 := blk_frozen BK117.out 0; have hfz32_1 := blk_frozen BK117.out 1) | ((with_reducible refine gate_callee (f := 95) rfl ?_); refine goesL_ (some 8) rfl rfl Try.func95 (by kernel_rfl) rfl #[.agg #[.int .i64 a0_0, .int .i64 a0_1], .agg #[.int .i64 a1_0, .int .i64 a1_1]] rfl (by (try simp only [List.map_toArray, List.map_cons, List.map_nil]); first | done | rfl | (simp only [List.length_drop, List.length_take]; rfl)) ?_; (with_reducible refine (span_Touch.calls a0_0 a0_1 a1_0 a1_1 false _ A3.out).mono ?_); rintro e w33 ⟨rfl, hb⟩; refine ⟨_, rfl, ?_⟩; have n0_ := Aside0.mk (blk_below (g := gb116) (o := .cells #[.int .i64 a0_0, .int .i64 a0_1] 31 (0, 0)) (by (with_reducible repeat (first | refine blk_drewN ?_ _ | refine blk_drew ?_ | refine blk_alloc ?_ _)); exact BK116.out) hb); have n1_ := Aside0.mk (blk_below (g := gb117) (o := .cells #[.int .i64 a1_0, .int .i64 a1_1] 31 (0, 0)) (by (with_reducible repeat (first | refine blk_drewN ?_ _ | refine blk_drew ?_ | refine blk_alloc ?_ _)); exact BK117.out) hb); have n2_ := Aside0.mk (blk_below (g := gb118) (o := .cells #[.int .i64 0, .int .i64 0] 31 (0, 0)) (by (with_reducible repeat (first | refine blk_drewN ?_ _ | refine blk_drew ?_ | refine blk_alloc ?_ _)); exact BK118.out) hb); have n3_ := Aside0.mk (below_step (by repeat (first | (with_reducible first | exact HB.out | apply below_alloc | apply pw_below_drewN | apply below_drew1 | refine below_set ?_ GE116.out | refine below_set ?_ GE117.out | refine below_set ?_ GE118.out) | exact HB.out)) hb); clear BK116; clear BK117; clear BK118; clear HB; have BK116 := n0_; have BK117 := n1_; have BK118 := n2_; have HB := n3_; clear n0_ n1_ n2_ n3_; (try clear hb); (try clear hb2); (try clear hk); (try clear hi); have hcz34_0 : w33.cell? ⟨gb118, 0, none⟩ = some (.int .i64 0) := (blk_cell BK118.out 0).trans rfl; have hcz34_1 : w33.cell? ⟨gb118, 1, none⟩ = some (.int .i64 0) := (blk_cell BK118.out 1).trans rfl; have hfz34_0 := blk_frozen BK118.out 0; have hfz34_1 := blk_frozen BK118.out 1))
    refine bodyPost_ret (results_ct rfl _ _ gb118 31 #[.int .i64 0, .int .i64 0] (0, 0) _ rfl (by (with_reducible repeat (first | refine blk_drewN ?_ _ | refine blk_drew ?_ | refine blk_alloc ?_ _)); refine blk_put (cs := #[.int .i64 0, .int .i64 0]) ?_ 1 _ rfl; (with_reducible repeat (first | refine blk_drewN ?_ _ | refine blk_drew ?_ | refine blk_alloc ?_ _)); refine blk_put (cs := #[.int .i64 0, .int .i64 0]) ?_ 0 _ rfl; (with_reducible repeat (first | refine blk_drewN ?_ _ | refine blk_drew ?_ | refine blk_alloc ?_ _)); exact BK118.out) Try.underlying31 rfl (by kernel_rfl)) rfl ?_
    exact ⟨by first | rfl | (simp [errW_none, errW_some] <;> rfl) | (simp [*, errW_none, errW_some] <;> rfl), by repeat (first | (with_reducible first | exact HB.out | apply below_alloc | apply pw_below_drewN | apply below_drew1 | refine below_set ?_ GE116.out | refine below_set ?_ GE117.out | refine below_set ?_ GE118.out) | exact HB.out)⟩
end Go.Proofs.Ytffemlfdhkndiaa.A
end
section
namespace Go.Proofs.Ytffemlfdhkndiaa.Hand
open Go.RowKit Go.Proofs.YtffemlfdhkndiaaW.PrintWords Go.Proofs.YtffemlfdhkndiaaW.PrintLast Go.Proofs.YtffemlfdhkndiaaW.PrintMore Go.Proofs.Ytffemlfdhkndiaa.A
set_option linter.unusedVariables false
set_option linter.unusedSimpArgs false
attribute [local go_sem] max2_int min2_int max_two min_two max_three min_three max_four min_four
theorem touch_eq (a m b n : Int) : span_Touch.f a m b n = some (decide (touches a m b n)) := by
  unfold span_Touch.f
  rw [whole_eq, Option.bind_some]
  by_cases h : wh a m
  · rw [if_pos (decide_eq_true h), whole_eq, Option.bind_some]
    by_cases h2 : wh b n
    · rw [if_pos (decide_eq_true h2), end_eq, end_eq, Option.bind_some, Option.bind_some, mx_eq, mn_eq]
      unfold endV
      rw [if_pos h, if_pos h2]
      congr 1
      rw [decide_eq_decide]
      exact ⟨fun x => ⟨h, h2, x⟩, fun x => x.2.2⟩
    · rw [if_neg (by rw [decide_eq_true_eq]; exact h2), decide_eq_false (fun x => h2 x.2.1)]
  · rw [if_neg (by rw [decide_eq_true_eq]; exact h), decide_eq_false (fun x => h x.1)]
theorem join_eq (a m b n : Int) : span_Join.f a m b n = some (joinV a m b n) := by
  unfold span_Join.f joinV
  rw [touch_eq, Option.bind_some]
  by_cases h : touches a m b n
  · have h' := h
    unfold touches wh at h'
    rw [if_pos (decide_eq_true h), end_eq, end_eq, Option.bind_some, Option.bind_some, mx_eq, mn_eq]
    unfold endV
    rw [if_pos h.1, if_pos h.2.1, of_yes (by omega) (by omega) (by omega), if_pos h]; rfl
  · rw [if_neg (by rw [decide_eq_true_eq]; exact h), if_neg h]
end Go.Proofs.Ytffemlfdhkndiaa.Hand
end
section
namespace Go.Proofs.Ytffemlfdhkndiaa.Hand
open Go.RowKit Go.Proofs.YtffemlfdhkndiaaW.PrintWords Go.Proofs.YtffemlfdhkndiaaW.PrintLast Go.Proofs.YtffemlfdhkndiaaW.PrintMore Go.Proofs.Ytffemlfdhkndiaa.A
set_option linter.unusedVariables false
set_option linter.unusedSimpArgs false
attribute [local go_sem] max2_int min2_int max_two min_two max_three min_three max_four min_four
/-- A set of blocks that is there: its spans. -/
def RunsAt (w : World) (base g : Nat) (l : List S31) : Prop := ∃ v, Blk w g 90 #[v] ∧ ORow w base v l
abbrev ptrR (g : Nat) : Value := .pointer (some ⟨g, 0, none⟩)
section
variable {w w1 : World} {base g : Nat} {l : List S31}
theorem RunsAt.lt (h : RunsAt w base g l) : g < w.heap.size := by obtain ⟨v, hb, _⟩ := h; exact hb.lt
theorem RunsAt.keep (h : RunsAt w base g l) (hB : Below w.heap.size w w1) : RunsAt w1 base g l := by
  obtain ⟨v, hb, ho⟩ := h
  exact ⟨v, hb.keep hB, ho.below hB⟩
theorem RunsAt.lower {base' : Nat} (h : RunsAt w base g l) (hb : base' ≤ base) : RunsAt w base' g l := by
  obtain ⟨v, hk, ho⟩ := h
  exact ⟨v, hk, ho.lower hb⟩
theorem RunsAt.only {g' t : Nat} {cs : Array Value} (h : RunsAt w base g l) (ho : Only w w1 g') (hne : g ≠ g') (hb : Blk w g' t cs) (ht : 31 ≠ t) : RunsAt w1 base g l := by
  obtain ⟨v, hk, hr⟩ := h
  exact ⟨v, hk.only ho hne, hr.only ho (hr.ne hb ht)⟩
theorem RunsAt.onlyR {g' base' : Nat} {l' : List S31} (h : RunsAt w base g l) (ho : Only w w1 g') (hne : g ≠ g') (hb : RunsAt w base' g' l') : RunsAt w1 base g l := by
  obtain ⟨v', hb', _⟩ := hb
  exact h.only ho hne hb' (by decide)
end
theorem addStep_len : ∀ (l : List S31) (t : S31 × Bool × List S31), (l.foldl addStep t).2.2.length ≤ t.2.2.length + 2 * l.length
  | [], t => by simp
  | x :: l, t => by
    have h := addStep_len l (addStep t x)
    have h2 : (addStep t x).2.2.length ≤ t.2.2.length + 2 := by
      unfold addStep; split
      · simp
      · split
        · simp
        · simp
    rw [List.foldl_cons, List.length_cons]
    omega
theorem foldl_snoc {α β : Type} (f : β → α → β) (b : β) (l : List α) (i : Nat) (h : i < l.length) : (l.take (i + 1)).foldl f b = f ((l.take i).foldl f b) l[i] := by
  rw [List.take_succ_eq_append_getElem h, List.foldl_append]; rfl
theorem rd_get (l : List S31) (i : Nat) (h : i < l.length) : rd_T31 l (i : Int) = l[i] := by
  show l.getD (i : Int).toNat z31 = l[i]
  rw [Int.toNat_natCast, List.getD_eq_getElem?_getD, List.getElem?_eq_getElem h]; rfl
set_option maxRecDepth 100000 in
set_option maxHeartbeats 1600000 in
theorem runs_add (base g : Nat) (l : List S31) (a m : Int) (w : World) (hr : RunsAt w base g l) (hT : Tidy 0 l) (hs : wh a m) (hbase : base ≤ w.heap.size) :
    Calls Try.prog 57 #[ptrR g, .agg #[.int .i64 a, .int .i64 m]] w fun e w' => e = .returned (.tuple #[]) ∧ RunsAt w' base g (addV l ⟨a, m⟩) ∧ Only w w' g := by
  obtain ⟨v0, hb0, ho0⟩ := hr
  obtain ⟨A, c, rfl, hlc, hC, hob⟩ := ho0.reads
  have c0 : w.cell? ⟨g, 0, none⟩ = some (.slice A l.length c) := hb0.cell rfl
  have f0 := hb0.frozen 0
  have HB0 := Aside0.mk hb0
  have HC := Aside0.mk hC
  have hlen : (l.length : Int) ≤ 65 := by have := hT.length (by decide); omega
  have HT := Aside0.mk hT
  have Hs := Aside0.mk hs
  have hg : g < w.heap.size := hb0.lt
  have Hbase := Aside0.mk hbase
  clear hb0 ho0 hC hT hs hob hlc hbase
  go_enter Try.func57, Try.ntmps57
  go_wp2_with fail
  go_loopg [4, 5, 13] l.length (fun kq u d v wq => ∃ i : Nat, i + kq = l.length ∧ v = .int .i64 (i : Int) ∧ d = .bool ((l.take i).foldl addStep (⟨a, m⟩, false, [])).2.1 ∧ Aside0 (Below w.heap.size w wq) ∧ Aside0 (ORow wq w.heap.size u ((l.take i).foldl addStep (⟨a, m⟩, false, [])).2.2) ∧ Aside0 (u.ownBlock ≠ some w.heap.size) ∧ Aside0 (Blk wq w.heap.size 31 #[.int .i64 ((l.take i).foldl addStep (⟨a, m⟩, false, [])).1.f0, .int .i64 ((l.take i).foldl addStep (⟨a, m⟩, false, [])).1.f1]))
  case atStart => exact ⟨0, by omega, rfl, rfl, ⟨below_alloc (Below.refl _ _) _⟩, ⟨ORow.nil _ _⟩, ⟨by simp [Value.ownBlock]⟩, ⟨Blk.new _ _ _⟩⟩
  case round =>
    obtain ⟨i, hi, rfl, rfl, HB, HO, HN, HS⟩ := hrel
    by_cases hlt : i < l.length
    · obtain ⟨ad, e1, x0, x1⟩ := at_T31 (Kd.C_below HC.out HB.out) (i : Int) (by omega) (by omega)
      subst e1
      rw [Int.toNat_natCast] at x0 x1
      have hlt' : (i : Int) < (l.length : Int) := by omega
      have hone := Aside0.mk (foldl_snoc addStep (⟨a, m⟩, false, []) l i hlt)
      have hlen2 : Aside0 (((l.take i).foldl addStep (⟨a, m⟩, false, [])).2.2.length ≤ 130) := ⟨by have := addStep_len (l.take i) (⟨a, m⟩, false, []); rw [List.length_take] at this; simp only [List.length_nil] at this; omega⟩
      have hwX : Aside0 (wh l[i].f0 l[i].f1) := ⟨HT.out.whole (Int.le_refl _) _ (List.getElem_mem hlt)⟩
      have hx : rd_T31 l (i : Int) = l[i] := rd_get l i hlt
      rw [hx] at x0 x1
      clear hx
      generalize l[i] = X at *
      generalize (l.take i).foldl addStep (⟨a, m⟩, false, []) = T at *
      obtain ⟨F, M⟩ := X
      obtain ⟨⟨p, q⟩, d, o⟩ := T
      simp only at HO HS x0 x1 hwX hlen2
      obtain ⟨kk, rfl⟩ : ∃ z, gk = z + 1 := ⟨gk - 1, by omega⟩
      have Ht := Aside0.mk (touch_eq F M p q)
      have hgs := HS.out.lt
      have d0 := HS.out.cell (i := 0) rfl
      have d1 := HS.out.cell (i := 1) rfl
      by_cases ht : touches F M p q
      · rw [decide_eq_true ht] at Ht
        have Hj : Aside0 (span_Join.f F M p q = some (min F p, max (F + M) (p + q) - min F p, true)) := ⟨by rw [join_eq]; unfold joinV; rw [if_pos ht]⟩
        have Hst : Aside0 (((l.take (i + 1)).foldl addStep (⟨a, m⟩, false, [])) = (⟨min F p, max (F + M) (p + q) - min F p⟩, d, o)) := ⟨by rw [hone.out]; unfold addStep; rw [if_pos ht]; rfl⟩
        clear ht hone
        go_wp2_with fail
        refine (span_Touch.calls F M p q true _ Ht.out).mono ?_
        rintro e w1 ⟨rfl, hB⟩
        have HB1 : Aside0 (Below w.heap.size w w1) := ⟨below_step (below_alloc HB.out _) hB⟩
        have HX1 : Aside0 (Blk w1 wr.heap.size 31 #[.int .i64 F, .int .i64 M]) := ⟨(Blk.new wr _ _).keep hB⟩
        have HS1 := Aside0.mk ((HS.out.alloc _).keep hB)
        have HO1 := Aside0.mk (ORow.below (own_alloc HO.out _) hB)
        have c1 := HX1.out.cell (i := 0) rfl
        have c2 := HX1.out.cell (i := 1) rfl
        have c3 := HS1.out.cell (i := 0) rfl
        have c4 := HS1.out.cell (i := 1) rfl
        clear hB HB HO HS x0 x1 d0 d1 hgs
        go_wp2_with fail
        refine (span_Join.calls F M p q _ _ true _ Hj.out).mono ?_
        rintro e w2 ⟨rfl, hB⟩
        have HB2 : Aside0 (Below w.heap.size w w2) := ⟨below_step HB1.out hB⟩
        have HS2 := Aside0.mk (HS1.out.keep hB)
        have HO2 := Aside0.mk (ORow.below HO1.out hB)
        have c3 := HS2.out.cell (i := 0) rfl
        have c4 := HS2.out.cell (i := 1) rfl
        have f3 := HS2.out.frozen 0
        have f4 := HS2.out.frozen 1
        clear hB HB1 HO1 HS1 c1 c2 HX1
        go_wp2_with fail
        go_roundg kk
        case measure => omega
        case rel =>
          refine ⟨i + 1, by omega, by go_num, by rw [Hst.out], ⟨below_set (below_set HB2.out (Nat.le_refl _)) (Nat.le_refl _)⟩, ?_, HN, ?_⟩
          · rw [Hst.out]
            exact ⟨(HO2.out.far HN.out _).far HN.out _⟩
          · rw [Hst.out]
            exact ⟨(HS2.out.set_ 0 _).set_ 1 _⟩
      · rw [decide_eq_false ht] at Ht
        by_cases hb : d = false ∧ p < F
        · have Hst : Aside0 (((l.take (i + 1)).foldl addStep (⟨a, m⟩, false, [])) = (⟨p, q⟩, true, o ++ [⟨p, q⟩] ++ [⟨F, M⟩])) := ⟨by rw [hone.out]; unfold addStep; rw [if_neg ht, if_pos hb]⟩
          obtain ⟨rfl, hpF⟩ := hb
          clear ht hone
          go_wp2_with fail
          refine (span_Touch.calls F M p q false _ Ht.out).mono ?_
          rintro e w1 ⟨rfl, hB⟩
          have HX0 : Aside0 (u4.ownBlock ≠ some wr.heap.size) := ⟨HO.out.ne_new (Nat.le_refl _)⟩
          have HB1 : Aside0 (Below w.heap.size w w1) := ⟨below_step (below_alloc HB.out _) hB⟩
          have HX1 : Aside0 (Blk w1 wr.heap.size 31 #[.int .i64 F, .int .i64 M]) := ⟨(Blk.new wr _ _).keep hB⟩
          have HS1 := Aside0.mk ((HS.out.alloc _).keep hB)
          have HO1 := Aside0.mk (ORow.below (own_alloc HO.out _) hB)
          have hgs1 := Aside0.mk HS1.out.lt
          have c1 := HX1.out.cell (i := 0) rfl
          have c2 := HX1.out.cell (i := 1) rfl
          have c3 := HS1.out.cell (i := 0) rfl
          have c4 := HS1.out.cell (i := 1) rfl
          clear hB HB HO HS x0 x1 d0 d1 hgs
          go_wp2_with (first | ((with_reducible refine gate_builtin (b := .append) (xs := #[.tmp 37, .tmp 39]) rfl ?_); at_builtin; refine print_append_cells (w0 := w) w.heap.size rfl (.tmp 37) (.tmp 39) 22 31 (.agg #[(.int .i64 0), (.int .i64 0)]) 2 16 rfl Try.underlying22 info31' rfl (by decide) (by omega) u4 (o).length (flat (o)) [.int .i64 p, .int .i64 q] rfl (by first | (go_simp; done) | (go_simp; rfl)) rfl (one_two _ _) HO1.out HB1.out (below_size HB1.out) ?aL ?_; (case aL => (have := hlen2.out; (try simp only [List.length_append, List.length_singleton]); omega)); intro v2 W2 ho hb hg hat; have HB2 := Aside0.mk hb; have HO2 := Aside0.mk (ORow.snoc ho); have HN2 := Aside0.mk (app_ne HN.out hgs1.out hat); have HS2 := Aside0.mk (HS1.out.grown hg HN.out); have HX2 := Aside0.mk (HX1.out.grown hg HX0.out); have HNX2 := Aside0.mk (app_ne HX0.out HX1.out.lt hat); have c5 := HX2.out.cell (i := 0) rfl; have c6 := HX2.out.cell (i := 1) rfl; clear ho hb hg hat) | ((with_reducible refine gate_builtin (b := .append) (xs := #[.tmp 41, .tmp 43]) rfl ?_); at_builtin; refine print_append_cells (w0 := w) w.heap.size rfl (.tmp 41) (.tmp 43) 22 31 (.agg #[(.int .i64 0), (.int .i64 0)]) 2 16 rfl Try.underlying22 info31' rfl (by decide) (by omega) v2 (o ++ [(⟨p, q⟩ : S31)]).length (flat (o ++ [(⟨p, q⟩ : S31)])) [.int .i64 F, .int .i64 M] rfl (by first | (go_simp; done) | (go_simp; rfl)) rfl (one_two _ _) HO2.out HB2.out (below_size HB2.out) ?aL ?_; (case aL => (have := hlen2.out; (try simp only [List.length_append, List.length_singleton]); omega)); intro v3 W3 ho hb hg hat; have HB3 := Aside0.mk hb; have HO3 := Aside0.mk (ORow.snoc ho); have HN3 := Aside0.mk (app_ne HN2.out HS2.out.lt hat); have HS3 := Aside0.mk (HS2.out.grown hg HN2.out); clear ho hb hg hat))
          go_roundg kk
          case measure => omega
          case rel =>
            refine ⟨i + 1, by omega, by go_num, ?_⟩
            rw [Hst.out]
            exact ⟨rfl, HB3, HO3, HN3, HS3⟩
        · have Hst : Aside0 (((l.take (i + 1)).foldl addStep (⟨a, m⟩, false, [])) = (⟨p, q⟩, d, o ++ [⟨F, M⟩])) := ⟨by rw [hone.out]; unfold addStep; rw [if_neg ht, if_neg hb]⟩
          clear ht hone
          have hor : d = true ∨ (d = false ∧ ¬ p < F) := by
            cases d
            · exact .inr ⟨rfl, fun h => hb ⟨rfl, h⟩⟩
            · exact .inl rfl
          clear hb
          rcases hor with rfl | ⟨rfl, hpF⟩
          all_goals
            go_wp2_with fail
            refine (span_Touch.calls F M p q false _ Ht.out).mono ?_
            rintro e w1 ⟨rfl, hB⟩
            have HX0 : Aside0 (u4.ownBlock ≠ some wr.heap.size) := ⟨HO.out.ne_new (Nat.le_refl _)⟩
            have HB1 : Aside0 (Below w.heap.size w w1) := ⟨below_step (below_alloc HB.out _) hB⟩
            have HX1 : Aside0 (Blk w1 wr.heap.size 31 #[.int .i64 F, .int .i64 M]) := ⟨(Blk.new wr _ _).keep hB⟩
            have HS1 := Aside0.mk ((HS.out.alloc _).keep hB)
            have HO1 := Aside0.mk (ORow.below (own_alloc HO.out _) hB)
            have hgs1 := Aside0.mk HS1.out.lt
            have c1 := HX1.out.cell (i := 0) rfl
            have c2 := HX1.out.cell (i := 1) rfl
            have c3 := HS1.out.cell (i := 0) rfl
            have c4 := HS1.out.cell (i := 1) rfl
            clear hB HB HO HS x0 x1 d0 d1 hgs
            go_wp2_with (first | ((with_reducible refine gate_builtin (b := .append) (xs := #[.tmp 41, .tmp 43]) rfl ?_); at_builtin; refine print_append_cells (w0 := w) w.heap.size rfl (.tmp 41) (.tmp 43) 22 31 (.agg #[(.int .i64 0), (.int .i64 0)]) 2 16 rfl Try.underlying22 info31' rfl (by decide) (by omega) u4 (o).length (flat (o)) [.int .i64 F, .int .i64 M] rfl (by first | (go_simp; done) | (go_simp; rfl)) rfl (one_two _ _) HO1.out HB1.out (below_size HB1.out) ?aL ?_; (case aL => (have := hlen2.out; (try simp only [List.length_append, List.length_singleton]); omega)); intro v3 W3 ho hb hg hat; have HB3 := Aside0.mk hb; have HO3 := Aside0.mk (ORow.snoc ho); have HN3 := Aside0.mk (app_ne HN.out hgs1.out hat); have HS3 := Aside0.mk (HS1.out.grown hg HN.out); clear ho hb hg hat))
            go_roundg kk
            case measure => omega
            case rel =>
              refine ⟨i + 1, by omega, by go_num, ?_⟩
              rw [Hst.out]
              exact ⟨rfl, HB3, HO3, HN3, HS3⟩
    · have hlt' : ¬ (i : Int) < (l.length : Int) := by omega
      have hlen2 : Aside0 (((l.take i).foldl addStep (⟨a, m⟩, false, [])).2.2.length ≤ 130) := ⟨by have := addStep_len (l.take i) (⟨a, m⟩, false, []); rw [List.length_take] at this; simp only [List.length_nil] at this; omega⟩
      have hi' : i = l.length := by omega
      subst hi'
      have hV : Aside0 (addV l ⟨a, m⟩ = if ((l.take l.length).foldl addStep (⟨a, m⟩, false, [])).2.1 then ((l.take l.length).foldl addStep (⟨a, m⟩, false, [])).2.2 else ((l.take l.length).foldl addStep (⟨a, m⟩, false, [])).2.2 ++ [((l.take l.length).foldl addStep (⟨a, m⟩, false, [])).1]) := ⟨by rw [List.take_length]; rfl⟩
      generalize (l.take l.length).foldl addStep (⟨a, m⟩, false, []) = T at *
      obtain ⟨⟨p, q⟩, d, o⟩ := T
      simp only at HO HS hlen2 hV
      have HR := Aside0.mk (HB0.out.below HB.out hg)
      have Hg := Aside0.mk hg
      have c3 := HS.out.cell (i := 0) rfl
      have c4 := HS.out.cell (i := 1) rfl
      cases d
      · go_wp2_with ((with_reducible refine gate_builtin (b := .append) (xs := #[.tmp 48, .tmp 50]) rfl ?_); at_builtin; refine print_append_cells (w0 := w) w.heap.size rfl (.tmp 48) (.tmp 50) 22 31 (.agg #[(.int .i64 0), (.int .i64 0)]) 2 16 rfl Try.underlying22 info31' rfl (by decide) (by omega) u4 (o).length (flat (o)) [.int .i64 p, .int .i64 q] rfl (by first | (go_simp; done) | (go_simp; rfl)) rfl (one_two _ _) HO.out HB.out (below_size HB.out) ?aL ?_; (case aL => (have := hlen2.out; (try simp only [List.length_append, List.length_singleton]); omega)); intro v3 W3 ho hb hg hat; have HB3 := Aside0.mk hb; have HO3 := Aside0.mk (ORow.snoc ho); have HR3 := Aside0.mk (HR.out.grown hg (HO.out.ne_old Hg.out)); obtain ⟨A3, k3, hv3, _, _, _⟩ := HO3.out.reads; rw [List.length_append, List.length_singleton] at hv3; subst hv3; have g1 := HR3.out.lt; have c5 := HR3.out.cell (i := 0) rfl; have f5 := HR3.out.frozen 0; clear ho hb hg hat)
        go_end0
        refine ⟨rfl, ⟨_, HR3.out.set_ 0 _, ?_⟩, only_set (only_below (only_refl _ _) HB3.out) 0 _⟩
        rw [hV.out]
        exact (HO3.out.far (p := ⟨g, 0, none⟩) (HO3.out.ne_old Hg.out) _).lower Hbase.out
      · obtain ⟨A3, k3, rfl, _, _, _⟩ := HO.out.reads
        have c5 := HR.out.cell (i := 0) rfl
        have f5 := HR.out.frozen 0
        go_wp2_with fail
        go_end0
        refine ⟨rfl, ⟨_, HR.out.set_ 0 _, ?_⟩, only_set (only_below (only_refl _ _) HB.out) 0 _⟩
        rw [hV.out]
        exact (HO.out.far (p := ⟨g, 0, none⟩) (HO.out.ne_old Hg.out) _).lower Hbase.out
end Go.Proofs.Ytffemlfdhkndiaa.Hand
end
section
namespace Go.Proofs.Ytffemlfdhkndiaa.Hand
open Go.RowKit Go.Proofs.YtffemlfdhkndiaaW.PrintWords
theorem calls_abs {P : Program} {f : FuncId} {args : Array Value} {w : World} {Q : Ending → World → Prop} (F : World → Prop) (h : F w) (k : ∀ W, F W → Calls P f args W Q) : Calls P f args w Q := k w h
theorem code_abs {P : Program} {c : Code} {Q : Exit → Act → World → Prop} {a : Act} {w : World} (F : World → Prop) (h : F w) (k : ∀ W, F W → Code.wp P c Q a W) : Code.wp P c Q a w := k w h
theorem row_yields {P : Program} {o : Oper} {a : Act} {w : World} (ty : TypeId) (x : Operand) (ho : o.op = .load ty x)
    (g : Nat) (hx : a.eval x = .pointer (some ⟨g, 0, none⟩)) (t : TypeId) (cs : Array Value) (fr : Nat × Nat) (d : TypeDesc) (hg : w.heap[g]? = some (.cells cs t fr))
    (hu : P.underlying ty = some d) (hd : (match d with | .struct _ | .array _ _ => true | _ => false) = true) (hi : (P.info? ty).map (·.size) = some cs.size) :
    (execOp a.eval o).run P w = .ok (.value (.agg cs)) w := by
  unfold execOp
  simp only [ho, hx, Instr.loadAt, Instr.sureAddr, Sem.run_bind, Sem.run_pure, Result.andThen_ok, run_loadVar_row w g t ty cs fr d hg hu hd hi]
theorem Blk.row {w : World} {g t : Nat} {cs : Array Value} (h : Blk w g t cs) (cs' : Array Value) : Blk (w.setRow g cs') g t cs' := setRow_heap _ _ _ _ _ _ h.hd
theorem Blk.new2 (w : World) (o : Obj) (t : TypeId) (cs : Array Value) : Blk ((w.alloc o).alloc (.cells cs t)) (w.heap.size + 1) t cs := heap_alloc2_new w o _
end Go.Proofs.Ytffemlfdhkndiaa.Hand
end
section
namespace Go.Proofs.Ytffemlfdhkndiaa.Hand
open Go.RowKit Go.Proofs.YtffemlfdhkndiaaW.PrintWords Go.Proofs.YtffemlfdhkndiaaW.PrintLast Go.Proofs.YtffemlfdhkndiaaW.PrintMore
set_option linter.unusedVariables false
set_option linter.unusedSimpArgs false
section
variable {α : Type} {d : Kd α} {e eL : Nat} {w w1 : World} {base b : Nat} {vs us : List Value} {L : List (List α)} {v u V U : Value} {l : List α}
/-- The rows of some lists, by their values. -/
def Vals (d : Kd α) (e : Nat) (w : World) (base : Nat) (vs : List Value) (L : List (List α)) : Prop :=
  vs.length = L.length ∧ ∀ (i : Nat) v l, vs[i]? = some v → L[i]? = some l → d.R e w base (fun _ => True) v l
theorem R_moved (hE : d.E = []) (h : d.R e w base (fun _ => True) v l) (hm : ∀ k, v.ownBlock = some k → w1.heap[k]? = w.heap[k]?) : d.R e w1 base (fun _ => True) v l :=
  Kd.R_mono (Kd.R_move (Kd.R_tight hE h) (fun k hk => hm k hk.symm)) (fun _ _ => trivial)
theorem Vals.nil (d : Kd α) (e : Nat) (w : World) (base : Nat) : Vals d e w base [] [] := ⟨rfl, fun i v l h => by simp at h⟩
theorem Vals.get (h : Vals d e w base vs L) {i : Nat} (hi : i < L.length) : ∃ v, vs[i]? = some v ∧ v ∈ vs ∧ d.R e w base (fun _ => True) v L[i] := by
  have hv : i < vs.length := by rw [h.1]; exact hi
  exact ⟨vs[i], List.getElem?_eq_getElem hv, List.getElem_mem hv, h.2 i _ _ (List.getElem?_eq_getElem hv) (List.getElem?_eq_getElem hi)⟩
theorem Vals.mem (h : Vals d e w base vs L) (hv : v ∈ vs) : ∃ l, d.R e w base (fun _ => True) v l := by
  obtain ⟨i, hi, rfl⟩ := List.mem_iff_getElem.1 hv
  exact ⟨_, h.2 i _ _ (List.getElem?_eq_getElem hi) (List.getElem?_eq_getElem (by rw [← h.1]; exact hi))⟩
theorem Vals.lt (h : Vals d e w base vs L) (hv : v ∈ vs) {k : Nat} (hk : v.ownBlock = some k) : base ≤ k ∧ k < w.heap.size := by
  obtain ⟨l, hl⟩ := h.mem hv
  exact ⟨Kd.R_base hl k hk, Kd.R_lt hl k hk⟩
theorem Vals.typed (h : Vals d e w base vs L) (hv : v ∈ vs) {k : Nat} (hk : v.ownBlock = some k) : ∃ cells, w.heap[k]? = some (.cells cells e (0, 0)) := by
  obtain ⟨l, hl⟩ := h.mem hv
  exact Kd.R_typed hl k hk
theorem Vals.move (hE : d.E = []) (h : Vals d e w base vs L) (hm : ∀ v, v ∈ vs → ∀ k, v.ownBlock = some k → w1.heap[k]? = w.heap[k]?) : Vals d e w1 base vs L :=
  ⟨h.1, fun i v l hv hl => R_moved hE (h.2 i v l hv hl) (hm v (List.mem_of_getElem? hv))⟩
theorem Vals.below (h : Vals d e w base vs L) (hb : Below w.heap.size w w1) : Vals d e w1 base vs L := ⟨h.1, fun i v l hv hl => Kd.R_below (h.2 i v l hv hl) hb⟩
theorem Vals.snoc (h : Vals d e w base vs L) (hv : d.R e w base (fun _ => True) v l) : Vals d e w base (vs ++ [v]) (L ++ [l]) := by
  refine ⟨by rw [List.length_append, List.length_append, h.1]; rfl, fun i x y hx hy => ?_⟩
  by_cases hi : i < L.length
  · rw [List.getElem?_append_left (by rw [h.1]; exact hi)] at hx
    rw [List.getElem?_append_left hi] at hy
    exact h.2 i x y hx hy
  · rw [List.getElem?_append_right (by rw [h.1]; omega)] at hx
    rw [List.getElem?_append_right (by omega)] at hy
    rw [h.1] at hx
    have h0 : i - L.length = 0 := by
      rcases Nat.eq_zero_or_pos (i - L.length) with h0 | h0
      · exact h0
      · rw [List.getElem?_eq_none (by simp; omega)] at hx; cases hx
    rw [h0] at hx hy
    injection hx with hx; injection hy with hy
    subst hx; subst hy
    exact hv
/-- One of them is written. -/
theorem Vals.set (hE : d.E = []) (h : Vals d e w base vs L) (hp : vs.Pairwise NeRow) {i : Nat} (hi : i < L.length) {l' : List α} (hv : vs[i]? = some v) (hr : d.R e w1 base (fun _ => True) v l') (hg : w.grownBy w1 v.ownBlock) : Vals d e w1 base vs (L.set i l') := by
  refine ⟨by rw [List.length_set]; exact h.1, fun j x y hx hy => ?_⟩
  by_cases hj : j = i
  · subst hj
    rw [hv] at hx
    injection hx with hx
    rw [List.getElem?_set_self hi] at hy
    injection hy with hy
    subst hx; subst hy
    exact hr
  · rw [List.getElem?_set_ne (fun q => hj q.symm)] at hy
    have hold := h.2 j x y hx hy
    refine R_moved hE hold (fun k hk => hg.block k (Kd.R_lt hold k hk) (fun q => ?_))
    have hne : NeRow v x ∨ NeRow x v := by
      rw [List.pairwise_iff_getElem] at hp
      obtain ⟨hj', rfl⟩ := List.getElem?_eq_some_iff.1 hx
      obtain ⟨hi', rfl⟩ := List.getElem?_eq_some_iff.1 hv
      rcases Nat.lt_or_ge i j with h1 | h1
      · exact .inl (hp i j hi' hj' h1)
      · exact .inr (hp j i hj' hi' (by omega))
    rcases hne with hne | hne
    · exact hne k q.symm hk
    · exact hne k hk q.symm
/-- A row of lists that is read. -/
theorem lists_C {n c : Nat} {A : Option Addr} (hV : w.ownsRow base eL 1 (.slice A n c) L.length vs) (hr : ∀ (i : Nat) v l, vs[i]? = some v → L[i]? = some l → ∃ A c, v = .slice A l.length c ∧ l.length ≤ c ∧ d.C w A l.length l) :
    n = L.length ∧ L.length ≤ c ∧ Kd.C (Kd.slice e d) w A L.length L := by
  have hvl : vs.length = L.length := by have := hV.1; omega
  rcases hV.2 with ⟨he, h0⟩ | ⟨g, cap, cur, he, hb, hh, hn, hm, hs, ht⟩
  · injection he with h1 h2 h3
    subst h1; subst h2; subst h3
    have : L = [] := List.eq_nil_of_length_eq_zero h0
    subst this
    exact ⟨rfl, Nat.le_refl _, rfl, by simp, fun h => by simp at h⟩
  · injection he with h1 h2 h3
    subst h1; subst h2; subst h3
    refine ⟨rfl, hn, rfl, by unfold maxLen at hm; omega, fun _ => ⟨_, rfl, fun j p hj => ?_⟩⟩
    have hjl : j < L.length := (List.getElem?_eq_some_iff.1 hj).1
    obtain ⟨A', c', hv, hle, hC⟩ := hr j _ p (List.getElem?_eq_getElem (by omega)) hj
    refine ⟨[.slice A' p.length c'], rfl, ⟨A', c', rfl, hle, hC⟩, fun i u hu => ?_⟩
    match i, hu with
    | 0, hu =>
      injection hu with hu
      subst hu
      have hc := hV.cells (g := g) rfl j vs[j] (List.getElem?_eq_getElem (by omega))
      rw [← hv]
      simpa [show (Kd.slice e d).sz = 1 from rfl] using hc
    | i + 1, hu => simp at hu
theorem Vals.reads (h : Vals d e w base vs L) : ∀ (i : Nat) v l, vs[i]? = some v → L[i]? = some l → ∃ A c, v = .slice A l.length c ∧ l.length ≤ c ∧ d.C w A l.length l := fun i v l hv hl => Kd.R_reads (h.2 i v l hv hl)
/-- Lists, and copies of them; no two rows are one. -/
structure Pile (d : Kd α) (e eL : Nat) (w : World) (base : Nat) (V U : Value) (vs us : List Value) (L : List (List α)) : Prop where
  hV : w.ownsRow base eL 1 V L.length vs
  hU : w.ownsRow base eL 1 U L.length us
  hVU : NeRow V U
  rv : Vals d e w base vs L
  ru : Vals d e w base us L
  ne : (vs ++ us).Pairwise NeRow
theorem Pile.nil (d : Kd α) (e eL : Nat) (w : World) (base : Nat) : Pile d e eL w base (.slice none 0 0) (.slice none 0 0) [] [] [] :=
  ⟨World.ownsRow_nil w base _ 1, World.ownsRow_nil w base _ 1, ne_nil _, Vals.nil _ _ _ _, Vals.nil _ _ _ _, List.Pairwise.nil⟩
theorem Pile.below (h : Pile d e eL w base V U vs us L) (hb : Below w.heap.size w w1) : Pile d e eL w1 base V U vs us L :=
  ⟨own_move h.hV (fun k hk => hb.block k (own_lt h.hV k hk)), own_move h.hU (fun k hk => hb.block k (own_lt h.hU k hk)), h.hVU, h.rv.below hb, h.ru.below hb, h.ne⟩
/-- Blocks of these two types are as they were. -/
theorem Pile.keepT (hE : d.E = []) (h : Pile d e eL w base V U vs us L) (hm : ∀ k cs t, w.heap[k]? = some (.cells cs t (0, 0)) → t = e ∨ t = eL → base ≤ k → w1.heap[k]? = w.heap[k]?) : Pile d e eL w1 base V U vs us L := by
  refine ⟨own_move h.hV (fun k hk => ?_), own_move h.hU (fun k hk => ?_), h.hVU, h.rv.move hE (fun v hv k hk => ?_), h.ru.move hE (fun v hv k hk => ?_), h.ne⟩
  · obtain ⟨cs, hc⟩ := own_typed h.hV k hk
    exact hm k cs eL hc (.inr rfl) (own_base h.hV k hk)
  · obtain ⟨cs, hc⟩ := own_typed h.hU k hk
    exact hm k cs eL hc (.inr rfl) (own_base h.hU k hk)
  · obtain ⟨cs, hc⟩ := h.rv.typed hv hk
    exact hm k cs e hc (.inl rfl) (h.rv.lt hv hk).1
  · obtain ⟨cs, hc⟩ := h.ru.typed hv hk
    exact hm k cs e hc (.inl rfl) (h.ru.lt hv hk).1
/-- One more, and a copy. -/
theorem Pile.snoc {V1 U1 : Value} (hV : w.ownsRow base eL 1 V1 (L.length + 1) (vs ++ [v])) (hU : w.ownsRow base eL 1 U1 (L.length + 1) (us ++ [u])) (hVU : NeRow V1 U1) (rv : Vals d e w base vs L) (ru : Vals d e w base us L)
    (ne : (vs ++ us).Pairwise NeRow) (hv : d.R e w base (fun _ => True) v l) (hu : d.R e w base (fun _ => True) u l) (nv : ∀ x ∈ vs ++ us, NeRow x v) (nu : ∀ x ∈ vs ++ us, NeRow x u) (nvu : NeRow v u) :
    Pile d e eL w base V1 U1 (vs ++ [v]) (us ++ [u]) (L ++ [l]) := by
  refine ⟨by rw [List.length_append]; exact hV, by rw [List.length_append]; exact hU, hVU, rv.snoc hv, ru.snoc hu, ?_⟩
  rw [List.pairwise_append] at ne ⊢
  obtain ⟨n1, n2, n3⟩ := ne
  refine ⟨?_, ?_, ?_⟩
  · rw [List.pairwise_append]
    refine ⟨n1, List.pairwise_singleton _ _, fun a ha b hb => ?_⟩
    rw [List.mem_singleton.1 hb]
    exact nv a (List.mem_append_left _ ha)
  · rw [List.pairwise_append]
    refine ⟨n2, List.pairwise_singleton _ _, fun a ha b hb => ?_⟩
    rw [List.mem_singleton.1 hb]
    exact nu a (List.mem_append_right _ ha)
  · intro a ha b hb
    rcases List.mem_append.1 ha with ha | ha
    · rcases List.mem_append.1 hb with hb | hb
      · exact n3 a ha b hb
      · rw [List.mem_singleton.1 hb]; exact nu a (List.mem_append_left _ ha)
    · rw [List.mem_singleton.1 ha]
      rcases List.mem_append.1 hb with hb | hb
      · exact ne_symm (nv b (List.mem_append_right _ hb))
      · rw [List.mem_singleton.1 hb]; exact nvu
theorem R_grownT {n : Nat} {xs : List Value} (hE : d.E = []) (h : d.R e w base (fun _ => True) v l) (hV : w.ownsRow b eL 1 V n xs) (hne : eL ≠ e) (hg : w.grownBy w1 V.ownBlock) : d.R e w1 base (fun _ => True) v l :=
  R_moved hE h (fun k hk => by
    obtain ⟨cs, hc⟩ := Kd.R_typed h k hk
    exact hg.block k (Kd.R_lt h k hk) (own_ne hV hc hne))
theorem own_grown {m : Nat} {ys : List Value} (hU : w.ownsRow base eL 1 U m ys) (hne : NeRow V U) (hg : w.grownBy w1 V.ownBlock) : w1.ownsRow base eL 1 U m ys :=
  own_move hU (fun k hk => hg.block k (own_lt hU k hk) (fun q => hne k q.symm hk))
/-- What a book's method leaves: only the book itself and blocks of one type have turned. -/
def BookFx (LT g base : Nat) (w w1 : World) : Prop := Below base w w1 ∧ ∀ k, k < w.heap.size → k ≠ g → (∀ cs, w.heap[k]? ≠ some (.cells cs LT (0, 0))) → w1.heap[k]? = w.heap[k]?
theorem BookFx.blk {LT g t : Nat} {cs : Array Value} {k : Nat} (h : BookFx LT g base w w1) (hb : Blk w k t cs) (ht : t ≠ LT) (hk : k ≠ g) : Blk w1 k t cs :=
  (h.2 k hb.lt hk (fun cs' hc => by rw [hb.hd] at hc; injection hc with hc; injection hc with _ hc; exact ht hc)).trans hb
theorem Blk.grownB {g t : Nat} {cs : Array Value} {row : Option Nat} (h : Blk w g t cs) (hg : w.grownBy w1 row) (hne : row ≠ some g) : Blk w1 g t cs := (hg.block g h.lt (fun q => hne q.symm)).trans h
/-- A row of lists, opened: its cells. -/
theorem row_cells {n : Nat} {xs : List Value} (h : w.ownsRow base eL 1 V n xs) (hn : 0 < n) : ∃ g c, V = .slice (some ⟨g, 0, none⟩) n c ∧ n ≤ c ∧ base ≤ g ∧ g < w.heap.size ∧ ∀ i u, xs[i]? = some u → w.cell? ⟨g, i, none⟩ = some u := by
  have hx := h.1
  rcases h.2 with ⟨_, h0⟩ | ⟨g, cap, cur, rfl, hb, hh, hnc, hm, hs, ht⟩
  · omega
  · refine ⟨g, cap, rfl, hnc, hb, (Array.getElem?_eq_some_iff.1 hh).1, fun i u hu => ?_⟩
    have hi : i < xs.length := (List.getElem?_eq_some_iff.1 hu).1
    exact (World.ownsRow.cellAt h i (by omega)).trans hu
theorem row_slice {n : Nat} {xs : List Value} (h : w.ownsRow base eL 1 V n xs) : ∃ A c, V = .slice A n c := by
  rcases h.2 with ⟨rfl, rfl⟩ | ⟨g, cap, cur, rfl, _⟩
  · exact ⟨_, _, rfl⟩
  · exact ⟨_, _, rfl⟩
theorem far_heap {w : World} {g j k : Nat} {u : Value} (h : k ≠ g) : (w.setCell ⟨g, j, none⟩ u).heap[k]? = w.heap[k]? := Below.heap_setCell w ⟨g, j, none⟩ u k h
/-- The row of the copies stands while the other one grows, and the book is written. -/
theorem add_mid {g tB j : Nat} {c0 : Array Value} {V1 : Value} {w3 : World} (hB : tB ≠ eL) (hP : Pile d e eL w base V U vs us L) (HB1 : Blk w1 g tB c0) (hG1 : w.grownBy w1 V.ownBlock) (hB3 : Below (w1.setCell ⟨g, j, none⟩ V1).heap.size (w1.setCell ⟨g, j, none⟩ V1) w3) : w3.ownsRow base eL 1 U L.length us := by
  have h1 := own_grown hP.hU hP.hVU hG1
  have h2 : (w1.setCell ⟨g, j, none⟩ V1).ownsRow base eL 1 U L.length us := own_move h1 (fun k hk => far_heap (fun q => own_ne h1 HB1.hd (fun q => hB q.symm) (by rw [hk, q])))
  exact own_move h2 (fun k hk => hB3.block k (own_lt h2 k hk))
/-- The list itself, when the book's row has grown. -/
theorem add_R {g tB j : Nat} {c0 : Array Value} {V1 : Value} (hE : d.E = []) (hne : eL ≠ e) (hB2 : tB ≠ e) {n : Nat} {xs : List Value} (hV : w.ownsRow base eL 1 V n xs) (hv : d.R e w base (fun _ => True) v l) (HB1 : Blk w1 g tB c0) (hG1 : w.grownBy w1 V.ownBlock) : d.R e (w1.setCell ⟨g, j, none⟩ V1) base (fun _ => True) v l := by
  have h1 := R_grownT hE hv hV hne hG1
  refine R_moved hE h1 (fun k hk => far_heap (fun q => ?_))
  obtain ⟨cs, hc⟩ := Kd.R_typed h1 k hk
  rw [q, HB1.hd] at hc
  injection hc with hc; injection hc with _ hc
  exact hB2 hc
theorem C_of_R {B : Nat} {ok : Nat → Prop} {A : Option Addr} {n c : Nat} (h : d.R e w B ok (.slice A n c) l) : d.C w A l.length l ∧ n = l.length := by
  obtain ⟨A', c', q, _, hC⟩ := Kd.R_reads h
  injection q with q1 q2 q3
  subst q1
  exact ⟨hC, q2⟩
theorem add_done {g tB j1 j2 : Nat} {c0 c5 : Array Value} {V1 U1 : Value} {w3 w5 : World} (hE : d.E = []) (hne : eL ≠ e) (hB1 : tB ≠ eL) (hB2 : tB ≠ e) (hP : Pile d e eL w base V U vs us L) (hv : d.R e w base (fun _ => True) v l) (hnv : ∀ x ∈ vs ++ us, NeRow x v) (hbase : base ≤ w.heap.size) (hgb : base ≤ g) (hgl : g < w.heap.size)
    (HB1 : Blk w1 g tB c0) (hV1 : w1.ownsRow base eL 1 V1 (L.length + 1) (vs ++ [v])) (hW1 : Below base w w1) (hG1 : w.grownBy w1 V.ownBlock) (hA1 : V1.ownBlock = V.ownBlock ∨ ∃ b, V1.ownBlock = some b ∧ w.heap.size ≤ b)
    (hB3 : Below (w1.setCell ⟨g, j1, none⟩ V1).heap.size (w1.setCell ⟨g, j1, none⟩ V1) w3) (hu : d.R e w3 (w1.setCell ⟨g, j1, none⟩ V1).heap.size (fun _ => True) u l)
    (HB5 : Blk w5 g tB c5) (hU5 : w5.ownsRow base eL 1 U1 (L.length + 1) (us ++ [u])) (hW5 : Below base w3 w5) (hG5 : w3.grownBy w5 U.ownBlock) (hA5 : U1.ownBlock = U.ownBlock ∨ ∃ b, U1.ownBlock = some b ∧ w3.heap.size ≤ b) :
    Pile d e eL (w5.setCell ⟨g, j2, none⟩ U1) base V1 U1 (vs ++ [v]) (us ++ [u]) (L ++ [l]) ∧ (∀ k, u.ownBlock = some k → w.heap.size ≤ k) ∧ BookFx eL g base w (w5.setCell ⟨g, j2, none⟩ U1) := by
  have hs2 : (w1.setCell ⟨g, j1, none⟩ V1).heap.size = w1.heap.size := by simp [World.setCell]
  have z1 : w.heap.size ≤ w1.heap.size := hG1.size
  have z3 : w1.heap.size ≤ w3.heap.size := by rw [← hs2]; exact hB3.size
  have z5 : w3.heap.size ≤ w5.heap.size := hG5.size
  -- from the first world to the third: blocks but V's and the book's
  have m13 : ∀ k, k < w.heap.size → some k ≠ V.ownBlock → k ≠ g → w3.heap[k]? = w.heap[k]? := fun k hk h1 h2 =>
    ((hB3.block k (by rw [hs2]; omega)).trans (far_heap h2)).trans (hG1.block k hk h1)
  have m36 : ∀ k, k < w3.heap.size → some k ≠ U.ownBlock → k ≠ g → (w5.setCell ⟨g, j2, none⟩ U1).heap[k]? = w3.heap[k]? := fun k hk h1 h2 => (far_heap h2).trans (hG5.block k hk h1)
  have hU3 := add_mid (j := j1) hB1 hP HB1 hG1 hB3
  have hUlt : ∀ k, U.ownBlock = some k → k < w.heap.size := own_lt hP.hU
  have hVlt : ∀ k, V.ownBlock = some k → k < w.heap.size := own_lt hP.hV
  have hub : ∀ k, u.ownBlock = some k → w1.heap.size ≤ k := fun k hk => by have := Kd.R_base hu k hk; rw [hs2] at this; exact this
  -- a row of elements of the first world
  have old : ∀ x xs, d.R e w base (fun _ => True) x xs → d.R e (w5.setCell ⟨g, j2, none⟩ U1) base (fun _ => True) x xs := fun x xs hx => R_moved hE hx (fun k hk => by
    obtain ⟨cs, hc⟩ := Kd.R_typed hx k hk
    have hlt := Kd.R_lt hx k hk
    have n1 : some k ≠ V.ownBlock := own_ne hP.hV hc hne
    have n2 : some k ≠ U.ownBlock := own_ne hP.hU hc hne
    have n3 : k ≠ g := by
      rintro rfl
      have h3 : w1.heap[k]? = some (.cells cs e (0, 0)) := (hG1.block k hlt n1).trans hc
      have h4 := HB1.hd
      rw [h3] at h4
      injection h4 with h4; injection h4 with _ h4
      exact hB2 h4.symm
    exact (m36 k (by omega) n2 n3).trans (m13 k hlt n1 n3))
  have hgu : ∀ k, u.ownBlock = some k → k ≠ g := fun k hk q => by have := hub k hk; omega
  have hu6 : d.R e (w5.setCell ⟨g, j2, none⟩ U1) base (fun _ => True) u l := by
    have h1 : d.R e w3 base (fun _ => True) u l := Kd.R_lower hu (by rw [hs2]; omega)
    exact R_moved hE h1 (fun k hk => m36 k (Kd.R_lt h1 k hk) (fun q => by have := hUlt k q.symm; have := hub k hk; omega) (hgu k hk))
  -- the row of the lists
  have hV2 : (w1.setCell ⟨g, j1, none⟩ V1).ownsRow base eL 1 V1 (L.length + 1) (vs ++ [v]) := own_move hV1 (fun k hk => far_heap (fun q => own_ne hV1 HB1.hd (fun q => hB1 q.symm) (by rw [hk, q])))
  have hV3 : w3.ownsRow base eL 1 V1 (L.length + 1) (vs ++ [v]) := own_move hV2 (fun k hk => hB3.block k (own_lt hV2 k hk))
  have hVU1 : NeRow V1 U := fun k hk hk' => by
    rcases hA1 with h | ⟨b, h, hle⟩
    · exact hP.hVU k (h ▸ hk) hk'
    · have := hUlt k hk'
      rw [h] at hk; injection hk with hk; omega
  have hV5 : w5.ownsRow base eL 1 V1 (L.length + 1) (vs ++ [v]) := own_grown hV3 (ne_symm hVU1) hG5
  have hVU2 : NeRow V1 U1 := fun k hk hk' => by
    rcases hA5 with h | ⟨b, h, hle⟩
    · exact hVU1 k hk (h ▸ hk')
    · have := own_lt hV3 k hk
      rw [h] at hk'; injection hk' with hk'; omega
  have hV6 : (w5.setCell ⟨g, j2, none⟩ U1).ownsRow base eL 1 V1 (L.length + 1) (vs ++ [v]) := own_move hV5 (fun k hk => far_heap (fun q => own_ne hV5 HB5.hd (fun q => hB1 q.symm) (by rw [hk, q])))
  have hU6 : (w5.setCell ⟨g, j2, none⟩ U1).ownsRow base eL 1 U1 (L.length + 1) (us ++ [u]) := own_move hU5 (fun k hk => far_heap (fun q => own_ne hU5 HB5.hd (fun q => hB1 q.symm) (by rw [hk, q])))
  have young : ∀ x, (∀ k, x.ownBlock = some k → k < w.heap.size) → NeRow x u := fun x hx k hk hk' => by have := hx k hk; have := hub k hk'; omega
  have hlt : ∀ x ∈ vs ++ us, ∀ k, x.ownBlock = some k → k < w.heap.size := fun x hx k hk => by
    rcases List.mem_append.1 hx with hx | hx
    · exact (hP.rv.lt hx hk).2
    · exact (hP.ru.lt hx hk).2
  refine ⟨Pile.snoc hV6 hU6 hVU2 ⟨hP.rv.1, fun i x y hx hy => old x y (hP.rv.2 i x y hx hy)⟩ ⟨hP.ru.1, fun i x y hx hy => old x y (hP.ru.2 i x y hx hy)⟩ hP.ne (old v l hv) hu6 hnv (fun x hx => young x (hlt x hx)) (young v (fun k hk => Kd.R_lt hv k hk)), fun k hk => by have := hub k hk; omega, ⟨?_, ?_, ?_, ?_, ?_⟩, fun k hk hkg hc => ?_⟩
  · exact hW5.os.trans (hB3.os.trans hW1.os)
  · exact hW5.tape.trans (hB3.tape.trans hW1.tape)
  · exact hW5.output.trans (hB3.output.trans hW1.output)
  · simp [World.setCell]; omega
  · intro k hk
    rw [far_heap (by omega), hW5.block k hk, hB3.block k (by rw [hs2]; omega), far_heap (by omega), hW1.block k hk]
  · refine (m36 k (by omega) (fun q => ?_) hkg).trans (m13 k hk (fun q => ?_) hkg)
    · obtain ⟨cs, hcs⟩ := own_typed hP.hU k q.symm
      exact hc cs hcs
    · obtain ⟨cs, hcs⟩ := own_typed hP.hV k q.symm
      exact hc cs hcs
end
end Go.Proofs.Ytffemlfdhkndiaa.Hand
end
section
namespace Go.Proofs.Ytffemlfdhkndiaa.Hand
open Go.RowKit Go.Proofs.YtffemlfdhkndiaaW.PrintWords Go.Proofs.YtffemlfdhkndiaaW.PrintLast Go.Proofs.YtffemlfdhkndiaaW.PrintMore
set_option linter.unusedVariables false
set_option linter.unusedSimpArgs false
section
variable {α : Type} {d : Kd α} {e eL T B : Nat} {w w1 w2 : World} {base b : Nat} {vs us os : List Value} {L : List (List α)} {v u V U O : Value} {l : List α} {F F' G : Nat → List α → List α}
/-- Only blocks of one type have turned. -/
def FxT (T base : Nat) (w w1 : World) : Prop := Below base w w1 ∧ ∀ k, k < w.heap.size → (∀ cs, w.heap[k]? ≠ some (.cells cs T (0, 0))) → w1.heap[k]? = w.heap[k]?
theorem FxT.refl (T base : Nat) (w : World) : FxT T base w w := ⟨Below.refl _ _, fun _ _ _ => rfl⟩
theorem FxT.trans (h : FxT T base w w1) (k : FxT T base w1 w2) : FxT T base w w2 :=
  ⟨h.1.trans k.1, fun i hi hc => (k.2 i (Nat.lt_of_lt_of_le hi h.1.size) (fun cs => by rw [h.2 i hi hc]; exact hc cs)).trans (h.2 i hi hc)⟩
theorem FxT.of_below (hb : Below w.heap.size w w1) (hbase : base ≤ w.heap.size) : FxT T base w w1 := ⟨⟨hb.os, hb.tape, hb.output, hb.size, fun k hk => hb.block k (by omega)⟩, fun k hk _ => hb.block k hk⟩
theorem FxT.below (h : FxT T base w w1) (hb : Below w1.heap.size w1 w2) (hbase : base ≤ w.heap.size) : FxT T base w w2 := h.trans (FxT.of_below hb (Nat.le_trans hbase h.1.size))
theorem FxT.drew (h : FxT T base w w1) : FxT T base w w1.drew := ⟨below_drew h.1, h.2⟩
theorem FxT.base_le (h : FxT T base w w1) (hb : base ≤ w.heap.size) : base ≤ w1.heap.size := Nat.le_trans hb h.1.size
theorem FxT.blk {t k : Nat} {cs : Array Value} (h : FxT T base w w1) (hb : Blk w k t cs) (ht : t ≠ T) : Blk w1 k t cs :=
  (h.2 k hb.lt (fun cs' hc => by rw [hb.hd] at hc; injection hc with hc; injection hc with _ hc; exact ht hc)).trans hb
theorem FxT.own {n m : Nat} {xs : List Value} (h : FxT T base w w1) (hV : w.ownsRow b eL m V n xs) (hne : eL ≠ T) : w1.ownsRow b eL m V n xs :=
  own_move hV (fun k hk => h.2 k (own_lt hV k hk) (fun cs hc => by
    obtain ⟨cs', hc'⟩ := own_typed hV k hk
    rw [hc'] at hc; injection hc with hc; injection hc with _ hc; exact hne hc))
theorem FxT.grown (hb : base ≤ w.heap.size) (hg : w.grownBy w1 v.ownBlock) (hv : ∀ k, v.ownBlock = some k → base ≤ k ∧ ∃ cs, w.heap[k]? = some (.cells cs T (0, 0))) : FxT T base w w1 :=
  ⟨⟨hg.os, hg.tape, hg.output, hg.size, fun k hk => hg.block k (by omega) (fun q => by have := (hv k q.symm).1; omega)⟩, fun k hk hc => hg.block k hk (fun q => by obtain ⟨cs, hcs⟩ := (hv k q.symm).2; exact hc cs hcs)⟩
/-- Rows, by their values and what is in them now. -/
def ValsF (d : Kd α) (e : Nat) (w : World) (base : Nat) (vs : List Value) (L : List (List α)) (F : Nat → List α → List α) : Prop :=
  vs.length = L.length ∧ ∀ (i : Nat) v l, vs[i]? = some v → L[i]? = some l → d.R e w base (fun _ => True) v (F i l)
theorem ValsF.congr (h : ValsF d e w base vs L F) (hF : ∀ (i : Nat) l, L[i]? = some l → F' i l = F i l) : ValsF d e w base vs L F' := ⟨h.1, fun i v l hv hl => by rw [hF i l hl]; exact h.2 i v l hv hl⟩
theorem ValsF.below (h : ValsF d e w base vs L F) (hb : Below w.heap.size w w1) : ValsF d e w1 base vs L F := ⟨h.1, fun i v l hv hl => Kd.R_below (h.2 i v l hv hl) hb⟩
theorem ValsF.get (h : ValsF d e w base vs L F) {i : Nat} (hl : L[i]? = some l) : ∃ v, vs[i]? = some v ∧ d.R e w base (fun _ => True) v (F i l) := by
  have hi : i < vs.length := by rw [h.1]; exact (List.getElem?_eq_some_iff.1 hl).1
  exact ⟨vs[i], List.getElem?_eq_getElem hi, h.2 i _ _ (List.getElem?_eq_getElem hi) hl⟩
theorem ne_of_pair {i j : Nat} {x : Value} (hp : vs.Pairwise NeRow) (hv : vs[i]? = some v) (hx : vs[j]? = some x) (hij : j ≠ i) : NeRow v x := by
  rw [List.pairwise_iff_getElem] at hp
  obtain ⟨hj', rfl⟩ := List.getElem?_eq_some_iff.1 hx
  obtain ⟨hi', rfl⟩ := List.getElem?_eq_some_iff.1 hv
  rcases Nat.lt_or_ge i j with h1 | h1
  · exact hp i j hi' hj' h1
  · exact ne_symm (hp j i hj' hi' (by omega))
/-- One of them is written. -/
theorem ValsF.set (hE : d.E = []) (h : ValsF d e w base vs L F) (hp : vs.Pairwise NeRow) {i : Nat} (hl : L[i]? = some l) (hv : vs[i]? = some v) (hr : d.R e w1 base (fun _ => True) v (F' i l)) (hg : w.grownBy w1 v.ownBlock) (hF : ∀ (j : Nat) x, j ≠ i → L[j]? = some x → F' j x = F j x) : ValsF d e w1 base vs L F' := by
  refine ⟨h.1, fun j x y hx hy => ?_⟩
  by_cases hj : j = i
  · subst hj
    rw [hv] at hx; rw [hl] at hy
    injection hx with hx; injection hy with hy
    subst hx; subst hy
    exact hr
  · rw [hF j y hj hy]
    have hold := h.2 j x y hx hy
    exact R_moved hE hold (fun k hk => hg.block k (Kd.R_lt hold k hk) (fun q => ne_of_pair hp hv hx hj k q.symm hk))
/-- A shelf: the row of the lists, the lists. -/
structure Shelf (d : Kd α) (e eL : Nat) (w : World) (base : Nat) (V : Value) (vs : List Value) (L : List (List α)) (F : Nat → List α → List α) : Prop where
  hV : w.ownsRow base eL 1 V L.length vs
  rv : ValsF d e w base vs L F
  ne : vs.Pairwise NeRow
theorem Pile.shelf (h : Pile d e eL w base V U vs us L) : Shelf d e eL w base V vs L (fun _ l => l) := ⟨h.hV, h.rv, (List.pairwise_append.1 h.ne).1⟩
theorem Pile.shelfU (h : Pile d e eL w base V U vs us L) : Shelf d e eL w base U us L (fun _ l => l) := ⟨h.hU, h.ru, (List.pairwise_append.1 h.ne).2.1⟩
theorem Shelf.below (h : Shelf d e eL w base V vs L F) (hb : Below w.heap.size w w1) : Shelf d e eL w1 base V vs L F := ⟨own_move h.hV (fun k hk => hb.block k (own_lt h.hV k hk)), h.rv.below hb, h.ne⟩
theorem Shelf.congr (h : Shelf d e eL w base V vs L F) (hF : ∀ (i : Nat) l, L[i]? = some l → F' i l = F i l) : Shelf d e eL w base V vs L F' := ⟨h.hV, h.rv.congr hF, h.ne⟩
/-- Blocks of another type have turned. -/
theorem Shelf.fx (hE : d.E = []) (h : Shelf d e eL w base V vs L F) (hx : FxT T b w w1) (h1 : e ≠ T) (h2 : eL ≠ T) : Shelf d e eL w1 base V vs L F :=
  ⟨hx.own h.hV h2, ⟨h.rv.1, fun i v l hv hl => R_moved hE (h.rv.2 i v l hv hl) (fun k hk => by
    have hr := h.rv.2 i v l hv hl
    refine hx.2 k (Kd.R_lt hr k hk) (fun cs hc => ?_)
    obtain ⟨cs', hc'⟩ := Kd.R_typed hr k hk
    rw [hc'] at hc; injection hc with hc; injection hc with _ hc; exact h1 hc)⟩, h.ne⟩
theorem Shelf.grownFx (h : Shelf d e eL w base V vs L F) {i : Nat} (hv : vs[i]? = some v) (hl : L[i]? = some l) (hb : base ≤ w.heap.size) (hg : w.grownBy w1 v.ownBlock) : FxT e base w w1 :=
  FxT.grown hb hg (fun k hk => ⟨Kd.R_base (h.rv.2 i v l hv hl) k hk, Kd.R_typed (h.rv.2 i v l hv hl) k hk⟩)
/-- One of the lists is written. -/
theorem Shelf.set (hE : d.E = []) (hne : eL ≠ e) (h : Shelf d e eL w base V vs L F) (hb : base ≤ w.heap.size) {i : Nat} (hl : L[i]? = some l) (hv : vs[i]? = some v) (hr : d.R e w1 base (fun _ => True) v (F' i l)) (hg : w.grownBy w1 v.ownBlock) (hF : ∀ (j : Nat) x, j ≠ i → L[j]? = some x → F' j x = F j x) : Shelf d e eL w1 base V vs L F' :=
  ⟨(h.grownFx hv hl hb hg).own h.hV hne, h.rv.set hE h.ne hl hv hr hg hF, h.ne⟩
/-- The list at a place: the value in the row's cell. -/
theorem Shelf.at (h : Shelf d e eL w base V vs L F) {i : Nat} (hl : L[i]? = some l) : ∃ g c A cv, V = .slice (some ⟨g, 0, none⟩) L.length c ∧ w.cell? ⟨g, i, none⟩ = some (.slice A (F i l).length cv) ∧ vs[i]? = some (.slice A (F i l).length cv) ∧ d.R e w base (fun _ => True) (.slice A (F i l).length cv) (F i l) ∧ (F i l).length ≤ cv ∧ d.C w A (F i l).length (F i l) := by
  have hi : i < L.length := (List.getElem?_eq_some_iff.1 hl).1
  obtain ⟨g, c, rfl, hnc, hbg, hlt, hcell⟩ := row_cells h.hV (by omega)
  obtain ⟨v, hv, hr⟩ := h.rv.get hl
  obtain ⟨A, cv, rfl, hle, hC⟩ := Kd.R_reads hr
  exact ⟨g, c, A, cv, rfl, hcell i _ hv, hv, hr, hle, hC⟩
end
end Go.Proofs.Ytffemlfdhkndiaa.Hand
end
section
namespace Go.Proofs.Ytffemlfdhkndiaa.Hand
open Go.RowKit Go.Proofs.YtffemlfdhkndiaaW.PrintWords Go.Proofs.YtffemlfdhkndiaaW.PrintLast Go.Proofs.YtffemlfdhkndiaaW.PrintMore
set_option linter.unusedVariables false
set_option linter.unusedSimpArgs false
theorem add_zero0 (g j : Nat) : (⟨g, 0, none⟩ : Addr).add j = ⟨g, j, none⟩ := by unfold Addr.add; split <;> simp_all
section
variable {α : Type} {d : Kd α} {e eL T B : Nat} {w w1 w2 W : World} {base b g n : Nat} {v u V U O : Value} {l M xs : List α}
def Flat (d : Kd α) : Prop := ∀ (w w1 : World) x cs, d.K w x cs → d.K w1 x cs
theorem C_cells (hK : Flat d) (h : d.C w (some ⟨g, 0, none⟩) n M) (hc : ∀ j, j < n * d.sz → w1.cell? ⟨g, j, none⟩ = w.cell? ⟨g, j, none⟩) : d.C w1 (some ⟨g, 0, none⟩) n M := by
  refine ⟨h.1, h.2.1, fun h0 => ?_⟩
  obtain ⟨ad, he, hp⟩ := h.2.2 h0
  injection he with he
  subst he
  refine ⟨_, rfl, fun j p hj => ?_⟩
  obtain ⟨c, hl, hk, hcell⟩ := hp j p hj
  refine ⟨c, hl, hK _ _ _ _ hk, fun i u hu => ?_⟩
  have hjn : j < n := by have := (List.getElem?_eq_some_iff.1 hj).1; have := h.1; omega
  have hi : i < d.sz := by have := (List.getElem?_eq_some_iff.1 hu).1; omega
  have hlt : j * d.sz + i < n * d.sz := Nat.lt_of_lt_of_le (Nat.add_lt_add_left hi _) (by rw [← Nat.succ_mul]; exact Nat.mul_le_mul_right _ hjn)
  have := hcell i u hu
  rw [add_zero0] at this ⊢
  exact (hc _ hlt).trans this
/-- What a list shows, wherever it lies. -/
def Sees (d : Kd α) (e : Nat) (w : World) (v : Value) (M : List α) : Prop := ∃ c, M.length ≤ c ∧ ((v = .slice none M.length c ∧ M = []) ∨ ∃ g, v = .slice (some ⟨g, 0, none⟩) M.length c ∧ (∃ cs, w.heap[g]? = some (.cells cs e (0, 0))) ∧ d.C w (some ⟨g, 0, none⟩) M.length M)
theorem ty_lt {g : Nat} {cs : Array Value} (h : w.heap[g]? = some (.cells cs e (0, 0))) : g < w.heap.size := (Array.getElem?_eq_some_iff.1 h).1
theorem Sees.of_R {ok : Nat → Prop} (h : d.R e w base ok v M) : Sees d e w v M := by
  obtain ⟨A, c, rfl, hc, hC⟩ := Kd.R_reads h
  refine ⟨c, hc, ?_⟩
  rcases Nat.eq_zero_or_pos M.length with h0 | h0
  · obtain ⟨inner, ho⟩ := Kd.R_own h
    rcases ho.2 with ⟨he, _⟩ | ⟨g, cap, cur, he, _, hh, _⟩
    · injection he with h1 h2 h3
      subst h1
      exact .inl ⟨rfl, List.eq_nil_of_length_eq_zero h0⟩
    · injection he with h1 h2 h3
      subst h1
      exact .inr ⟨g, rfl, ⟨_, hh⟩, hC⟩
  · obtain ⟨g, c', he, _, hlt, hC'⟩ := row_at h h0
    injection he with h1 h2 h3
    subst h1
    exact .inr ⟨g, rfl, Kd.R_typed h g rfl, hC⟩
theorem Sees.reads (h : Sees d e w v M) : ∃ A c, v = .slice A M.length c ∧ M.length ≤ c ∧ d.C w A M.length M := by
  obtain ⟨c, hc, ⟨rfl, rfl⟩ | ⟨g, rfl, _, hC⟩⟩ := h
  · exact ⟨_, _, rfl, hc, Kd.C_nil d w⟩
  · exact ⟨_, _, rfl, hc, hC⟩
theorem Sees.move (hK : Flat d) (h : Sees d e w v M) (hm : ∀ k, v.ownBlock = some k → w1.heap[k]? = w.heap[k]?) : Sees d e w1 v M := by
  obtain ⟨c, hc, ⟨rfl, rfl⟩ | ⟨g, rfl, ⟨cs, hcs⟩, hC⟩⟩ := h
  · exact ⟨c, hc, .inl ⟨rfl, rfl⟩⟩
  · refine ⟨c, hc, .inr ⟨g, rfl, ⟨cs, (hm g rfl).trans hcs⟩, C_cells hK hC (fun j _ => ?_)⟩⟩
    have := hm g rfl
    unfold World.cell?
    simp only [this]
theorem Sees.lt (h : Sees d e w v M) {k : Nat} (hk : v.ownBlock = some k) : k < w.heap.size := by
  obtain ⟨c, hc, ⟨rfl, rfl⟩ | ⟨g, rfl, ⟨cs, hcs⟩, hC⟩⟩ := h
  · cases hk
  · injection hk with hk; subst hk; exact ty_lt hcs
theorem Sees.typed (h : Sees d e w v M) {k : Nat} (hk : v.ownBlock = some k) : ∃ cs, w.heap[k]? = some (.cells cs e (0, 0)) := by
  obtain ⟨c, hc, ⟨rfl, rfl⟩ | ⟨g, rfl, hcs, hC⟩⟩ := h
  · cases hk
  · injection hk with hk; subst hk; exact hcs
/-- Blocks of another type have turned. -/
theorem Sees.fx (hK : Flat d) (h : Sees d e w v M) (hx : FxT T B w w1) (hne : e ≠ T) : Sees d e w1 v M := h.move hK (fun k hk => by
  obtain ⟨cs, hcs⟩ := h.typed hk
  exact hx.2 k (ty_lt hcs) (fun cs' hc => by rw [hcs] at hc; injection hc with hc; injection hc with _ hc; exact hne hc))
theorem Sees.below (hK : Flat d) (h : Sees d e w v M) (hb : Below w.heap.size w w1) : Sees d e w1 v M := h.move hK (fun k hk => hb.block k (h.lt hk))
/-- Something is appended to a list: what lay in its cells lies there still. -/
def Kept (e : Nat) (w w1 : World) (v : Value) (m : Nat) : Prop := ∀ g, v.ownBlock = some g → (∀ j, j < m → w1.cell? ⟨g, j, none⟩ = w.cell? ⟨g, j, none⟩) ∧ ∃ cs, w1.heap[g]? = some (.cells cs e (0, 0))
theorem Sees.kept (hK : Flat d) {m : Nat} (h : Sees d e w v M) (hg : w.grownBy w1 u.ownBlock) (hk : Kept e w w1 u m) (hm : M.length * d.sz ≤ m) : Sees d e w1 v M := by
  obtain ⟨c, hc, ⟨rfl, rfl⟩ | ⟨g, rfl, ⟨cs, hcs⟩, hC⟩⟩ := h
  · exact ⟨c, hc, .inl ⟨rfl, rfl⟩⟩
  · by_cases hu : u.ownBlock = some g
    · obtain ⟨h1, h2⟩ := hk g hu
      exact ⟨c, hc, .inr ⟨g, rfl, h2, C_cells hK hC (fun j hj => h1 j (by omega))⟩⟩
    · have hb := hg.block g (ty_lt hcs) (fun q => hu q.symm)
      refine ⟨c, hc, .inr ⟨g, rfl, ⟨cs, hb.trans hcs⟩, C_cells hK hC (fun j hj => ?_)⟩⟩
      unfold World.cell?
      simp only [hb]
end
section
variable {P : Program} {ops : Array Oper} {rest : List Oper} {o : Oper} {a : Act} {Q : Exit → Act → World → Prop} {K : Act → World → Prop} {α : Type}
theorem run_append_kept {W : World} (t ty e : TypeId) (i : TypeInfo) (z : Value) (size : Nat) (base : Nat) (ht : P.underlying t = some (.slice e)) (hi : P.info? e = some i) (hz : i.zero = some z) (hsize : i.size = size)
    (v : Value) (n : Nat) (xs : List Value) (hown : W.ownsRow base e size v n xs) (ad : Addr) (m c : Nat) (news : List Value) (hl : news.length = m * size) (hnews : ∀ j u, news[j]? = some u → W.cell? (ad.add j) = some u) (h1 : ∀ u ∈ news, u.oneCell' = true)
    (hm : n + m ≤ maxLen) (hb : (n + m) * i.bytes ≤ 140737488355328) {v1 : Value} {w1 : World} (hr : (Builtin.append_ #[t, t] ty #[v, .slice (some ad) m c]).run P W = .ok v1 w1) : Kept e W w1 v (n * size) := by
  subst hsize
  intro g hg
  have hsmall : n + m ≤ 9223372036854775807 := by simp only [maxLen] at hm; omega
  rcases hown.2 with ⟨rfl, rfl⟩ | ⟨g', cap, cur, rfl, hbg, hh, hnc, hcm, hcs, htake⟩
  · cases hg
  · injection hg with hg
    subst hg
    by_cases hroom : n + m ≤ cap
    · have hfit : n * i.size + news.length ≤ cur.size := by rw [hl, hcs, ← Nat.add_mul]; exact Nat.mul_le_mul_right _ hroom
      rw [run_append_room (P := P) W t ty e i ht hi g' n cap cur hh ad m c news hl hnews h1 hroom hfit] at hr
      injection hr with _ hw
      subst hw
      refine ⟨fun j hj => ?_, _, setRow_heap W g' cur _ e _ hh⟩
      rw [cell_of_row _ _ _ _ _ _ (setRow_heap W g' cur _ e _ hh), cell_of_row _ _ _ _ _ _ hh]
      have hlt : j < (cur.toList.take (n * i.size)).length := by rw [List.length_take, Array.length_toList]; omega
      rw [List.getElem?_toArray, List.append_assoc, List.getElem?_append_left hlt, List.getElem?_take, if_pos hj, Array.getElem?_toList]
    · have holds : ∀ j u, xs[j]? = some u → W.cell? ((⟨g', 0, none⟩ : Addr).add j) = some u := hown.cells (g := g') rfl
      rw [run_append_grow (P := P) W t ty e i z ht hi hz ⟨g', 0, none⟩ n cap xs hown.1 holds ad m c news hl hnews (by omega) (by omega) (growslice_fits (by omega) hb)] at hr
      injection hr with _ hw
      subst hw
      have hlt : g' < W.drew.heap.size := (Array.getElem?_eq_some_iff.1 hh).1
      have hold : ∀ o : Obj, (W.drew.alloc o).heap[g']? = W.heap[g']? := fun o => heap_alloc_old W.drew o hlt
      refine ⟨fun j hj => ?_, cur, (hold _).trans hh⟩
      unfold World.cell?
      simp only [hold]
namespace Kd
/-- append(v, x..): the rows; and what lay in the old list's cells lies there still. -/
theorem R_append_kept (d : Kd α) {Rr : α → List Value → Prop} {w0 W : World} (base : Nat) (hgd : o.guard = none) (s x : Operand) (t e : TypeId) (z : Value) (bytes : Nat)
    (ho : o.op = .call { callee := .builtin .append, args := #[s, x], argTypes := #[t, t] })
    (ht : P.underlying t = some (.slice e)) (hinfo : (P.info? e).map (fun i => (i.zero, i.size, i.bytes)) = some (some z, d.sz, bytes)) (hz : z.cells.size = d.sz) (hs0 : 0 < d.sz) (hb0 : 0 < bytes)
    (v : Value) (xs ys : List α) (ad : Addr) (m c : Nat) (ok okp : Nat → Prop) (hs : a.eval s = v) (hx : a.eval x = .slice (some ad) m c)
    (HO : d.R e W base ok v xs) (HR : ReadsRow Rr d.sz W (some ad) m ys) (hKM : ∀ x cs, Rr x cs → d.M W base okp x cs) (hokp : ∀ k, okp k → ok k ∧ some k ≠ v.ownBlock) (hfresh : ∀ k, W.heap.size ≤ k → ok k)
    (HB : Below base w0 W) (hbase : base ≤ W.heap.size) (hl : (xs.length + m) * bytes ≤ 140737488355328)
    (h : ∀ v1 w1, d.R e w1 base ok v1 (xs ++ ys) → Below base w0 w1 → W.grownBy w1 v.ownBlock → (v1.ownBlock = v.ownBlock ∨ ∃ b, v1.ownBlock = some b ∧ W.heap.size ≤ b) → Kept e W w1 v (xs.length * d.sz) → wpList P ops Q rest (a.put o.dst v1) w1) :
    wpList P ops Q (o :: rest) a W := by
  refine wpList_plain hgd fun K hK => ?_
  have hw : Region.wanted o (yielded ops a.tmps) = true := by simp [Region.wanted, hgd]
  have hstep := Kd.R_append_rows_step (P := P) (ops := ops) (o := o) (a := a) (Q := Q) (Kc := fun a' w1 => ∃ v1, a' = a.put o.dst v1 ∧ d.R e w1 base ok v1 (xs ++ ys) ∧ Below base w0 w1 ∧ W.grownBy w1 v.ownBlock ∧ (v1.ownBlock = v.ownBlock ∨ ∃ b, v1.ownBlock = some b ∧ W.heap.size ≤ b)) d (w0 := w0) base hw s x t e z bytes ho ht hinfo hz hs0 hb0 v xs ys (some ad) m c ok okp hs hx HO HR hKM hokp hfresh HB hbase hl (fun v1 w1 h1 h2 h3 h4 => ⟨v1, rfl, h1, h2, h3, h4⟩)
  rw [if_pos hw] at hstep
  obtain ⟨i0, hi, hzz⟩ := Option.map_eq_some_iff.1 hinfo
  simp only [Prod.mk.injEq] at hzz
  obtain ⟨hz0, hz1, hz2⟩ := hzz
  obtain ⟨_, inner, hown, hr⟩ := HO
  obtain ⟨news, hnr, hnc⟩ := ReadsRow.inner_ HR
  have hnM : Reps (d.M W base okp) d.sz ys news := hnr.imp_ (fun p c hp => hKM p c hp)
  have hone : ∀ u ∈ news, u.oneCell' = true := by
    intro u hu
    obtain ⟨q, hq, rfl⟩ := List.mem_iff_getElem.1 hu
    have hql : q / d.sz < ys.length := by
      rw [Nat.div_lt_iff_lt_mul hs0, ← hnM.1]
      exact hq
    refine d.K_one (d.K_of_M (hnM.2 (q / d.sz) _ (List.getElem?_eq_getElem hql))) _ ?_
    rw [List.mem_iff_getElem?]
    exact ⟨q % d.sz, by rw [List.getElem?_take, if_pos (Nat.mod_lt _ hs0), List.getElem?_drop, Nat.mul_comm, Nat.div_add_mod, List.getElem?_eq_getElem hq]⟩
  have hlen : xs.length + m ≤ 140737488355328 := Nat.le_trans (Nat.le_mul_of_pos_right _ hb0) hl
  have hnl : news.length = m * d.sz := by rw [hnr.1, HR.1]
  obtain ⟨v2, w2, hrun, _⟩ := run_append_own_at (P := P) W base t o.type e i0 z d.sz bytes ht hi hz0 hz1 hz2 hz hs0 v xs.length inner hown ad m c news hnl hnc hone (by simp only [maxLen]; omega) hl hbase
  have hkept := run_append_kept (P := P) (W := W) t o.type e i0 z d.sz base ht hi hz0 hz1 v xs.length inner hown ad m c news hnl hnc hone (by simp only [maxLen]; omega) (by rw [hz2]; exact hl) hrun
  unfold Oper.wp execOp at hstep ⊢
  simp only [ho, resolve, invoke, builtin, Sem.run_bind, Sem.run_pure, Result.andThen_ok, List.map_toArray, List.map_cons, List.map_nil, hs, hx, hrun] at hstep ⊢
  obtain ⟨v1, ha, h1, h2, h3, h4⟩ := hstep
  refine hK _ _ ?_
  rw [ha]
  exact h v1 w2 h1 h2 h3 h4 hkept
/-- out[i] = x, at a step of a region that draws its order. -/
theorem R_store_step (d : Kd α) {w0 W : World} (base : Nat) (hgd : o.guard = none) (t : TypeId) (p x : Operand) (ho : o.op = .store t p x) (e : TypeId) {g n cap o' : Nat} (i : Nat) (xs : List α) (x' : α) (u : Value) (seg : List Value) (ok okp : Nat → Prop)
    (haddr : a.eval p = .pointer (some ⟨g, o', none⟩)) (hoff : o' = i * d.sz) (hx : a.eval x = u) (hu : u.cells.toList = seg) (ht : (P.info? t).map (·.size) = some seg.length) (hsz : seg.length = d.sz) (h1 : ∀ q ∈ seg, q.oneCell' = true)
    (HO : d.R e W base ok (.slice (some ⟨g, 0, none⟩) n cap) xs) (hi : i < n) (hM : d.M W base okp x' seg) (hokp : ∀ k, okp k → ok k ∧ k ≠ g)
    (h : ∀ w1, d.R e w1 base ok (.slice (some ⟨g, 0, none⟩) n cap) (xs.set i x') → W.grownBy w1 (some g) → K (a.put o.dst undef) w1) (E : Prop) : if Region.wanted o (yielded ops a.tmps) = true then Oper.wp P o a W K Q else E := by
  have hw : Region.wanted o (yielded ops a.tmps) = true := by simp [Region.wanted, hgd]
  rw [if_pos hw]
  subst hoff
  have hnx : n = xs.length := (Kd.R_reads' HO).1
  obtain ⟨A0, c0, he0, _, hC⟩ := Kd.R_reads HO
  obtain ⟨c, hcl, hcc⟩ : ∃ c : List Value, c.length = d.sz ∧ ∀ j u, c[j]? = some u → W.cell? ⟨g, ((i : Nat) : Int).toNat * d.sz + j, none⟩ = some u := by
    injection he0 with q1 q2 q3
    subst q1
    obtain ⟨ad, hq, hp⟩ := hC.2.2 (by omega)
    injection hq with hq
    subst hq
    obtain ⟨c, hl, _, hcell⟩ := hp i _ (List.getElem?_eq_getElem (by omega))
    refine ⟨c, hl, fun j u hj => ?_⟩
    have := hcell j u hj
    rw [add_zero0] at this
    exact this
  have hseg := Kd.R_seg (j := 0) (seg := seg) (x' := x') HO ((i : Nat) : Int) (by omega) (by omega) hcl hcc (by omega) (by rw [List.take_zero, List.nil_append, Nat.zero_add, List.drop_eq_nil_of_le (by omega), List.append_nil]; exact hM) hokp
  rw [Int.toNat_natCast, Nat.add_zero] at hseg
  have hrun : (Instr.storeAt t (.pointer (some ⟨g, i * d.sz, none⟩)) u).run P W = .ok () (W.setCells g (i * d.sz) seg) := by
    obtain ⟨_, inner, hown, hr⟩ := HO
    rcases hown.2 with ⟨hv, _⟩ | ⟨g', cap', cur, hv, hb, hh, hnc, hcm, hcs, _⟩
    · cases hv
    injection hv with ha _ hc
    injection ha with ha
    injection ha with hg'
    subst hg'; subst hc
    refine run_store_run t u seg hh hu ht ?_ h1
    have h2 : i * d.sz + d.sz ≤ n * d.sz := by rw [← Nat.succ_mul]; exact Nat.mul_le_mul_right _ hi
    have h3 : n * d.sz ≤ cap * d.sz := Nat.mul_le_mul_right _ (by omega)
    omega
  unfold Oper.wp execOp
  simp only [ho, haddr, hx, Sem.run_bind, Sem.run_pure, Result.andThen_ok, hrun]
  exact h _ hseg.1 hseg.2
end Kd
end
end Go.Proofs.Ytffemlfdhkndiaa.Hand
end
section
namespace Go.Proofs.Ytffemlfdhkndiaa.A
open Go.RowKit Go.Proofs.YtffemlfdhkndiaaW.PrintWords Go.Proofs.YtffemlfdhkndiaaW.PrintLast Go.Proofs.YtffemlfdhkndiaaW.PrintMore
attribute [local go_sem] max2_int min2_int max_two min_two max_three min_three max_four min_four   -- for this text's walks alone
set_option linter.unusedVariables false
set_option linter.unusedSimpArgs false
def emulsionbook_SameInts.l0 : Nat → List Int → List Int → Int → Option (Bool)
  | 0, _, _, _ => none
  | k + 1, x0, x1, x5 => if x5 < (x0.length : Int) then (if 0 ≤ x5 then (if x5 < (x1.length : Int) then (if ((rd x0 x5) = (rd x1 x5)) then (emulsionbook_SameInts.l0 k x0 x1 (wrap64 (x5 + 1))) else (some false)) else (none)) else (none)) else (some true)
def emulsionbook_SameInts.f (k : Nat) (l0 : List Int) (l1 : List Int) : Option (Bool) := if (l0.length : Int) = (l1.length : Int) then (emulsionbook_SameInts.l0 k l0 l1 0) else (some false)
theorem emulsionbook_SameInts.mono_l : ∀ k, (∀ y0 y1 y2, LeO (emulsionbook_SameInts.l0 k y0 y1 y2) (emulsionbook_SameInts.l0 (k + 1) y0 y1 y2))
  | 0 => fun _ _ _ r h => by simp [emulsionbook_SameInts.l0] at h
  | k + 1 => by
    have ih0 := emulsionbook_SameInts.mono_l k
    · intro y0 y1 y2
      unfold emulsionbook_SameInts.l0
      repeat' first
      | (with_reducible exact ih0 _ _ _)
      | (with_reducible exact LeO.refl _)
      | (with_reducible exact LeO.none _)
      | (with_reducible refine LeO.ite ?_ ?_)
      | (with_reducible refine LeO.bind ?_ (fun _ => ?_))
      | exact ih0 _ _ _
      | exact LeO.none _
      | refine LeO.ite ?_ ?_
      | refine LeO.bind ?_ (fun _ => ?_)
theorem emulsionbook_SameInts.mono : ∀ a0 a1 k, LeO (emulsionbook_SameInts.f k a0 a1) (emulsionbook_SameInts.f (k + 1) a0 a1) := by
  intro a0 a1 k
  have ih0 := emulsionbook_SameInts.mono_l k
  unfold emulsionbook_SameInts.f
  repeat' first
      | (with_reducible exact ih0 _ _ _)
      | (with_reducible exact LeO.refl _)
      | (with_reducible exact LeO.none _)
      | (with_reducible refine LeO.ite ?_ ?_)
      | (with_reducible refine LeO.bind ?_ (fun _ => ?_))
      | exact ih0 _ _ _
      | exact LeO.none _
      | refine LeO.ite ?_ ?_
      | refine LeO.bind ?_ (fun _ => ?_)
set_option maxHeartbeats 8000000 in
set_option maxRecDepth 100000 in
theorem emulsionbook_SameInts.calls (k : Nat) (A0 : Option Addr) (c0 : Nat) (l0 : List Int) (A1 : Option Addr) (c1 : Nat) (l1 : List Int) (r : Bool) (w : World) (hr0 : Kd.C (Kd.int .i64) w A0 l0.length l0) (hc0 : l0.length ≤ c0) (hr1 : Kd.C (Kd.int .i64) w A1 l1.length l1) (hc1 : l1.length ≤ c1) (h : emulsionbook_SameInts.f k l0 l1 = some r) :
    Calls Try.prog 98 #[.slice A0 l0.length c0, .slice A1 l1.length c1] w fun e w' => e = .returned (.bool r) ∧ Drawn0 w w' := by
  have HR0 := Aside0.mk hr0
  have HC0 := Aside0.mk hc0
  clear hr0 hc0
  have HR1 := Aside0.mk hr1
  have HC1 := Aside0.mk hc1
  clear hr1 hc1
  have H : (if (l0.length : Int) = (l1.length : Int) then (emulsionbook_SameInts.l0 k l0 l1 0) else (some false)) = some r := h
  clear h
  by_cases c3 : (l0.length : Int) = (l1.length : Int)
  · rw [if_pos c3] at H
    have c3b0 : ((l0.length : Int) == (l1.length : Int)) = true := beq_iff_eq.mpr c3
    have c3b1 : ((l0.length : Int) != (l1.length : Int)) = false := bne_eq_false_iff_eq.mpr c3
    have c3b2 : (l0.length == l1.length) = true := by first | simpa using c3 | (simp at c3 ⊢; omega)
    clear c3
    have H' := Aside0.mk H
    clear H
    go_enter Try.func98, Try.ntmps98
    go_wp2
    repeat (go_quiet (fail); try go_wp2)
    go_loopg [5] k (fun kq v5 w' => ∃ (x5_1 : Int), v5 = .int .i64 x5_1 ∧ Aside0 (emulsionbook_SameInts.l0 kq l0 l1 x5_1 = some r) ∧ Aside0 (kq ≤ k) ∧ Drawn0 w w')
    case atStart => exact ⟨(0), (by first | rfl | (simp; done) | (simp [*]; done)), H', ⟨Nat.le_refl _⟩, by repeat (first | exact Drawn0.refl _ | apply Drawn0.step)⟩
    case round =>
      clear H'
      try clear c1
      try clear p2
      try clear c3
      try clear c3b0
      try clear c3b1
      try clear c3b2
      obtain ⟨x5_1, rfl, HA, HK1, ⟨m1, rfl⟩⟩ := hrel
      cases gk with
      | zero => exact absurd HA.out (by simp [emulsionbook_SameInts.l0])
      | succ k1 =>
        have H := HA.out
        clear HA
        simp only [emulsionbook_SameInts.l0] at H
        by_cases c4 : x5_1 < (l0.length : Int)
        · rw [if_pos c4] at H
          have c4b0 : decide (x5_1 < (l0.length : Int)) = true := decide_eq_true c4
          clear c4
          by_cases c5 : 0 ≤ x5_1
          · rw [if_pos c5] at H
            have c5b0 : decide (0 ≤ x5_1) = true := decide_eq_true c5
            clear c5
            by_cases c6 : x5_1 < (l1.length : Int)
            · rw [if_pos c6] at H
              have c6b0 : decide (x5_1 < (l1.length : Int)) = true := decide_eq_true c6
              clear c6
              by_cases c7 : ((rd l0 x5_1) = (rd l1 x5_1))
              · rw [if_pos c7] at H
                have c7b0 : ((rd l0 x5_1) == (rd l1 x5_1)) = true := beq_iff_eq.mpr c7
                have c7b1 : ((rd l0 x5_1) != (rd l1 x5_1)) = false := bne_eq_false_iff_eq.mpr c7
                clear c7
                have H' := Aside0.mk H
                clear H
                have p147 : 0 ≤ (x5_1 : Int) := of_decide_eq_true (by first | (with_reducible assumption) | assumption)
                have q147 : x5_1 < (l0.length : Int) := of_decide_eq_true (by first | (with_reducible assumption) | assumption)
                obtain ⟨ad147, e147, hx147_0⟩ := Kd.at_int HR0.out x5_1 p147 q147
                cases e147
                replace p147 := eq_true p147
                replace q147 := eq_true q147
                have p148 : 0 ≤ (x5_1 : Int) := of_decide_eq_true (by first | (with_reducible assumption) | assumption)
                have q148 : x5_1 < (l1.length : Int) := of_decide_eq_true (by first | (with_reducible assumption) | assumption)
                obtain ⟨ad148, e148, hx148_0⟩ := Kd.at_int HR1.out x5_1 p148 q148
                cases e148
                replace p148 := eq_true p148
                replace q148 := eq_true q148
                go_wp2
                repeat (go_quiet (fail); try go_wp2)
                go_roundg k1
                case measure => have := HK1.out; omega
                case rel => exact ⟨(wrap64 (x5_1 + 1)), (by first | rfl | (simp; done) | (simp [*]; done)), H', ⟨by have := HK1.out; omega⟩, by repeat (first | exact Drawn0.refl _ | apply Drawn0.step)⟩
              · rw [if_neg c7] at H
                have c7b0 : ((rd l0 x5_1) == (rd l1 x5_1)) = false := beq_eq_false_iff_ne.mpr c7
                have c7b1 : ((rd l0 x5_1) != (rd l1 x5_1)) = true := bne_iff_ne.mpr c7
                obtain rfl := Option.some.inj H
                have p147 : 0 ≤ (x5_1 : Int) := of_decide_eq_true (by first | (with_reducible assumption) | assumption)
                have q147 : x5_1 < (l0.length : Int) := of_decide_eq_true (by first | (with_reducible assumption) | assumption)
                obtain ⟨ad147, e147, hx147_0⟩ := Kd.at_int HR0.out x5_1 p147 q147
                cases e147
                replace p147 := eq_true p147
                replace q147 := eq_true q147
                have p148 : 0 ≤ (x5_1 : Int) := of_decide_eq_true (by first | (with_reducible assumption) | assumption)
                have q148 : x5_1 < (l1.length : Int) := of_decide_eq_true (by first | (with_reducible assumption) | assumption)
                obtain ⟨ad148, e148, hx148_0⟩ := Kd.at_int HR1.out x5_1 p148 q148
                cases e148
                replace p148 := eq_true p148
                replace q148 := eq_true q148
                go_wp2
                repeat (go_quiet (fail); try go_wp2)
                go_ret
                exact ⟨by first | rfl | (simp; done) | (simp [*]; done), by repeat (first | exact Drawn0.refl _ | apply Drawn0.step)⟩
            · rw [if_neg c6] at H
              exact absurd H (by simp)
          · rw [if_neg c5] at H
            exact absurd H (by simp)
        · rw [if_neg c4] at H
          have c4b0 : decide (x5_1 < (l0.length : Int)) = false := decide_eq_false c4
          clear c4
          obtain rfl := Option.some.inj H
          go_wp2
          repeat (go_quiet (fail); try go_wp2)
          go_ret
          exact ⟨by first | rfl | (simp; done) | (simp [*]; done), by repeat (first | exact Drawn0.refl _ | apply Drawn0.step)⟩
  · rw [if_neg c3] at H
    have c3b0 : ((l0.length : Int) == (l1.length : Int)) = false := beq_eq_false_iff_ne.mpr c3
    have c3b1 : ((l0.length : Int) != (l1.length : Int)) = true := bne_iff_ne.mpr c3
    have c3b2 : (l0.length == l1.length) = false := by first | simpa using c3 | (simp at c3 ⊢; omega)
    obtain rfl := Option.some.inj H
    go_enter Try.func98, Try.ntmps98
    go_wp2
    repeat (go_quiet (fail); try go_wp2)
    go_ret
    exact ⟨by first | rfl | (simp; done) | (simp [*]; done), by repeat (first | exact Drawn0.refl _ | apply Drawn0.step)⟩
def emulsionbook_markInts.l0 : Nat → Int → Int → Int → List Int → Int → Option (List Int)
  | 0, _, _, _, _, _ => none
  | k + 1, x0, x1, x2, x7, x8 => if x8 < (wrap64 (x1 + x2)) then (if x7.length < 17592186044416 then (emulsionbook_markInts.l0 k x0 x1 x2 (x7 ++ [wrap64 ((wrap64 ((wrap64 ((-1000000) * x0)) - x8)) - 7)]) (wrap64 (x8 + 1))) else (none)) else (some x7)
def emulsionbook_markInts.f (k : Nat) (a0 : Int) (a1 : Int) (a2 : Int) : Option (List Int) := emulsionbook_markInts.l0 k a0 a1 a2 ([] : List Int) a1
theorem emulsionbook_markInts.mono_l : ∀ k, (∀ y0 y1 y2 y3 y4, LeO (emulsionbook_markInts.l0 k y0 y1 y2 y3 y4) (emulsionbook_markInts.l0 (k + 1) y0 y1 y2 y3 y4))
  | 0 => fun _ _ _ _ _ r h => by simp [emulsionbook_markInts.l0] at h
  | k + 1 => by
    have ih0 := emulsionbook_markInts.mono_l k
    · intro y0 y1 y2 y3 y4
      unfold emulsionbook_markInts.l0
      repeat' first
      | (with_reducible exact ih0 _ _ _ _ _)
      | (with_reducible exact LeO.refl _)
      | (with_reducible exact LeO.none _)
      | (with_reducible refine LeO.ite ?_ ?_)
      | (with_reducible refine LeO.bind ?_ (fun _ => ?_))
      | exact ih0 _ _ _ _ _
      | exact LeO.none _
      | refine LeO.ite ?_ ?_
      | refine LeO.bind ?_ (fun _ => ?_)
theorem emulsionbook_markInts.mono : ∀ a0 a1 a2 k, LeO (emulsionbook_markInts.f k a0 a1 a2) (emulsionbook_markInts.f (k + 1) a0 a1 a2) := by
  intro a0 a1 a2 k
  have ih0 := emulsionbook_markInts.mono_l k
  unfold emulsionbook_markInts.f
  repeat' first
      | (with_reducible exact ih0 _ _ _ _ _)
      | (with_reducible exact LeO.refl _)
      | (with_reducible exact LeO.none _)
      | (with_reducible refine LeO.ite ?_ ?_)
      | (with_reducible refine LeO.bind ?_ (fun _ => ?_))
      | exact ih0 _ _ _ _ _
      | exact LeO.none _
      | refine LeO.ite ?_ ?_
      | refine LeO.bind ?_ (fun _ => ?_)
set_option maxHeartbeats 8000000 in
set_option maxRecDepth 100000 in
theorem emulsionbook_markInts.calls (k : Nat) (a0 : Int) (a1 : Int) (a2 : Int) (r : List Int) (w : World) (h : emulsionbook_markInts.f k a0 a1 a2 = some r) :
    Calls Try.prog 105 #[.int .i64 a0, .int .i64 a1, .int .i64 a2] w fun e w' => ∃ v0_ : Value, e = .returned (v0_) ∧ Kd.R (Kd.int .i64) 3 w' w.heap.size (fun _ => True) v0_ r ∧ Below w.heap.size w w' := by
  have HB := Aside0.mk (Below.refl w.heap.size w)
  have H : (emulsionbook_markInts.l0 k a0 a1 a2 ([] : List Int) a1) = some r := h
  clear h
  have H' := Aside0.mk H
  clear H
  go_enter Try.func105, Try.ntmps105
  go_wp2
  go_loopg [7, 8] k (fun kq v7 v8 w' => ∃ (x7_1 : List Int) (x8_1 : Int), v8 = .int .i64 x8_1 ∧ Aside0 (emulsionbook_markInts.l0 kq a0 a1 a2 x7_1 x8_1 = some r) ∧ Aside0 (kq ≤ k) ∧ Aside0 (Kd.R (Kd.int .i64) 3 w' w.heap.size (fun _ => True) v7 x7_1) ∧ Aside0 (Below w.heap.size w w'))
  case atStart => exact ⟨(([] : List Int)), (a1), (by first | rfl | (simp; done) | (simp [*]; done)), H', ⟨Nat.le_refl _⟩, ⟨by first | exact Kd.R_nil _ _ _ _ _ | exact Kd.N_nil _ _ _ _ _ | exact Kd.V_nil _ _ _ _ _ | exact Kd.Q_nil _ _ _ _ _ | exact Kd.S_nil _ _ _ _ _⟩, ⟨by repeat (first | (with_reducible first | exact HB.out | apply below_alloc | apply pw_below_drewN | apply below_drew1) | exact HB.out)⟩⟩
  case round =>
    clear H'
    try clear c1
    try clear p2
    obtain ⟨x7_1, x8_1, rfl, HA, HK1, HO_7, HB⟩ := hrel
    cases gk with
    | zero => exact absurd HA.out (by simp [emulsionbook_markInts.l0])
    | succ k1 =>
      have H := HA.out
      clear HA
      simp only [emulsionbook_markInts.l0] at H
      by_cases c4 : x8_1 < (wrap64 (a1 + a2))
      · rw [if_pos c4] at H
        have c4b0 : decide (x8_1 < (wrap64 (a1 + a2))) = true := decide_eq_true c4
        clear c4
        by_cases c5 : x7_1.length < 17592186044416
        · rw [if_pos c5] at H
          have LMc5 := Aside0.mk c5
          clear c5
          obtain ⟨y149, hy149⟩ : ∃ y_ : List Int, y_ = (x7_1 ++ [wrap64 ((wrap64 ((wrap64 ((-1000000) * a0)) - x8_1)) - 7)]) := ⟨_, rfl⟩
          replace H : (emulsionbook_markInts.l0 k1 a0 a1 a2 y149 (wrap64 (x8_1 + 1))) = some r := by first | (rw [hy149]; with_reducible exact H) | (have H2_ := (Option.bind_some _ _).symm.trans H; rw [hy149]; with_reducible exact H2_) | (have H2_ := (Option.bind_some _ _).symm.trans H; with_reducible exact H2_) | with_reducible exact H | (rw [hy149]; exact H) | exact H
          have Ny149 := Aside0.mk hy149
          clear hy149
          have H' := Aside0.mk H
          clear H
          go_wp2_with (first | ((with_reducible refine gate_builtin (b := .append) (xs := #[.tmp 17, .tmp 23]) rfl ?_); at_builtin; refine Kd.R_append (Kd.int .i64) (w0 := w) w.heap.size rfl (.tmp 17) (.tmp 23) 118 3 (.int .i64 0) 8 rfl Try.underlying118 info3 rfl (by decide) (by omega) u7 x7_1 (wrap64 ((wrap64 ((wrap64 ((-1000000) * a0)) - x8_1)) - 7)) [.int .i64 (wrap64 ((wrap64 ((wrap64 ((-1000000) * a0)) - x8_1)) - 7))] (fun _ => True) (fun _ => False) rfl rfl ?aP (fun _ hk => hk.elim) ?aF ?aO ?aB ?aS ?aL ?_; (case aP => exact rfl); (case aB => exact (by repeat (first | (with_reducible first | exact HB.out | apply below_alloc | apply pw_below_drewN | apply below_drew1) | exact HB.out))); (case aF => exact (fun _ _ => trivial)); (case aO => exact (by (with_reducible repeat (first | apply Kd.R_alloc | apply Kd.R_drewN | apply Kd.R_drew)); exact HO_7.out)); (case aS => exact (below_size (by repeat (first | (with_reducible first | exact HB.out | apply below_alloc | apply pw_below_drewN | apply below_drew1) | exact HB.out)))); (case aL => have := LMc5.out; omega); intro v150 w6 ho hb hg hat; rw [← Ny149.out] at ho; have n0_ := Aside0.mk (hb); have n1_ := Aside0.mk (ho); clear HB; clear HO_7; have HB := n0_; have HO151 := n1_; clear n0_ n1_; clear ho hb hg hat))
          go_roundg k1
          case measure => have := HK1.out; omega
          case rel => exact ⟨(y149), (wrap64 (x8_1 + 1)), (by first | rfl | (simp; done) | (simp [*]; done)), H', ⟨by have := HK1.out; omega⟩, ⟨by (with_reducible repeat (first | apply Kd.R_alloc | apply Kd.R_drewN | apply Kd.R_drew)); exact HO151.out⟩, ⟨by repeat (first | (with_reducible first | exact HB.out | apply below_alloc | apply pw_below_drewN | apply below_drew1) | exact HB.out)⟩⟩
        · rw [if_neg c5] at H
          exact absurd H (by simp)
      · rw [if_neg c4] at H
        have c4b0 : decide (x8_1 < (wrap64 (a1 + a2))) = false := decide_eq_false c4
        clear c4
        obtain rfl := Option.some.inj H
        go_wp2
        go_ret
        exact ⟨_, by first | rfl | (simp [errW_none, errW_some] <;> rfl) | (simp [*, errW_none, errW_some] <;> rfl), by (with_reducible repeat (first | apply Kd.R_alloc | apply Kd.R_drewN | apply Kd.R_drew)); exact HO_7.out, by repeat (first | (with_reducible first | exact HB.out | apply below_alloc | apply pw_below_drewN | apply below_drew1) | exact HB.out)⟩
end Go.Proofs.Ytffemlfdhkndiaa.A
end
section
namespace Go.Proofs.Ytffemlfdhkndiaa.A
open Go.RowKit Go.Proofs.YtffemlfdhkndiaaW.PrintWords Go.Proofs.YtffemlfdhkndiaaW.PrintLast Go.Proofs.YtffemlfdhkndiaaW.PrintMore
attribute [local go_sem] max2_int min2_int max_two min_two max_three min_three max_four min_four   -- for this text's walks alone
set_option linter.unusedVariables false
set_option linter.unusedSimpArgs false
def emulsionbook_markedInts.l0 : Nat → List (List Int) → Int → Option (Bool)
  | 0, _, _ => none
  | k + 1, x0, x3 => if x3 < (x0.length : Int) then (if 0 ≤ x3 then ((emulsionbook_markInts.f k x3 0 ((rd_L5 x0 x3).length : Int)).bind fun t154 => ((emulsionbook_SameInts.f k (rd_L5 x0 x3) t154).bind fun t157 => (if t157 = true then (emulsionbook_markedInts.l0 k x0 (wrap64 (x3 + 1))) else (some false)))) else (none)) else (some true)
def emulsionbook_markedInts.f (k : Nat) (l0 : List (List Int)) : Option (Bool) := emulsionbook_markedInts.l0 k l0 0
theorem emulsionbook_markedInts.mono_l : ∀ k, (∀ y0 y1, LeO (emulsionbook_markedInts.l0 k y0 y1) (emulsionbook_markedInts.l0 (k + 1) y0 y1))
  | 0 => fun _ _ r h => by simp [emulsionbook_markedInts.l0] at h
  | k + 1 => by
    have ih0 := emulsionbook_markedInts.mono_l k
    · intro y0 y1
      unfold emulsionbook_markedInts.l0
      repeat' first
      | (with_reducible exact ih0 _ _)
      | (with_reducible exact emulsionbook_SameInts.mono _ _ _)
      | (with_reducible exact emulsionbook_markInts.mono _ _ _ _)
      | (with_reducible exact LeO.refl _)
      | (with_reducible exact LeO.none _)
      | (with_reducible refine LeO.ite ?_ ?_)
      | (with_reducible refine LeO.bind ?_ (fun _ => ?_))
      | exact ih0 _ _
      | exact emulsionbook_SameInts.mono _ _ _
      | exact emulsionbook_markInts.mono _ _ _ _
      | exact LeO.none _
      | refine LeO.ite ?_ ?_
      | refine LeO.bind ?_ (fun _ => ?_)
theorem emulsionbook_markedInts.mono : ∀ a0 k, LeO (emulsionbook_markedInts.f k a0) (emulsionbook_markedInts.f (k + 1) a0) := by
  intro a0 k
  have ih0 := emulsionbook_markedInts.mono_l k
  unfold emulsionbook_markedInts.f
  repeat' first
      | (with_reducible exact ih0 _ _)
      | (with_reducible exact emulsionbook_SameInts.mono _ _ _)
      | (with_reducible exact emulsionbook_markInts.mono _ _ _ _)
      | (with_reducible exact LeO.refl _)
      | (with_reducible exact LeO.none _)
      | (with_reducible refine LeO.ite ?_ ?_)
      | (with_reducible refine LeO.bind ?_ (fun _ => ?_))
      | exact ih0 _ _
      | exact emulsionbook_SameInts.mono _ _ _
      | exact emulsionbook_markInts.mono _ _ _ _
      | exact LeO.none _
      | refine LeO.ite ?_ ?_
      | refine LeO.bind ?_ (fun _ => ?_)
def emulsionbook_markedInts.T4 : Bool × List (List Nat × List Nat) := (true, [([], []), ([], []), ([0, 1], [0, 1]), ([2], [2]), ([], []), ([], []), ([], []), ([5, 6], [5, 6]), ([7], [7]), ([8], [8]), ([4, 9], [4, 9]), ([3, 10, 10], [3, 10]), ([11], [11])])
def emulsionbook_markedInts.B4 : List Nat := [0, 0, 3, 7, 0, 0, 0, 96, 224, 480, 1008, 2047, 4095]
theorem emulsionbook_markedInts.tab4 : rtab .any (opsOf Try.f80 4) = emulsionbook_markedInts.T4 := by kernel_rfl
theorem emulsionbook_markedInts.bits4 : waitsOk emulsionbook_markedInts.T4.2 emulsionbook_markedInts.B4 = true := by kernel_rfl
set_option maxHeartbeats 8000000 in
set_option maxRecDepth 100000 in
theorem emulsionbook_markedInts.calls (k : Nat) (A0 : Option Addr) (c0 : Nat) (l0 : List (List Int)) (r : Bool) (w : World) (hr0 : Kd.C (Kd.slice 3 (Kd.int .i64)) w A0 l0.length l0) (hc0 : l0.length ≤ c0) (h : emulsionbook_markedInts.f k l0 = some r) :
    Calls Try.prog 80 #[.slice A0 l0.length c0] w fun e w' => e = .returned (.bool r) ∧ Below w.heap.size w w' := by
  have HR0 := Aside0.mk hr0
  have HC0 := Aside0.mk hc0
  clear hr0 hc0
  have HB := Aside0.mk (Below.refl w.heap.size w)
  have H : (emulsionbook_markedInts.l0 k l0 0) = some r := h
  clear h
  have H' := Aside0.mk H
  clear H
  go_enter Try.func80, Try.ntmps80
  go_wp2
  go_loopg [3] k (fun kq v3 w' => ∃ (x3_1 : Int), v3 = .int .i64 x3_1 ∧ Aside0 (emulsionbook_markedInts.l0 kq l0 x3_1 = some r) ∧ Aside0 (kq ≤ k) ∧ Aside0 (Below w.heap.size w w'))
  case atStart => exact ⟨(0), (by first | rfl | (simp; done) | (simp [*]; done)), H', ⟨Nat.le_refl _⟩, ⟨by repeat (first | (with_reducible first | exact HB.out | apply below_alloc | apply pw_below_drewN | apply below_drew1) | exact HB.out)⟩⟩
  case round =>
    clear H'
    obtain ⟨x3_1, rfl, HA, HK1, HB⟩ := hrel
    cases gk with
    | zero => exact absurd HA.out (by simp [emulsionbook_markedInts.l0])
    | succ k1 =>
      have H := HA.out
      clear HA
      simp only [emulsionbook_markedInts.l0] at H
      by_cases c2 : x3_1 < (l0.length : Int)
      · rw [if_pos c2] at H
        have c2b0 : decide (x3_1 < (l0.length : Int)) = true := decide_eq_true c2
        clear c2
        by_cases c3 : 0 ≤ x3_1
        · rw [if_pos c3] at H
          have c3b0 : decide (0 ≤ x3_1) = true := decide_eq_true c3
          clear c3
          replace H := Option.bind_eq_some_iff.mp H
          obtain ⟨t154, A40, H⟩ := H
          replace H : ((emulsionbook_SameInts.f k1 (rd_L5 l0 x3_1) t154).bind fun t157 => (if t157 = true then (emulsionbook_markedInts.l0 k1 l0 (wrap64 (x3_1 + 1))) else (some false))) = some r := H
          have A4 := Aside0.mk A40
          clear A40
          replace H := Option.bind_eq_some_iff.mp H
          obtain ⟨t157, A50, H⟩ := H
          replace H : (if t157 = true then (emulsionbook_markedInts.l0 k1 l0 (wrap64 (x3_1 + 1))) else (some false)) = some r := H
          have A5 := Aside0.mk A50
          clear A50
          by_cases c6 : t157 = true
          · subst c6
            have H1 : (emulsionbook_markedInts.l0 k1 l0 (wrap64 (x3_1 + 1))) = some r := by rw [if_pos rfl] at H; exact H
            clear H
            have H := H1
            clear H1
            have H' := Aside0.mk H
            clear H
            try go_wp2
            have n0_ := Aside0.mk (below_drew1 HB.out)
            clear HB
            have HB := n0_
            clear n0_
            have p152 : 0 ≤ (x3_1 : Int) := of_decide_eq_true (by first | (with_reducible assumption) | assumption)
            have q152 : x3_1 < (l0.length : Int) := of_decide_eq_true (by first | (with_reducible assumption) | assumption)
            obtain ⟨ad152, A152_0, c152_0, e152, hx152_0, hl152_0, hi152_0⟩ := at_L5 HR0.out x3_1 p152 q152
            have hw152_0 := hx152_0
            cases e152
            replace hx152_0 := (HB.out.cell (World.block_lt_of_cell? w _ hx152_0)).trans hx152_0
            have HR152_0 := Aside0.mk hi152_0
            have HC152_0 := Aside0.mk hl152_0
            clear hi152_0 hl152_0
            replace p152 := eq_true p152
            replace q152 := eq_true q152
            have p153 : 0 ≤ (x3_1 : Int) := of_decide_eq_true (by first | (with_reducible assumption) | assumption)
            have q153 : x3_1 < (l0.length : Int) := of_decide_eq_true (by first | (with_reducible assumption) | assumption)
            obtain ⟨ad153, A153_0, c153_0, e153, hx153_0, hl153_0, hi153_0⟩ := at_L5 HR0.out x3_1 p153 q153
            have hw153_0 := hx153_0
            obtain rfl : ad152 = ad153 := (by injection e153)
            replace hx153_0 := (HB.out.cell (World.block_lt_of_cell? w _ hx153_0)).trans hx153_0
            have HR153_0 := Aside0.mk hi153_0
            have HC153_0 := Aside0.mk hl153_0
            clear hi153_0 hl153_0
            replace p153 := eq_true p153
            replace q153 := eq_true q153
            have ea_ := Option.some.inj (hx152_0.symm.trans hx153_0)
            injection ea_ with ea_ en_ ec_
            subst ea_
            subst ec_
            clear en_
            refine start_ (n := 13) (S := fun w' => w'.cell? (ad152.add (x3_1).toNat) = some (.slice A152_0 (rd_L5 l0 x3_1).length c152_0) ∧ w'.cell? (ad152.add (x3_1).toNat) = some (.slice A152_0 (rd_L5 l0 x3_1).length c152_0)) (ds := []) #[false, false, false, false, false, false, false, false, false, false, false, false, false] (by kernel_rfl) rfl rfl ⟨((HB.out.cell (World.block_lt_of_cell? w _ hw152_0)).trans hw152_0), ((HB.out.cell (World.block_lt_of_cell? w _ hw153_0)).trans hw153_0)⟩ (fun hHeld => ?_); refine with_tabW emulsionbook_markedInts.tab4 emulsionbook_markedInts.bits4 (fun HT_ HW_ => ?_)
            generalize wr.drew = w7 at HB HR152_0 HR153_0 hx152_0 hx153_0 hHeld ⊢
            refine pure_ (i := 0) (N := some 10) (v := ?_) (a' := ?_) #[true, false, false, false, false, false, false, false, false, false, false, false, false] rfl rfl (any_of HT_.out (by kernel_rfl)) (fun _ _ _ h => h) (Or.inl ⟨by rfl, ?_⟩) ?_ ?_
            rotate_left
            · intro w'
              go_simp
              with_reducible rfl
            rotate_left
            · simp only [Act.put, List.setIfInBounds_toArray, List.set_cons_zero, List.set_cons_succ, i64_w, i32_w]
              rfl
            refine pure_ (i := 1) (N := some 11) (v := ?_) (a' := ?_) #[true, true, false, false, false, false, false, false, false, false, false, false, false] rfl rfl (any_of HT_.out (by kernel_rfl)) (fun _ _ _ h => h) (Or.inl ⟨by rfl, ?_⟩) ?_ ?_
            rotate_left
            · intro w'
              go_simp
              with_reducible rfl
            rotate_left
            · simp only [Act.put, List.setIfInBounds_toArray, List.set_cons_zero, List.set_cons_succ, i64_w, i32_w]
              rfl
            refine pure_ (i := 2) (N := some 12) (v := ?_) (a' := ?_) #[true, true, true, false, false, false, false, false, false, false, false, false, false] rfl rfl (any_of HT_.out (by kernel_rfl)) (fun _ _ _ h => h) (Or.inl ⟨by rfl, ?_⟩) ?_ ?_
            rotate_left
            · intro w'
              go_simp
              with_reducible rfl
            rotate_left
            · simp only [Act.put, List.setIfInBounds_toArray, List.set_cons_zero, List.set_cons_succ, i64_w, i32_w]
              rfl
            refine pure_ (i := 4) (N := some 14) (v := ?_) (a' := ?_) #[true, true, true, false, true, false, false, false, false, false, false, false, false] rfl rfl (any_of HT_.out (by kernel_rfl)) (fun _ _ _ h => h) (Or.inl ⟨by rfl, ?_⟩) ?_ ?_
            rotate_left
            · intro w'
              go_simp
              with_reducible rfl
            rotate_left
            · simp only [Act.put, List.setIfInBounds_toArray, List.set_cons_zero, List.set_cons_succ, i64_w, i32_w]
              rfl
            refine pure_ (i := 5) (N := some 15) (v := ?_) (a' := ?_) #[true, true, true, false, true, true, false, false, false, false, false, false, false] rfl rfl (any_of HT_.out (by kernel_rfl)) (fun _ _ _ h => h) (Or.inl ⟨by rfl, ?_⟩) ?_ ?_
            rotate_left
            · intro w'
              go_simp
              with_reducible rfl
            rotate_left
            · simp only [Act.put, List.setIfInBounds_toArray, List.set_cons_zero, List.set_cons_succ, i64_w, i32_w]
              rfl
            refine pure_ (i := 6) (N := some 16) (v := ?_) (a' := ?_) #[true, true, true, false, true, true, true, false, false, false, false, false, false] rfl rfl (any_of HT_.out (by kernel_rfl)) (fun _ _ _ h => h) (Or.inl ⟨by rfl, ?_⟩) ?_ ?_
            rotate_left
            · intro w'
              go_simp
              with_reducible rfl
            rotate_left
            · simp only [Act.put, List.setIfInBounds_toArray, List.set_cons_zero, List.set_cons_succ, i64_w, i32_w]
              rfl
            refine pure_ (i := 7) (N := some 17) (v := ?_) (a' := ?_) #[true, true, true, false, true, true, true, true, false, false, false, false, false] rfl rfl (any_of HT_.out (by kernel_rfl)) (fun _ _ _ h => h) (Or.inl ⟨by rfl, ?_⟩) ?_ ?_
            rotate_left
            · intro w'
              go_simp
              with_reducible rfl
            rotate_left
            · simp only [Act.put, List.setIfInBounds_toArray, List.set_cons_zero, List.set_cons_succ, i64_w, i32_w]
              rfl
            refine take_ (i := 3) (N := some 13) (v := ?_) (a' := ?_) #[true, true, true, true, true, true, true, true, false, false, false, false, false] rfl rfl (take_ofW HT_.out HW_.out (by kernel_rfl)) (fun _ _ _ h => h) (Or.inl ⟨by rfl, ?_⟩) hHeld ?_ ?_
            rotate_left
            · rintro w' ⟨s0, s1⟩
              go_simp
              with_reducible rfl
            rotate_left
            · simp only [Act.put, List.setIfInBounds_toArray, List.set_cons_zero, List.set_cons_succ, i64_w, i32_w]
              rfl
            refine take_ (i := 8) (N := some 18) (v := ?_) (a' := ?_) #[true, true, true, true, true, true, true, true, true, false, false, false, false] rfl rfl (take_ofW HT_.out HW_.out (by kernel_rfl)) (fun _ _ _ h => h) (Or.inl ⟨by rfl, ?_⟩) hHeld ?_ ?_
            rotate_left
            · rintro w' ⟨s0, s1⟩
              go_simp
              with_reducible rfl
            rotate_left
            · simp only [Act.put, List.setIfInBounds_toArray, List.set_cons_zero, List.set_cons_succ, i64_w, i32_w]
              rfl
            refine pure_ (i := 9) (N := some 19) (v := ?_) (a' := ?_) #[true, true, true, true, true, true, true, true, true, true, false, false, false] rfl rfl (any_of HT_.out (by kernel_rfl)) (fun _ _ _ h => h) (Or.inl ⟨by rfl, ?_⟩) ?_ ?_
            rotate_left
            · intro w'
              go_simp
              with_reducible rfl
            rotate_left
            · simp only [Act.put, List.setIfInBounds_toArray, List.set_cons_zero, List.set_cons_succ, i64_w, i32_w]
              rfl
            refine one_ (i := 10) (N := some 20) #[true, true, true, true, true, true, true, true, true, true, true, false, false] rfl rfl (one_of HT_.out (by kernel_rfl)) (by decide) (fun K hK => ?_)
            refine goes_ Try.func105 (by kernel_rfl) rfl #[.int .i64 x3_1, .int .i64 0, .int .i64 ((rd_L5 l0 x3_1).length : Int)] (by rfl) rfl rfl (by (try simp only [List.map_toArray, List.map_cons, List.map_nil]); first | done | rfl | (simp only [List.length_drop, List.length_take]; rfl)) ?_
            with_reducible refine (emulsionbook_markInts.calls k1 x3_1 0 ((rd_L5 l0 x3_1).length : Int) t154 _ A4.out).mono ?_
            rintro e w8 ⟨v155, rfl, ho0, hb⟩
            refine ⟨_, rfl, ?_⟩
            have n0_ := Aside0.mk (Kd.R_lower ho0 (below_size (by repeat (first | (with_reducible first | exact HB.out | apply below_alloc | apply pw_below_drewN | apply below_drew1) | exact HB.out))))
            have n1_ := Aside0.mk (below_step (by repeat (first | (with_reducible first | exact HB.out | apply below_alloc | apply pw_below_drewN | apply below_drew1) | exact HB.out)) hb)
            clear HB
            have HO156 := n0_
            have HB := n1_
            clear n0_ n1_
            (try clear hb)
            (try clear hb2)
            (try clear hk)
            (try clear hi)
            (try clear ho0)
            obtain ⟨Ao9, co9, eo9⟩ := Kd.R_slice HO156.out
            (first | subst eo9 | (injection eo9 with f1_ f2_ f3_; have f4_ := f1_.symm; have f5_ := f3_.symm; clear f1_ f2_ f3_; subst f4_; subst f5_))
            refine hK.out _ _ ⟨((HB.out.cell (World.block_lt_of_cell? w _ hw152_0)).trans hw152_0), ((HB.out.cell (World.block_lt_of_cell? w _ hw153_0)).trans hw153_0)⟩ (fun hHeld => ?_)
            clear hK K
            refine norm_ (a' := ?_) ?_ ?_
            rotate_left
            · show Act.put _ (some 20) _ = _
              simp only [Act.put, List.setIfInBounds_toArray, List.set_cons_zero, List.set_cons_succ, i64_w, i32_w]
              rfl
            refine one_ (i := 11) (N := some 21) #[true, true, true, true, true, true, true, true, true, true, true, true, false] rfl rfl (one_of HT_.out (by kernel_rfl)) (by decide) (fun K hK => ?_)
            refine goes_ Try.func98 (by kernel_rfl) rfl #[.slice A152_0 (rd_L5 l0 x3_1).length c152_0, .slice Ao9 t154.length co9] (by rfl) rfl rfl (by (try simp only [List.map_toArray, List.map_cons, List.map_nil]); first | done | rfl | (simp only [List.length_drop, List.length_take]; rfl)) ?_
            with_reducible refine (emulsionbook_SameInts.calls k1 _ _ (rd_L5 l0 x3_1) _ _ t154 true _ ?side1 ?side2 ?side3 ?side4 A5.out).mono ?_
            (case side1 => repeat (first | exact (Kd.C_below HR152_0.out HB.out) | (with_reducible refine Kd.C_alloc ?_ _) | (with_reducible refine Kd.C_drewN ?_ _) | (with_reducible refine Kd.C_drew ?_)))
            (case side2 => exact HC152_0.out)
            (case side3 => repeat (first | exact (Kd.R_reads' HO156.out).2.2 | (with_reducible refine Kd.C_alloc ?_ _) | (with_reducible refine Kd.C_drewN ?_ _) | (with_reducible refine Kd.C_drew ?_)))
            (case side4 => exact (Kd.R_reads' HO156.out).2.1)
            rintro e w' ⟨rfl, ⟨nd, rfl⟩⟩
            refine ⟨_, rfl, ?_⟩
            refine hK.out _ _ ⟨((HB.out.cell (World.block_lt_of_cell? w _ hw152_0)).trans hw152_0), ((HB.out.cell (World.block_lt_of_cell? w _ hw153_0)).trans hw153_0)⟩ (fun hHeld => ?_)
            clear hK K
            refine norm_ (a' := ?_) ?_ ?_
            rotate_left
            · show Act.put _ (some 21) _ = _
              simp only [Act.put, List.setIfInBounds_toArray, List.set_cons_zero, List.set_cons_succ, i64_w, i32_w]
              rfl
            refine pure_ (i := 12) (N := some 22) (v := ?_) (a' := ?_) #[true, true, true, true, true, true, true, true, true, true, true, true, true] rfl rfl (any_of HT_.out (by kernel_rfl)) (fun _ _ _ h => h) (Or.inl ⟨by rfl, ?_⟩) ?_ ?_
            rotate_left
            · intro w'
              go_simp
              with_reducible rfl
            rotate_left
            · simp only [Act.put, List.setIfInBounds_toArray, List.set_cons_zero, List.set_cons_succ, i64_w, i32_w]
              rfl
            refine done_ (done_of HT_.out (by kernel_rfl)) ?_
            try go_wp2
            go_roundg k1
            case measure => have := HK1.out; omega
            case rel => exact ⟨(wrap64 (x3_1 + 1)), (by first | rfl | (simp; done) | (simp [*]; done)), H', ⟨by have := HK1.out; omega⟩, ⟨by repeat (first | (with_reducible first | exact HB.out | apply below_alloc | apply pw_below_drewN | apply below_drew1) | exact HB.out)⟩⟩
          · replace c6 := Bool.eq_false_iff.mpr c6
            subst c6
            have H1 : (some false) = some r := by rw [if_neg (show ¬ (false = true) by decide)] at H; exact H
            clear H
            have H := H1
            clear H1
            obtain rfl := Option.some.inj H
            try go_wp2
            have n0_ := Aside0.mk (below_drew1 HB.out)
            clear HB
            have HB := n0_
            clear n0_
            have p152 : 0 ≤ (x3_1 : Int) := of_decide_eq_true (by first | (with_reducible assumption) | assumption)
            have q152 : x3_1 < (l0.length : Int) := of_decide_eq_true (by first | (with_reducible assumption) | assumption)
            obtain ⟨ad152, A152_0, c152_0, e152, hx152_0, hl152_0, hi152_0⟩ := at_L5 HR0.out x3_1 p152 q152
            have hw152_0 := hx152_0
            cases e152
            replace hx152_0 := (HB.out.cell (World.block_lt_of_cell? w _ hx152_0)).trans hx152_0
            have HR152_0 := Aside0.mk hi152_0
            have HC152_0 := Aside0.mk hl152_0
            clear hi152_0 hl152_0
            replace p152 := eq_true p152
            replace q152 := eq_true q152
            have p153 : 0 ≤ (x3_1 : Int) := of_decide_eq_true (by first | (with_reducible assumption) | assumption)
            have q153 : x3_1 < (l0.length : Int) := of_decide_eq_true (by first | (with_reducible assumption) | assumption)
            obtain ⟨ad153, A153_0, c153_0, e153, hx153_0, hl153_0, hi153_0⟩ := at_L5 HR0.out x3_1 p153 q153
            have hw153_0 := hx153_0
            obtain rfl : ad152 = ad153 := (by injection e153)
            replace hx153_0 := (HB.out.cell (World.block_lt_of_cell? w _ hx153_0)).trans hx153_0
            have HR153_0 := Aside0.mk hi153_0
            have HC153_0 := Aside0.mk hl153_0
            clear hi153_0 hl153_0
            replace p153 := eq_true p153
            replace q153 := eq_true q153
            have ea_ := Option.some.inj (hx152_0.symm.trans hx153_0)
            injection ea_ with ea_ en_ ec_
            subst ea_
            subst ec_
            clear en_
            refine start_ (n := 13) (S := fun w' => w'.cell? (ad152.add (x3_1).toNat) = some (.slice A152_0 (rd_L5 l0 x3_1).length c152_0) ∧ w'.cell? (ad152.add (x3_1).toNat) = some (.slice A152_0 (rd_L5 l0 x3_1).length c152_0)) (ds := []) #[false, false, false, false, false, false, false, false, false, false, false, false, false] (by kernel_rfl) rfl rfl ⟨((HB.out.cell (World.block_lt_of_cell? w _ hw152_0)).trans hw152_0), ((HB.out.cell (World.block_lt_of_cell? w _ hw153_0)).trans hw153_0)⟩ (fun hHeld => ?_); refine with_tabW emulsionbook_markedInts.tab4 emulsionbook_markedInts.bits4 (fun HT_ HW_ => ?_)
            generalize wr.drew = w10 at HB HR152_0 HR153_0 hx152_0 hx153_0 hHeld ⊢
            refine pure_ (i := 0) (N := some 10) (v := ?_) (a' := ?_) #[true, false, false, false, false, false, false, false, false, false, false, false, false] rfl rfl (any_of HT_.out (by kernel_rfl)) (fun _ _ _ h => h) (Or.inl ⟨by rfl, ?_⟩) ?_ ?_
            rotate_left
            · intro w'
              go_simp
              with_reducible rfl
            rotate_left
            · simp only [Act.put, List.setIfInBounds_toArray, List.set_cons_zero, List.set_cons_succ, i64_w, i32_w]
              rfl
            refine pure_ (i := 1) (N := some 11) (v := ?_) (a' := ?_) #[true, true, false, false, false, false, false, false, false, false, false, false, false] rfl rfl (any_of HT_.out (by kernel_rfl)) (fun _ _ _ h => h) (Or.inl ⟨by rfl, ?_⟩) ?_ ?_
            rotate_left
            · intro w'
              go_simp
              with_reducible rfl
            rotate_left
            · simp only [Act.put, List.setIfInBounds_toArray, List.set_cons_zero, List.set_cons_succ, i64_w, i32_w]
              rfl
            refine pure_ (i := 2) (N := some 12) (v := ?_) (a' := ?_) #[true, true, true, false, false, false, false, false, false, false, false, false, false] rfl rfl (any_of HT_.out (by kernel_rfl)) (fun _ _ _ h => h) (Or.inl ⟨by rfl, ?_⟩) ?_ ?_
            rotate_left
            · intro w'
              go_simp
              with_reducible rfl
            rotate_left
            · simp only [Act.put, List.setIfInBounds_toArray, List.set_cons_zero, List.set_cons_succ, i64_w, i32_w]
              rfl
            refine pure_ (i := 4) (N := some 14) (v := ?_) (a' := ?_) #[true, true, true, false, true, false, false, false, false, false, false, false, false] rfl rfl (any_of HT_.out (by kernel_rfl)) (fun _ _ _ h => h) (Or.inl ⟨by rfl, ?_⟩) ?_ ?_
            rotate_left
            · intro w'
              go_simp
              with_reducible rfl
            rotate_left
            · simp only [Act.put, List.setIfInBounds_toArray, List.set_cons_zero, List.set_cons_succ, i64_w, i32_w]
              rfl
            refine pure_ (i := 5) (N := some 15) (v := ?_) (a' := ?_) #[true, true, true, false, true, true, false, false, false, false, false, false, false] rfl rfl (any_of HT_.out (by kernel_rfl)) (fun _ _ _ h => h) (Or.inl ⟨by rfl, ?_⟩) ?_ ?_
            rotate_left
            · intro w'
              go_simp
              with_reducible rfl
            rotate_left
            · simp only [Act.put, List.setIfInBounds_toArray, List.set_cons_zero, List.set_cons_succ, i64_w, i32_w]
              rfl
            refine pure_ (i := 6) (N := some 16) (v := ?_) (a' := ?_) #[true, true, true, false, true, true, true, false, false, false, false, false, false] rfl rfl (any_of HT_.out (by kernel_rfl)) (fun _ _ _ h => h) (Or.inl ⟨by rfl, ?_⟩) ?_ ?_
            rotate_left
            · intro w'
              go_simp
              with_reducible rfl
            rotate_left
            · simp only [Act.put, List.setIfInBounds_toArray, List.set_cons_zero, List.set_cons_succ, i64_w, i32_w]
              rfl
            refine pure_ (i := 7) (N := some 17) (v := ?_) (a' := ?_) #[true, true, true, false, true, true, true, true, false, false, false, false, false] rfl rfl (any_of HT_.out (by kernel_rfl)) (fun _ _ _ h => h) (Or.inl ⟨by rfl, ?_⟩) ?_ ?_
            rotate_left
            · intro w'
              go_simp
              with_reducible rfl
            rotate_left
            · simp only [Act.put, List.setIfInBounds_toArray, List.set_cons_zero, List.set_cons_succ, i64_w, i32_w]
              rfl
            refine take_ (i := 3) (N := some 13) (v := ?_) (a' := ?_) #[true, true, true, true, true, true, true, true, false, false, false, false, false] rfl rfl (take_ofW HT_.out HW_.out (by kernel_rfl)) (fun _ _ _ h => h) (Or.inl ⟨by rfl, ?_⟩) hHeld ?_ ?_
            rotate_left
            · rintro w' ⟨s0, s1⟩
              go_simp
              with_reducible rfl
            rotate_left
            · simp only [Act.put, List.setIfInBounds_toArray, List.set_cons_zero, List.set_cons_succ, i64_w, i32_w]
              rfl
            refine take_ (i := 8) (N := some 18) (v := ?_) (a' := ?_) #[true, true, true, true, true, true, true, true, true, false, false, false, false] rfl rfl (take_ofW HT_.out HW_.out (by kernel_rfl)) (fun _ _ _ h => h) (Or.inl ⟨by rfl, ?_⟩) hHeld ?_ ?_
            rotate_left
            · rintro w' ⟨s0, s1⟩
              go_simp
              with_reducible rfl
            rotate_left
            · simp only [Act.put, List.setIfInBounds_toArray, List.set_cons_zero, List.set_cons_succ, i64_w, i32_w]
              rfl
            refine pure_ (i := 9) (N := some 19) (v := ?_) (a' := ?_) #[true, true, true, true, true, true, true, true, true, true, false, false, false] rfl rfl (any_of HT_.out (by kernel_rfl)) (fun _ _ _ h => h) (Or.inl ⟨by rfl, ?_⟩) ?_ ?_
            rotate_left
            · intro w'
              go_simp
              with_reducible rfl
            rotate_left
            · simp only [Act.put, List.setIfInBounds_toArray, List.set_cons_zero, List.set_cons_succ, i64_w, i32_w]
              rfl
            refine one_ (i := 10) (N := some 20) #[true, true, true, true, true, true, true, true, true, true, true, false, false] rfl rfl (one_of HT_.out (by kernel_rfl)) (by decide) (fun K hK => ?_)
            refine goes_ Try.func105 (by kernel_rfl) rfl #[.int .i64 x3_1, .int .i64 0, .int .i64 ((rd_L5 l0 x3_1).length : Int)] (by rfl) rfl rfl (by (try simp only [List.map_toArray, List.map_cons, List.map_nil]); first | done | rfl | (simp only [List.length_drop, List.length_take]; rfl)) ?_
            with_reducible refine (emulsionbook_markInts.calls k1 x3_1 0 ((rd_L5 l0 x3_1).length : Int) t154 _ A4.out).mono ?_
            rintro e w11 ⟨v155, rfl, ho0, hb⟩
            refine ⟨_, rfl, ?_⟩
            have n0_ := Aside0.mk (Kd.R_lower ho0 (below_size (by repeat (first | (with_reducible first | exact HB.out | apply below_alloc | apply pw_below_drewN | apply below_drew1) | exact HB.out))))
            have n1_ := Aside0.mk (below_step (by repeat (first | (with_reducible first | exact HB.out | apply below_alloc | apply pw_below_drewN | apply below_drew1) | exact HB.out)) hb)
            clear HB
            have HO156 := n0_
            have HB := n1_
            clear n0_ n1_
            (try clear hb)
            (try clear hb2)
            (try clear hk)
            (try clear hi)
            (try clear ho0)
            obtain ⟨Ao12, co12, eo12⟩ := Kd.R_slice HO156.out
            (first | subst eo12 | (injection eo12 with f1_ f2_ f3_; have f4_ := f1_.symm; have f5_ := f3_.symm; clear f1_ f2_ f3_; subst f4_; subst f5_))
            refine hK.out _ _ ⟨((HB.out.cell (World.block_lt_of_cell? w _ hw152_0)).trans hw152_0), ((HB.out.cell (World.block_lt_of_cell? w _ hw153_0)).trans hw153_0)⟩ (fun hHeld => ?_)
            clear hK K
            refine norm_ (a' := ?_) ?_ ?_
            rotate_left
            · show Act.put _ (some 20) _ = _
              simp only [Act.put, List.setIfInBounds_toArray, List.set_cons_zero, List.set_cons_succ, i64_w, i32_w]
              rfl
            refine one_ (i := 11) (N := some 21) #[true, true, true, true, true, true, true, true, true, true, true, true, false] rfl rfl (one_of HT_.out (by kernel_rfl)) (by decide) (fun K hK => ?_)
            refine goes_ Try.func98 (by kernel_rfl) rfl #[.slice A152_0 (rd_L5 l0 x3_1).length c152_0, .slice Ao12 t154.length co12] (by rfl) rfl rfl (by (try simp only [List.map_toArray, List.map_cons, List.map_nil]); first | done | rfl | (simp only [List.length_drop, List.length_take]; rfl)) ?_
            with_reducible refine (emulsionbook_SameInts.calls k1 _ _ (rd_L5 l0 x3_1) _ _ t154 false _ ?side1 ?side2 ?side3 ?side4 A5.out).mono ?_
            (case side1 => repeat (first | exact (Kd.C_below HR152_0.out HB.out) | (with_reducible refine Kd.C_alloc ?_ _) | (with_reducible refine Kd.C_drewN ?_ _) | (with_reducible refine Kd.C_drew ?_)))
            (case side2 => exact HC152_0.out)
            (case side3 => repeat (first | exact (Kd.R_reads' HO156.out).2.2 | (with_reducible refine Kd.C_alloc ?_ _) | (with_reducible refine Kd.C_drewN ?_ _) | (with_reducible refine Kd.C_drew ?_)))
            (case side4 => exact (Kd.R_reads' HO156.out).2.1)
            rintro e w' ⟨rfl, ⟨nd, rfl⟩⟩
            refine ⟨_, rfl, ?_⟩
            refine hK.out _ _ ⟨((HB.out.cell (World.block_lt_of_cell? w _ hw152_0)).trans hw152_0), ((HB.out.cell (World.block_lt_of_cell? w _ hw153_0)).trans hw153_0)⟩ (fun hHeld => ?_)
            clear hK K
            refine norm_ (a' := ?_) ?_ ?_
            rotate_left
            · show Act.put _ (some 21) _ = _
              simp only [Act.put, List.setIfInBounds_toArray, List.set_cons_zero, List.set_cons_succ, i64_w, i32_w]
              rfl
            refine pure_ (i := 12) (N := some 22) (v := ?_) (a' := ?_) #[true, true, true, true, true, true, true, true, true, true, true, true, true] rfl rfl (any_of HT_.out (by kernel_rfl)) (fun _ _ _ h => h) (Or.inl ⟨by rfl, ?_⟩) ?_ ?_
            rotate_left
            · intro w'
              go_simp
              with_reducible rfl
            rotate_left
            · simp only [Act.put, List.setIfInBounds_toArray, List.set_cons_zero, List.set_cons_succ, i64_w, i32_w]
              rfl
            refine done_ (done_of HT_.out (by kernel_rfl)) ?_
            try go_wp2
            go_ret
            exact ⟨by first | rfl | (simp [errW_none, errW_some] <;> rfl) | (simp [*, errW_none, errW_some] <;> rfl), by repeat (first | (with_reducible first | exact HB.out | apply below_alloc | apply pw_below_drewN | apply below_drew1) | exact HB.out)⟩
        · rw [if_neg c3] at H
          exact absurd H (by simp)
      · rw [if_neg c2] at H
        have c2b0 : decide (x3_1 < (l0.length : Int)) = false := decide_eq_false c2
        clear c2
        obtain rfl := Option.some.inj H
        go_wp2
        go_ret
        exact ⟨by first | rfl | (simp [errW_none, errW_some] <;> rfl) | (simp [*, errW_none, errW_some] <;> rfl), by repeat (first | (with_reducible first | exact HB.out | apply below_alloc | apply pw_below_drewN | apply below_drew1) | exact HB.out)⟩
end Go.Proofs.Ytffemlfdhkndiaa.A
end
section
namespace Go.Proofs.Ytffemlfdhkndiaa.A
open Go.RowKit Go.Proofs.YtffemlfdhkndiaaW.PrintWords Go.Proofs.YtffemlfdhkndiaaW.PrintLast Go.Proofs.YtffemlfdhkndiaaW.PrintMore
attribute [local go_sem] max2_int min2_int max_two min_two max_three min_three max_four min_four   -- for this text's walks alone
set_option linter.unusedVariables false
set_option linter.unusedSimpArgs false
def emulsionbook_markSpans.l0 : Nat → Int → Int → Int → List (S31) → Int → Option ((List (S31)))
  | 0, _, _, _, _, _ => none
  | k + 1, x0, x1, x2, x7, x8 => if x8 < (wrap64 (x1 + x2)) then (if x7.length < 8796093022208 then (emulsionbook_markSpans.l0 k x0 x1 x2 (x7 ++ [(⟨wrap64 ((wrap64 ((wrap64 ((-1000) * x0)) - x8)) - 1), 0⟩ : S31)]) (wrap64 (x8 + 1))) else (none)) else (some x7)
def emulsionbook_markSpans.f (k : Nat) (a0 : Int) (a1 : Int) (a2 : Int) : Option ((List (S31))) := emulsionbook_markSpans.l0 k a0 a1 a2 ([] : List (S31)) a1
theorem emulsionbook_markSpans.mono_l : ∀ k, (∀ y0 y1 y2 y3 y4, LeO (emulsionbook_markSpans.l0 k y0 y1 y2 y3 y4) (emulsionbook_markSpans.l0 (k + 1) y0 y1 y2 y3 y4))
  | 0 => fun _ _ _ _ _ r h => by simp [emulsionbook_markSpans.l0] at h
  | k + 1 => by
    have ih0 := emulsionbook_markSpans.mono_l k
    · intro y0 y1 y2 y3 y4
      unfold emulsionbook_markSpans.l0
      repeat' first
      | (with_reducible exact ih0 _ _ _ _ _)
      | (with_reducible exact LeO.refl _)
      | (with_reducible exact LeO.none _)
      | (with_reducible refine LeO.ite ?_ ?_)
      | (with_reducible refine LeO.bind ?_ (fun _ => ?_))
      | exact ih0 _ _ _ _ _
      | exact LeO.none _
      | refine LeO.ite ?_ ?_
      | refine LeO.bind ?_ (fun _ => ?_)
theorem emulsionbook_markSpans.mono : ∀ a0 a1 a2 k, LeO (emulsionbook_markSpans.f k a0 a1 a2) (emulsionbook_markSpans.f (k + 1) a0 a1 a2) := by
  intro a0 a1 a2 k
  have ih0 := emulsionbook_markSpans.mono_l k
  unfold emulsionbook_markSpans.f
  repeat' first
      | (with_reducible exact ih0 _ _ _ _ _)
      | (with_reducible exact LeO.refl _)
      | (with_reducible exact LeO.none _)
      | (with_reducible refine LeO.ite ?_ ?_)
      | (with_reducible refine LeO.bind ?_ (fun _ => ?_))
      | exact ih0 _ _ _ _ _
      | exact LeO.none _
      | refine LeO.ite ?_ ?_
      | refine LeO.bind ?_ (fun _ => ?_)
set_option maxHeartbeats 8000000 in
set_option maxRecDepth 100000 in
theorem emulsionbook_markSpans.calls (k : Nat) (a0 : Int) (a1 : Int) (a2 : Int) (r : List (S31)) (w : World) (h : emulsionbook_markSpans.f k a0 a1 a2 = some r) :
    Calls Try.prog 106 #[.int .i64 a0, .int .i64 a1, .int .i64 a2] w fun e w' => ∃ v0_ : Value, e = .returned (v0_) ∧ Kd.R k31 31 w' w.heap.size (fun _ => True) v0_ r ∧ Below w.heap.size w w' := by
  have hu31 := Try.underlying31
  have HB := Aside0.mk (Below.refl w.heap.size w)
  have H : (emulsionbook_markSpans.l0 k a0 a1 a2 ([] : List (S31)) a1) = some r := h
  clear h
  have H' := Aside0.mk H
  clear H
  go_enter Try.func106, Try.ntmps106
  go_wp2
  go_loopg [7, 8] k (fun kq v7 v8 w' => ∃ (x7_1 : List (S31)) (x8_1 : Int), v8 = .int .i64 x8_1 ∧ Aside0 (emulsionbook_markSpans.l0 kq a0 a1 a2 x7_1 x8_1 = some r) ∧ Aside0 (kq ≤ k) ∧ Aside0 (Kd.R k31 31 w' w.heap.size (fun _ => True) v7 x7_1) ∧ Aside0 (Below w.heap.size w w'))
  case atStart => exact ⟨(([] : List (S31))), (a1), (by first | rfl | (simp; done) | (simp [*]; done)), H', ⟨Nat.le_refl _⟩, ⟨by first | exact Kd.R_nil _ _ _ _ _ | exact Kd.N_nil _ _ _ _ _ | exact Kd.V_nil _ _ _ _ _ | exact Kd.Q_nil _ _ _ _ _ | exact Kd.S_nil _ _ _ _ _⟩, ⟨by repeat (first | (with_reducible first | exact HB.out | apply below_alloc | apply pw_below_drewN | apply below_drew1) | exact HB.out)⟩⟩
  case round =>
    clear H'
    try clear c1
    try clear p2
    obtain ⟨x7_1, x8_1, rfl, HA, HK1, HO_7, HB⟩ := hrel
    cases gk with
    | zero => exact absurd HA.out (by simp [emulsionbook_markSpans.l0])
    | succ k1 =>
      have H := HA.out
      clear HA
      simp only [emulsionbook_markSpans.l0] at H
      by_cases c4 : x8_1 < (wrap64 (a1 + a2))
      · rw [if_pos c4] at H
        have c4b0 : decide (x8_1 < (wrap64 (a1 + a2))) = true := decide_eq_true c4
        clear c4
        by_cases c5 : x7_1.length < 8796093022208
        · rw [if_pos c5] at H
          have LMc5 := Aside0.mk c5
          clear c5
          obtain ⟨y158, hy158⟩ : ∃ y_ : List (S31), y_ = (x7_1 ++ [(⟨wrap64 ((wrap64 ((wrap64 ((-1000) * a0)) - x8_1)) - 1), 0⟩ : S31)]) := ⟨_, rfl⟩
          replace H : (emulsionbook_markSpans.l0 k1 a0 a1 a2 y158 (wrap64 (x8_1 + 1))) = some r := by first | (rw [hy158]; with_reducible exact H) | (have H2_ := (Option.bind_some _ _).symm.trans H; rw [hy158]; with_reducible exact H2_) | (have H2_ := (Option.bind_some _ _).symm.trans H; with_reducible exact H2_) | with_reducible exact H | (rw [hy158]; exact H) | exact H
          have Ny158 := Aside0.mk hy158
          clear hy158
          have H' := Aside0.mk H
          clear H
          go_wp2_with (first | ((with_reducible refine gate_builtin (b := .append) (xs := #[.tmp 17, .tmp 24]) rfl ?_); at_builtin; refine Kd.R_append k31 (w0 := w) w.heap.size rfl (.tmp 17) (.tmp 24) 22 31 (.agg #[(.int .i64 0), (.int .i64 0)]) 16 rfl Try.underlying22 info31 rfl (by decide) (by omega) u7 x7_1 (⟨wrap64 ((wrap64 ((wrap64 ((-1000) * a0)) - x8_1)) - 1), 0⟩ : S31) [.int .i64 (wrap64 ((wrap64 ((wrap64 ((-1000) * a0)) - x8_1)) - 1)), .int .i64 0] (fun _ => True) (fun _ => False) rfl rfl ?aP (fun _ hk => hk.elim) ?aF ?aO ?aB ?aS ?aL ?_; (case aP => exact k31_mkM _ _ _ (⟨wrap64 ((wrap64 ((wrap64 ((-1000) * a0)) - x8_1)) - 1), 0⟩ : S31)); (case aB => exact (by repeat (first | (with_reducible first | exact HB.out | apply below_alloc | apply pw_below_drewN | apply below_drew1) | exact HB.out))); (case aF => exact (fun _ _ => trivial)); (case aO => exact (by (with_reducible repeat (first | apply Kd.R_alloc | apply Kd.R_drewN | apply Kd.R_drew)); exact HO_7.out)); (case aS => exact (below_size (by repeat (first | (with_reducible first | exact HB.out | apply below_alloc | apply pw_below_drewN | apply below_drew1) | exact HB.out)))); (case aL => have := LMc5.out; omega); intro v159 w6 ho hb hg hat; rw [← Ny158.out] at ho; have n0_ := Aside0.mk (hb); have n1_ := Aside0.mk (ho); clear HB; clear HO_7; have HB := n0_; have HO160 := n1_; clear n0_ n1_; clear ho hb hg hat))
          go_roundg k1
          case measure => have := HK1.out; omega
          case rel => exact ⟨(y158), (wrap64 (x8_1 + 1)), (by first | rfl | (simp; done) | (simp [*]; done)), H', ⟨by have := HK1.out; omega⟩, ⟨by (with_reducible repeat (first | apply Kd.R_alloc | apply Kd.R_drewN | apply Kd.R_drew)); exact HO160.out⟩, ⟨by repeat (first | (with_reducible first | exact HB.out | apply below_alloc | apply pw_below_drewN | apply below_drew1) | exact HB.out)⟩⟩
        · rw [if_neg c5] at H
          exact absurd H (by simp)
      · rw [if_neg c4] at H
        have c4b0 : decide (x8_1 < (wrap64 (a1 + a2))) = false := decide_eq_false c4
        clear c4
        obtain rfl := Option.some.inj H
        go_wp2
        go_ret
        exact ⟨_, by first | rfl | (simp [errW_none, errW_some] <;> rfl) | (simp [*, errW_none, errW_some] <;> rfl), by (with_reducible repeat (first | apply Kd.R_alloc | apply Kd.R_drewN | apply Kd.R_drew)); exact HO_7.out, by repeat (first | (with_reducible first | exact HB.out | apply below_alloc | apply pw_below_drewN | apply below_drew1) | exact HB.out)⟩
end Go.Proofs.Ytffemlfdhkndiaa.A
end
section
namespace Go.Proofs.Ytffemlfdhkndiaa.A
open Go.RowKit Go.Proofs.YtffemlfdhkndiaaW.PrintWords Go.Proofs.YtffemlfdhkndiaaW.PrintLast Go.Proofs.YtffemlfdhkndiaaW.PrintMore
attribute [local go_sem] max2_int min2_int max_two min_two max_three min_three max_four min_four   -- for this text's walks alone
set_option linter.unusedVariables false
set_option linter.unusedSimpArgs false
def emulsionbook_markedSpans.l0 : Nat → List (List (S31)) → Int → Option (Bool)
  | 0, _, _ => none
  | k + 1, x0, x3 => if x3 < (x0.length : Int) then (if 0 ≤ x3 then ((emulsionbook_markSpans.f k x3 0 ((rd_L6 x0 x3).length : Int)).bind fun t163 => ((emulsionbook_SameSpans.f k (rd_L6 x0 x3) t163).bind fun t166 => (if t166 = true then (emulsionbook_markedSpans.l0 k x0 (wrap64 (x3 + 1))) else (some false)))) else (none)) else (some true)
def emulsionbook_markedSpans.f (k : Nat) (l0 : List (List (S31))) : Option (Bool) := emulsionbook_markedSpans.l0 k l0 0
theorem emulsionbook_markedSpans.mono_l : ∀ k, (∀ y0 y1, LeO (emulsionbook_markedSpans.l0 k y0 y1) (emulsionbook_markedSpans.l0 (k + 1) y0 y1))
  | 0 => fun _ _ r h => by simp [emulsionbook_markedSpans.l0] at h
  | k + 1 => by
    have ih0 := emulsionbook_markedSpans.mono_l k
    · intro y0 y1
      unfold emulsionbook_markedSpans.l0
      repeat' first
      | (with_reducible exact ih0 _ _)
      | (with_reducible exact emulsionbook_SameSpans.mono _ _ _)
      | (with_reducible exact emulsionbook_markSpans.mono _ _ _ _)
      | (with_reducible exact LeO.refl _)
      | (with_reducible exact LeO.none _)
      | (with_reducible refine LeO.ite ?_ ?_)
      | (with_reducible refine LeO.bind ?_ (fun _ => ?_))
      | exact ih0 _ _
      | exact emulsionbook_SameSpans.mono _ _ _
      | exact emulsionbook_markSpans.mono _ _ _ _
      | exact LeO.none _
      | refine LeO.ite ?_ ?_
      | refine LeO.bind ?_ (fun _ => ?_)
theorem emulsionbook_markedSpans.mono : ∀ a0 k, LeO (emulsionbook_markedSpans.f k a0) (emulsionbook_markedSpans.f (k + 1) a0) := by
  intro a0 k
  have ih0 := emulsionbook_markedSpans.mono_l k
  unfold emulsionbook_markedSpans.f
  repeat' first
      | (with_reducible exact ih0 _ _)
      | (with_reducible exact emulsionbook_SameSpans.mono _ _ _)
      | (with_reducible exact emulsionbook_markSpans.mono _ _ _ _)
      | (with_reducible exact LeO.refl _)
      | (with_reducible exact LeO.none _)
      | (with_reducible refine LeO.ite ?_ ?_)
      | (with_reducible refine LeO.bind ?_ (fun _ => ?_))
      | exact ih0 _ _
      | exact emulsionbook_SameSpans.mono _ _ _
      | exact emulsionbook_markSpans.mono _ _ _ _
      | exact LeO.none _
      | refine LeO.ite ?_ ?_
      | refine LeO.bind ?_ (fun _ => ?_)
def emulsionbook_markedSpans.T4 : Bool × List (List Nat × List Nat) := (true, [([], []), ([], []), ([0, 1], [0, 1]), ([2], [2]), ([], []), ([], []), ([], []), ([5, 6], [5, 6]), ([7], [7]), ([8], [8]), ([4, 9], [4, 9]), ([3, 10, 10], [3, 10]), ([11], [11])])
def emulsionbook_markedSpans.B4 : List Nat := [0, 0, 3, 7, 0, 0, 0, 96, 224, 480, 1008, 2047, 4095]
theorem emulsionbook_markedSpans.tab4 : rtab .any (opsOf Try.f81 4) = emulsionbook_markedSpans.T4 := by kernel_rfl
theorem emulsionbook_markedSpans.bits4 : waitsOk emulsionbook_markedSpans.T4.2 emulsionbook_markedSpans.B4 = true := by kernel_rfl
set_option maxHeartbeats 8000000 in
set_option maxRecDepth 100000 in
theorem emulsionbook_markedSpans.calls (k : Nat) (A0 : Option Addr) (c0 : Nat) (l0 : List (List (S31))) (r : Bool) (w : World) (hr0 : Kd.C (Kd.slice 31 k31) w A0 l0.length l0) (hc0 : l0.length ≤ c0) (h : emulsionbook_markedSpans.f k l0 = some r) :
    Calls Try.prog 81 #[.slice A0 l0.length c0] w fun e w' => e = .returned (.bool r) ∧ Below w.heap.size w w' := by
  have HR0 := Aside0.mk hr0
  have HC0 := Aside0.mk hc0
  clear hr0 hc0
  have HB := Aside0.mk (Below.refl w.heap.size w)
  have H : (emulsionbook_markedSpans.l0 k l0 0) = some r := h
  clear h
  have H' := Aside0.mk H
  clear H
  go_enter Try.func81, Try.ntmps81
  go_wp2
  go_loopg [3] k (fun kq v3 w' => ∃ (x3_1 : Int), v3 = .int .i64 x3_1 ∧ Aside0 (emulsionbook_markedSpans.l0 kq l0 x3_1 = some r) ∧ Aside0 (kq ≤ k) ∧ Aside0 (Below w.heap.size w w'))
  case atStart => exact ⟨(0), (by first | rfl | (simp; done) | (simp [*]; done)), H', ⟨Nat.le_refl _⟩, ⟨by repeat (first | (with_reducible first | exact HB.out | apply below_alloc | apply pw_below_drewN | apply below_drew1) | exact HB.out)⟩⟩
  case round =>
    clear H'
    obtain ⟨x3_1, rfl, HA, HK1, HB⟩ := hrel
    cases gk with
    | zero => exact absurd HA.out (by simp [emulsionbook_markedSpans.l0])
    | succ k1 =>
      have H := HA.out
      clear HA
      simp only [emulsionbook_markedSpans.l0] at H
      by_cases c2 : x3_1 < (l0.length : Int)
      · rw [if_pos c2] at H
        have c2b0 : decide (x3_1 < (l0.length : Int)) = true := decide_eq_true c2
        clear c2
        by_cases c3 : 0 ≤ x3_1
        · rw [if_pos c3] at H
          have c3b0 : decide (0 ≤ x3_1) = true := decide_eq_true c3
          clear c3
          replace H := Option.bind_eq_some_iff.mp H
          obtain ⟨t163, A40, H⟩ := H
          replace H : ((emulsionbook_SameSpans.f k1 (rd_L6 l0 x3_1) t163).bind fun t166 => (if t166 = true then (emulsionbook_markedSpans.l0 k1 l0 (wrap64 (x3_1 + 1))) else (some false))) = some r := H
          have A4 := Aside0.mk A40
          clear A40
          replace H := Option.bind_eq_some_iff.mp H
          obtain ⟨t166, A50, H⟩ := H
          replace H : (if t166 = true then (emulsionbook_markedSpans.l0 k1 l0 (wrap64 (x3_1 + 1))) else (some false)) = some r := H
          have A5 := Aside0.mk A50
          clear A50
          by_cases c6 : t166 = true
          · subst c6
            have H1 : (emulsionbook_markedSpans.l0 k1 l0 (wrap64 (x3_1 + 1))) = some r := by rw [if_pos rfl] at H; exact H
            clear H
            have H := H1
            clear H1
            have H' := Aside0.mk H
            clear H
            try go_wp2
            have n0_ := Aside0.mk (below_drew1 HB.out)
            clear HB
            have HB := n0_
            clear n0_
            have p161 : 0 ≤ (x3_1 : Int) := of_decide_eq_true (by first | (with_reducible assumption) | assumption)
            have q161 : x3_1 < (l0.length : Int) := of_decide_eq_true (by first | (with_reducible assumption) | assumption)
            obtain ⟨ad161, A161_0, c161_0, e161, hx161_0, hl161_0, hi161_0⟩ := at_L6 HR0.out x3_1 p161 q161
            have hw161_0 := hx161_0
            cases e161
            replace hx161_0 := (HB.out.cell (World.block_lt_of_cell? w _ hx161_0)).trans hx161_0
            have HR161_0 := Aside0.mk hi161_0
            have HC161_0 := Aside0.mk hl161_0
            clear hi161_0 hl161_0
            replace p161 := eq_true p161
            replace q161 := eq_true q161
            have p162 : 0 ≤ (x3_1 : Int) := of_decide_eq_true (by first | (with_reducible assumption) | assumption)
            have q162 : x3_1 < (l0.length : Int) := of_decide_eq_true (by first | (with_reducible assumption) | assumption)
            obtain ⟨ad162, A162_0, c162_0, e162, hx162_0, hl162_0, hi162_0⟩ := at_L6 HR0.out x3_1 p162 q162
            have hw162_0 := hx162_0
            obtain rfl : ad161 = ad162 := (by injection e162)
            replace hx162_0 := (HB.out.cell (World.block_lt_of_cell? w _ hx162_0)).trans hx162_0
            have HR162_0 := Aside0.mk hi162_0
            have HC162_0 := Aside0.mk hl162_0
            clear hi162_0 hl162_0
            replace p162 := eq_true p162
            replace q162 := eq_true q162
            have ea_ := Option.some.inj (hx161_0.symm.trans hx162_0)
            injection ea_ with ea_ en_ ec_
            subst ea_
            subst ec_
            clear en_
            refine start_ (n := 13) (S := fun w' => w'.cell? (ad161.add (x3_1).toNat) = some (.slice A161_0 (rd_L6 l0 x3_1).length c161_0) ∧ w'.cell? (ad161.add (x3_1).toNat) = some (.slice A161_0 (rd_L6 l0 x3_1).length c161_0)) (ds := []) #[false, false, false, false, false, false, false, false, false, false, false, false, false] (by kernel_rfl) rfl rfl ⟨((HB.out.cell (World.block_lt_of_cell? w _ hw161_0)).trans hw161_0), ((HB.out.cell (World.block_lt_of_cell? w _ hw162_0)).trans hw162_0)⟩ (fun hHeld => ?_); refine with_tabW emulsionbook_markedSpans.tab4 emulsionbook_markedSpans.bits4 (fun HT_ HW_ => ?_)
            generalize wr.drew = w7 at HB HR161_0 HR162_0 hx161_0 hx162_0 hHeld ⊢
            refine pure_ (i := 0) (N := some 10) (v := ?_) (a' := ?_) #[true, false, false, false, false, false, false, false, false, false, false, false, false] rfl rfl (any_of HT_.out (by kernel_rfl)) (fun _ _ _ h => h) (Or.inl ⟨by rfl, ?_⟩) ?_ ?_
            rotate_left
            · intro w'
              go_simp
              with_reducible rfl
            rotate_left
            · simp only [Act.put, List.setIfInBounds_toArray, List.set_cons_zero, List.set_cons_succ, i64_w, i32_w]
              rfl
            refine pure_ (i := 1) (N := some 11) (v := ?_) (a' := ?_) #[true, true, false, false, false, false, false, false, false, false, false, false, false] rfl rfl (any_of HT_.out (by kernel_rfl)) (fun _ _ _ h => h) (Or.inl ⟨by rfl, ?_⟩) ?_ ?_
            rotate_left
            · intro w'
              go_simp
              with_reducible rfl
            rotate_left
            · simp only [Act.put, List.setIfInBounds_toArray, List.set_cons_zero, List.set_cons_succ, i64_w, i32_w]
              rfl
            refine pure_ (i := 2) (N := some 12) (v := ?_) (a' := ?_) #[true, true, true, false, false, false, false, false, false, false, false, false, false] rfl rfl (any_of HT_.out (by kernel_rfl)) (fun _ _ _ h => h) (Or.inl ⟨by rfl, ?_⟩) ?_ ?_
            rotate_left
            · intro w'
              go_simp
              with_reducible rfl
            rotate_left
            · simp only [Act.put, List.setIfInBounds_toArray, List.set_cons_zero, List.set_cons_succ, i64_w, i32_w]
              rfl
            refine pure_ (i := 4) (N := some 14) (v := ?_) (a' := ?_) #[true, true, true, false, true, false, false, false, false, false, false, false, false] rfl rfl (any_of HT_.out (by kernel_rfl)) (fun _ _ _ h => h) (Or.inl ⟨by rfl, ?_⟩) ?_ ?_
            rotate_left
            · intro w'
              go_simp
              with_reducible rfl
            rotate_left
            · simp only [Act.put, List.setIfInBounds_toArray, List.set_cons_zero, List.set_cons_succ, i64_w, i32_w]
              rfl
            refine pure_ (i := 5) (N := some 15) (v := ?_) (a' := ?_) #[true, true, true, false, true, true, false, false, false, false, false, false, false] rfl rfl (any_of HT_.out (by kernel_rfl)) (fun _ _ _ h => h) (Or.inl ⟨by rfl, ?_⟩) ?_ ?_
            rotate_left
            · intro w'
              go_simp
              with_reducible rfl
            rotate_left
            · simp only [Act.put, List.setIfInBounds_toArray, List.set_cons_zero, List.set_cons_succ, i64_w, i32_w]
              rfl
            refine pure_ (i := 6) (N := some 16) (v := ?_) (a' := ?_) #[true, true, true, false, true, true, true, false, false, false, false, false, false] rfl rfl (any_of HT_.out (by kernel_rfl)) (fun _ _ _ h => h) (Or.inl ⟨by rfl, ?_⟩) ?_ ?_
            rotate_left
            · intro w'
              go_simp
              with_reducible rfl
            rotate_left
            · simp only [Act.put, List.setIfInBounds_toArray, List.set_cons_zero, List.set_cons_succ, i64_w, i32_w]
              rfl
            refine pure_ (i := 7) (N := some 17) (v := ?_) (a' := ?_) #[true, true, true, false, true, true, true, true, false, false, false, false, false] rfl rfl (any_of HT_.out (by kernel_rfl)) (fun _ _ _ h => h) (Or.inl ⟨by rfl, ?_⟩) ?_ ?_
            rotate_left
            · intro w'
              go_simp
              with_reducible rfl
            rotate_left
            · simp only [Act.put, List.setIfInBounds_toArray, List.set_cons_zero, List.set_cons_succ, i64_w, i32_w]
              rfl
            refine take_ (i := 3) (N := some 13) (v := ?_) (a' := ?_) #[true, true, true, true, true, true, true, true, false, false, false, false, false] rfl rfl (take_ofW HT_.out HW_.out (by kernel_rfl)) (fun _ _ _ h => h) (Or.inl ⟨by rfl, ?_⟩) hHeld ?_ ?_
            rotate_left
            · rintro w' ⟨s0, s1⟩
              go_simp
              with_reducible rfl
            rotate_left
            · simp only [Act.put, List.setIfInBounds_toArray, List.set_cons_zero, List.set_cons_succ, i64_w, i32_w]
              rfl
            refine take_ (i := 8) (N := some 18) (v := ?_) (a' := ?_) #[true, true, true, true, true, true, true, true, true, false, false, false, false] rfl rfl (take_ofW HT_.out HW_.out (by kernel_rfl)) (fun _ _ _ h => h) (Or.inl ⟨by rfl, ?_⟩) hHeld ?_ ?_
            rotate_left
            · rintro w' ⟨s0, s1⟩
              go_simp
              with_reducible rfl
            rotate_left
            · simp only [Act.put, List.setIfInBounds_toArray, List.set_cons_zero, List.set_cons_succ, i64_w, i32_w]
              rfl
            refine pure_ (i := 9) (N := some 19) (v := ?_) (a' := ?_) #[true, true, true, true, true, true, true, true, true, true, false, false, false] rfl rfl (any_of HT_.out (by kernel_rfl)) (fun _ _ _ h => h) (Or.inl ⟨by rfl, ?_⟩) ?_ ?_
            rotate_left
            · intro w'
              go_simp
              with_reducible rfl
            rotate_left
            · simp only [Act.put, List.setIfInBounds_toArray, List.set_cons_zero, List.set_cons_succ, i64_w, i32_w]
              rfl
            refine one_ (i := 10) (N := some 20) #[true, true, true, true, true, true, true, true, true, true, true, false, false] rfl rfl (one_of HT_.out (by kernel_rfl)) (by decide) (fun K hK => ?_)
            refine goes_ Try.func106 (by kernel_rfl) rfl #[.int .i64 x3_1, .int .i64 0, .int .i64 ((rd_L6 l0 x3_1).length : Int)] (by rfl) rfl rfl (by (try simp only [List.map_toArray, List.map_cons, List.map_nil]); first | done | rfl | (simp only [List.length_drop, List.length_take]; rfl)) ?_
            with_reducible refine (emulsionbook_markSpans.calls k1 x3_1 0 ((rd_L6 l0 x3_1).length : Int) t163 _ A4.out).mono ?_
            rintro e w8 ⟨v164, rfl, ho0, hb⟩
            refine ⟨_, rfl, ?_⟩
            have n0_ := Aside0.mk (Kd.R_lower ho0 (below_size (by repeat (first | (with_reducible first | exact HB.out | apply below_alloc | apply pw_below_drewN | apply below_drew1) | exact HB.out))))
            have n1_ := Aside0.mk (below_step (by repeat (first | (with_reducible first | exact HB.out | apply below_alloc | apply pw_below_drewN | apply below_drew1) | exact HB.out)) hb)
            clear HB
            have HO165 := n0_
            have HB := n1_
            clear n0_ n1_
            (try clear hb)
            (try clear hb2)
            (try clear hk)
            (try clear hi)
            (try clear ho0)
            obtain ⟨Ao9, co9, eo9⟩ := Kd.R_slice HO165.out
            (first | subst eo9 | (injection eo9 with f1_ f2_ f3_; have f4_ := f1_.symm; have f5_ := f3_.symm; clear f1_ f2_ f3_; subst f4_; subst f5_))
            refine hK.out _ _ ⟨((HB.out.cell (World.block_lt_of_cell? w _ hw161_0)).trans hw161_0), ((HB.out.cell (World.block_lt_of_cell? w _ hw162_0)).trans hw162_0)⟩ (fun hHeld => ?_)
            clear hK K
            refine norm_ (a' := ?_) ?_ ?_
            rotate_left
            · show Act.put _ (some 20) _ = _
              simp only [Act.put, List.setIfInBounds_toArray, List.set_cons_zero, List.set_cons_succ, i64_w, i32_w]
              rfl
            refine one_ (i := 11) (N := some 21) #[true, true, true, true, true, true, true, true, true, true, true, true, false] rfl rfl (one_of HT_.out (by kernel_rfl)) (by decide) (fun K hK => ?_)
            refine goes_ Try.func28 (by kernel_rfl) rfl #[.slice A161_0 (rd_L6 l0 x3_1).length c161_0, .slice Ao9 t163.length co9] (by rfl) rfl rfl (by (try simp only [List.map_toArray, List.map_cons, List.map_nil]); first | done | rfl | (simp only [List.length_drop, List.length_take]; rfl)) ?_
            with_reducible refine (emulsionbook_SameSpans.calls k1 _ _ (rd_L6 l0 x3_1) _ _ t163 true _ ?side1 ?side2 ?side3 ?side4 A5.out).mono ?_
            (case side1 => repeat (first | exact (Kd.C_below HR161_0.out HB.out) | (with_reducible refine Kd.C_alloc ?_ _) | (with_reducible refine Kd.C_drewN ?_ _) | (with_reducible refine Kd.C_drew ?_)))
            (case side2 => exact HC161_0.out)
            (case side3 => repeat (first | exact (Kd.R_reads' HO165.out).2.2 | (with_reducible refine Kd.C_alloc ?_ _) | (with_reducible refine Kd.C_drewN ?_ _) | (with_reducible refine Kd.C_drew ?_)))
            (case side4 => exact (Kd.R_reads' HO165.out).2.1)
            rintro e w' ⟨rfl, ⟨nd, rfl⟩⟩
            refine ⟨_, rfl, ?_⟩
            refine hK.out _ _ ⟨((HB.out.cell (World.block_lt_of_cell? w _ hw161_0)).trans hw161_0), ((HB.out.cell (World.block_lt_of_cell? w _ hw162_0)).trans hw162_0)⟩ (fun hHeld => ?_)
            clear hK K
            refine norm_ (a' := ?_) ?_ ?_
            rotate_left
            · show Act.put _ (some 21) _ = _
              simp only [Act.put, List.setIfInBounds_toArray, List.set_cons_zero, List.set_cons_succ, i64_w, i32_w]
              rfl
            refine pure_ (i := 12) (N := some 22) (v := ?_) (a' := ?_) #[true, true, true, true, true, true, true, true, true, true, true, true, true] rfl rfl (any_of HT_.out (by kernel_rfl)) (fun _ _ _ h => h) (Or.inl ⟨by rfl, ?_⟩) ?_ ?_
            rotate_left
            · intro w'
              go_simp
              with_reducible rfl
            rotate_left
            · simp only [Act.put, List.setIfInBounds_toArray, List.set_cons_zero, List.set_cons_succ, i64_w, i32_w]
              rfl
            refine done_ (done_of HT_.out (by kernel_rfl)) ?_
            try go_wp2
            go_roundg k1
            case measure => have := HK1.out; omega
            case rel => exact ⟨(wrap64 (x3_1 + 1)), (by first | rfl | (simp; done) | (simp [*]; done)), H', ⟨by have := HK1.out; omega⟩, ⟨by repeat (first | (with_reducible first | exact HB.out | apply below_alloc | apply pw_below_drewN | apply below_drew1) | exact HB.out)⟩⟩
          · replace c6 := Bool.eq_false_iff.mpr c6
            subst c6
            have H1 : (some false) = some r := by rw [if_neg (show ¬ (false = true) by decide)] at H; exact H
            clear H
            have H := H1
            clear H1
            obtain rfl := Option.some.inj H
            try go_wp2
            have n0_ := Aside0.mk (below_drew1 HB.out)
            clear HB
            have HB := n0_
            clear n0_
            have p161 : 0 ≤ (x3_1 : Int) := of_decide_eq_true (by first | (with_reducible assumption) | assumption)
            have q161 : x3_1 < (l0.length : Int) := of_decide_eq_true (by first | (with_reducible assumption) | assumption)
            obtain ⟨ad161, A161_0, c161_0, e161, hx161_0, hl161_0, hi161_0⟩ := at_L6 HR0.out x3_1 p161 q161
            have hw161_0 := hx161_0
            cases e161
            replace hx161_0 := (HB.out.cell (World.block_lt_of_cell? w _ hx161_0)).trans hx161_0
            have HR161_0 := Aside0.mk hi161_0
            have HC161_0 := Aside0.mk hl161_0
            clear hi161_0 hl161_0
            replace p161 := eq_true p161
            replace q161 := eq_true q161
            have p162 : 0 ≤ (x3_1 : Int) := of_decide_eq_true (by first | (with_reducible assumption) | assumption)
            have q162 : x3_1 < (l0.length : Int) := of_decide_eq_true (by first | (with_reducible assumption) | assumption)
            obtain ⟨ad162, A162_0, c162_0, e162, hx162_0, hl162_0, hi162_0⟩ := at_L6 HR0.out x3_1 p162 q162
            have hw162_0 := hx162_0
            obtain rfl : ad161 = ad162 := (by injection e162)
            replace hx162_0 := (HB.out.cell (World.block_lt_of_cell? w _ hx162_0)).trans hx162_0
            have HR162_0 := Aside0.mk hi162_0
            have HC162_0 := Aside0.mk hl162_0
            clear hi162_0 hl162_0
            replace p162 := eq_true p162
            replace q162 := eq_true q162
            have ea_ := Option.some.inj (hx161_0.symm.trans hx162_0)
            injection ea_ with ea_ en_ ec_
            subst ea_
            subst ec_
            clear en_
            refine start_ (n := 13) (S := fun w' => w'.cell? (ad161.add (x3_1).toNat) = some (.slice A161_0 (rd_L6 l0 x3_1).length c161_0) ∧ w'.cell? (ad161.add (x3_1).toNat) = some (.slice A161_0 (rd_L6 l0 x3_1).length c161_0)) (ds := []) #[false, false, false, false, false, false, false, false, false, false, false, false, false] (by kernel_rfl) rfl rfl ⟨((HB.out.cell (World.block_lt_of_cell? w _ hw161_0)).trans hw161_0), ((HB.out.cell (World.block_lt_of_cell? w _ hw162_0)).trans hw162_0)⟩ (fun hHeld => ?_); refine with_tabW emulsionbook_markedSpans.tab4 emulsionbook_markedSpans.bits4 (fun HT_ HW_ => ?_)
            generalize wr.drew = w10 at HB HR161_0 HR162_0 hx161_0 hx162_0 hHeld ⊢
            refine pure_ (i := 0) (N := some 10) (v := ?_) (a' := ?_) #[true, false, false, false, false, false, false, false, false, false, false, false, false] rfl rfl (any_of HT_.out (by kernel_rfl)) (fun _ _ _ h => h) (Or.inl ⟨by rfl, ?_⟩) ?_ ?_
            rotate_left
            · intro w'
              go_simp
              with_reducible rfl
            rotate_left
            · simp only [Act.put, List.setIfInBounds_toArray, List.set_cons_zero, List.set_cons_succ, i64_w, i32_w]
              rfl
            refine pure_ (i := 1) (N := some 11) (v := ?_) (a' := ?_) #[true, true, false, false, false, false, false, false, false, false, false, false, false] rfl rfl (any_of HT_.out (by kernel_rfl)) (fun _ _ _ h => h) (Or.inl ⟨by rfl, ?_⟩) ?_ ?_
            rotate_left
            · intro w'
              go_simp
              with_reducible rfl
            rotate_left
            · simp only [Act.put, List.setIfInBounds_toArray, List.set_cons_zero, List.set_cons_succ, i64_w, i32_w]
              rfl
            refine pure_ (i := 2) (N := some 12) (v := ?_) (a' := ?_) #[true, true, true, false, false, false, false, false, false, false, false, false, false] rfl rfl (any_of HT_.out (by kernel_rfl)) (fun _ _ _ h => h) (Or.inl ⟨by rfl, ?_⟩) ?_ ?_
            rotate_left
            · intro w'
              go_simp
              with_reducible rfl
            rotate_left
            · simp only [Act.put, List.setIfInBounds_toArray, List.set_cons_zero, List.set_cons_succ, i64_w, i32_w]
              rfl
            refine pure_ (i := 4) (N := some 14) (v := ?_) (a' := ?_) #[true, true, true, false, true, false, false, false, false, false, false, false, false] rfl rfl (any_of HT_.out (by kernel_rfl)) (fun _ _ _ h => h) (Or.inl ⟨by rfl, ?_⟩) ?_ ?_
            rotate_left
            · intro w'
              go_simp
              with_reducible rfl
            rotate_left
            · simp only [Act.put, List.setIfInBounds_toArray, List.set_cons_zero, List.set_cons_succ, i64_w, i32_w]
              rfl
            refine pure_ (i := 5) (N := some 15) (v := ?_) (a' := ?_) #[true, true, true, false, true, true, false, false, false, false, false, false, false] rfl rfl (any_of HT_.out (by kernel_rfl)) (fun _ _ _ h => h) (Or.inl ⟨by rfl, ?_⟩) ?_ ?_
            rotate_left
            · intro w'
              go_simp
              with_reducible rfl
            rotate_left
            · simp only [Act.put, List.setIfInBounds_toArray, List.set_cons_zero, List.set_cons_succ, i64_w, i32_w]
              rfl
            refine pure_ (i := 6) (N := some 16) (v := ?_) (a' := ?_) #[true, true, true, false, true, true, true, false, false, false, false, false, false] rfl rfl (any_of HT_.out (by kernel_rfl)) (fun _ _ _ h => h) (Or.inl ⟨by rfl, ?_⟩) ?_ ?_
            rotate_left
            · intro w'
              go_simp
              with_reducible rfl
            rotate_left
            · simp only [Act.put, List.setIfInBounds_toArray, List.set_cons_zero, List.set_cons_succ, i64_w, i32_w]
              rfl
            refine pure_ (i := 7) (N := some 17) (v := ?_) (a' := ?_) #[true, true, true, false, true, true, true, true, false, false, false, false, false] rfl rfl (any_of HT_.out (by kernel_rfl)) (fun _ _ _ h => h) (Or.inl ⟨by rfl, ?_⟩) ?_ ?_
            rotate_left
            · intro w'
              go_simp
              with_reducible rfl
            rotate_left
            · simp only [Act.put, List.setIfInBounds_toArray, List.set_cons_zero, List.set_cons_succ, i64_w, i32_w]
              rfl
            refine take_ (i := 3) (N := some 13) (v := ?_) (a' := ?_) #[true, true, true, true, true, true, true, true, false, false, false, false, false] rfl rfl (take_ofW HT_.out HW_.out (by kernel_rfl)) (fun _ _ _ h => h) (Or.inl ⟨by rfl, ?_⟩) hHeld ?_ ?_
            rotate_left
            · rintro w' ⟨s0, s1⟩
              go_simp
              with_reducible rfl
            rotate_left
            · simp only [Act.put, List.setIfInBounds_toArray, List.set_cons_zero, List.set_cons_succ, i64_w, i32_w]
              rfl
            refine take_ (i := 8) (N := some 18) (v := ?_) (a' := ?_) #[true, true, true, true, true, true, true, true, true, false, false, false, false] rfl rfl (take_ofW HT_.out HW_.out (by kernel_rfl)) (fun _ _ _ h => h) (Or.inl ⟨by rfl, ?_⟩) hHeld ?_ ?_
            rotate_left
            · rintro w' ⟨s0, s1⟩
              go_simp
              with_reducible rfl
            rotate_left
            · simp only [Act.put, List.setIfInBounds_toArray, List.set_cons_zero, List.set_cons_succ, i64_w, i32_w]
              rfl
            refine pure_ (i := 9) (N := some 19) (v := ?_) (a' := ?_) #[true, true, true, true, true, true, true, true, true, true, false, false, false] rfl rfl (any_of HT_.out (by kernel_rfl)) (fun _ _ _ h => h) (Or.inl ⟨by rfl, ?_⟩) ?_ ?_
            rotate_left
            · intro w'
              go_simp
              with_reducible rfl
            rotate_left
            · simp only [Act.put, List.setIfInBounds_toArray, List.set_cons_zero, List.set_cons_succ, i64_w, i32_w]
              rfl
            refine one_ (i := 10) (N := some 20) #[true, true, true, true, true, true, true, true, true, true, true, false, false] rfl rfl (one_of HT_.out (by kernel_rfl)) (by decide) (fun K hK => ?_)
            refine goes_ Try.func106 (by kernel_rfl) rfl #[.int .i64 x3_1, .int .i64 0, .int .i64 ((rd_L6 l0 x3_1).length : Int)] (by rfl) rfl rfl (by (try simp only [List.map_toArray, List.map_cons, List.map_nil]); first | done | rfl | (simp only [List.length_drop, List.length_take]; rfl)) ?_
            with_reducible refine (emulsionbook_markSpans.calls k1 x3_1 0 ((rd_L6 l0 x3_1).length : Int) t163 _ A4.out).mono ?_
            rintro e w11 ⟨v164, rfl, ho0, hb⟩
            refine ⟨_, rfl, ?_⟩
            have n0_ := Aside0.mk (Kd.R_lower ho0 (below_size (by repeat (first | (with_reducible first | exact HB.out | apply below_alloc | apply pw_below_drewN | apply below_drew1) | exact HB.out))))
            have n1_ := Aside0.mk (below_step (by repeat (first | (with_reducible first | exact HB.out | apply below_alloc | apply pw_below_drewN | apply below_drew1) | exact HB.out)) hb)
            clear HB
            have HO165 := n0_
            have HB := n1_
            clear n0_ n1_
            (try clear hb)
            (try clear hb2)
            (try clear hk)
            (try clear hi)
            (try clear ho0)
            obtain ⟨Ao12, co12, eo12⟩ := Kd.R_slice HO165.out
            (first | subst eo12 | (injection eo12 with f1_ f2_ f3_; have f4_ := f1_.symm; have f5_ := f3_.symm; clear f1_ f2_ f3_; subst f4_; subst f5_))
            refine hK.out _ _ ⟨((HB.out.cell (World.block_lt_of_cell? w _ hw161_0)).trans hw161_0), ((HB.out.cell (World.block_lt_of_cell? w _ hw162_0)).trans hw162_0)⟩ (fun hHeld => ?_)
            clear hK K
            refine norm_ (a' := ?_) ?_ ?_
            rotate_left
            · show Act.put _ (some 20) _ = _
              simp only [Act.put, List.setIfInBounds_toArray, List.set_cons_zero, List.set_cons_succ, i64_w, i32_w]
              rfl
            refine one_ (i := 11) (N := some 21) #[true, true, true, true, true, true, true, true, true, true, true, true, false] rfl rfl (one_of HT_.out (by kernel_rfl)) (by decide) (fun K hK => ?_)
            refine goes_ Try.func28 (by kernel_rfl) rfl #[.slice A161_0 (rd_L6 l0 x3_1).length c161_0, .slice Ao12 t163.length co12] (by rfl) rfl rfl (by (try simp only [List.map_toArray, List.map_cons, List.map_nil]); first | done | rfl | (simp only [List.length_drop, List.length_take]; rfl)) ?_
            with_reducible refine (emulsionbook_SameSpans.calls k1 _ _ (rd_L6 l0 x3_1) _ _ t163 false _ ?side1 ?side2 ?side3 ?side4 A5.out).mono ?_
            (case side1 => repeat (first | exact (Kd.C_below HR161_0.out HB.out) | (with_reducible refine Kd.C_alloc ?_ _) | (with_reducible refine Kd.C_drewN ?_ _) | (with_reducible refine Kd.C_drew ?_)))
            (case side2 => exact HC161_0.out)
            (case side3 => repeat (first | exact (Kd.R_reads' HO165.out).2.2 | (with_reducible refine Kd.C_alloc ?_ _) | (with_reducible refine Kd.C_drewN ?_ _) | (with_reducible refine Kd.C_drew ?_)))
            (case side4 => exact (Kd.R_reads' HO165.out).2.1)
            rintro e w' ⟨rfl, ⟨nd, rfl⟩⟩
            refine ⟨_, rfl, ?_⟩
            refine hK.out _ _ ⟨((HB.out.cell (World.block_lt_of_cell? w _ hw161_0)).trans hw161_0), ((HB.out.cell (World.block_lt_of_cell? w _ hw162_0)).trans hw162_0)⟩ (fun hHeld => ?_)
            clear hK K
            refine norm_ (a' := ?_) ?_ ?_
            rotate_left
            · show Act.put _ (some 21) _ = _
              simp only [Act.put, List.setIfInBounds_toArray, List.set_cons_zero, List.set_cons_succ, i64_w, i32_w]
              rfl
            refine pure_ (i := 12) (N := some 22) (v := ?_) (a' := ?_) #[true, true, true, true, true, true, true, true, true, true, true, true, true] rfl rfl (any_of HT_.out (by kernel_rfl)) (fun _ _ _ h => h) (Or.inl ⟨by rfl, ?_⟩) ?_ ?_
            rotate_left
            · intro w'
              go_simp
              with_reducible rfl
            rotate_left
            · simp only [Act.put, List.setIfInBounds_toArray, List.set_cons_zero, List.set_cons_succ, i64_w, i32_w]
              rfl
            refine done_ (done_of HT_.out (by kernel_rfl)) ?_
            try go_wp2
            go_ret
            exact ⟨by first | rfl | (simp [errW_none, errW_some] <;> rfl) | (simp [*, errW_none, errW_some] <;> rfl), by repeat (first | (with_reducible first | exact HB.out | apply below_alloc | apply pw_below_drewN | apply below_drew1) | exact HB.out)⟩
        · rw [if_neg c3] at H
          exact absurd H (by simp)
      · rw [if_neg c2] at H
        have c2b0 : decide (x3_1 < (l0.length : Int)) = false := decide_eq_false c2
        clear c2
        obtain rfl := Option.some.inj H
        go_wp2
        go_ret
        exact ⟨by first | rfl | (simp [errW_none, errW_some] <;> rfl) | (simp [*, errW_none, errW_some] <;> rfl), by repeat (first | (with_reducible first | exact HB.out | apply below_alloc | apply pw_below_drewN | apply below_drew1) | exact HB.out)⟩
end Go.Proofs.Ytffemlfdhkndiaa.A
end
section
namespace Go.Proofs.Ytffemlfdhkndiaa.A
open Go.RowKit Go.Proofs.YtffemlfdhkndiaaW.PrintWords Go.Proofs.YtffemlfdhkndiaaW.PrintLast Go.Proofs.YtffemlfdhkndiaaW.PrintMore
attribute [local go_sem] max2_int min2_int max_two min_two max_three min_three max_four min_four   -- for this text's walks alone
set_option linter.unusedVariables false
set_option linter.unusedSimpArgs false
theorem eqA135 (d : Nat) (w : World) (x0 y0 : Int) (x1 y1 : Int) (x2 y2 : Int) :
    (Op.equalIn (d + 2) 135 (.agg #[.int .i64 x0, .int .i64 x1, .int .i64 x2]) (.agg #[.int .i64 y0, .int .i64 y1, .int .i64 y2])).run Try.prog w = .ok (x0 == y0 && (x1 == y1 && (x2 == y2))) w := by
  refine eqA_of Try.underlying135 (by kernel_rfl) ?_
  refine eqf_cons (by rfl) (by go_simp; rfl) (by go_simp; rfl) (by go_simp) ?_
  refine eqf_cons (by rfl) (by go_simp; rfl) (by go_simp; rfl) (by go_simp) ?_
  exact eqf_last (by rfl) (by go_simp; rfl) (by go_simp; rfl) (by go_simp)
end Go.Proofs.Ytffemlfdhkndiaa.A
end
section
namespace Go.Proofs.Ytffemlfdhkndiaa.A
open Go.RowKit Go.Proofs.YtffemlfdhkndiaaW.PrintWords Go.Proofs.YtffemlfdhkndiaaW.PrintLast Go.Proofs.YtffemlfdhkndiaaW.PrintMore
attribute [local go_sem] max2_int min2_int max_two min_two max_three min_three max_four min_four   -- for this text's walks alone
set_option linter.unusedVariables false
set_option linter.unusedSimpArgs false
attribute [local go_sem high] eqA135
def emulsionbook_SameExtents.l0 : Nat → List (S135) → List (S135) → Int → Option (Bool)
  | 0, _, _, _ => none
  | k + 1, x0, x1, x5 => if x5 < (x0.length : Int) then (if 0 ≤ x5 then (if x5 < (x1.length : Int) then (if ((((rd_T135 x0 x5).f0) == ((rd_T135 x1 x5).f0) && (((rd_T135 x0 x5).f1) == ((rd_T135 x1 x5).f1) && (((rd_T135 x0 x5).f2) == ((rd_T135 x1 x5).f2)))) = true) then (emulsionbook_SameExtents.l0 k x0 x1 (wrap64 (x5 + 1))) else (some false)) else (none)) else (none)) else (some true)
def emulsionbook_SameExtents.f (k : Nat) (l0 : List (S135)) (l1 : List (S135)) : Option (Bool) := if (l0.length : Int) = (l1.length : Int) then (emulsionbook_SameExtents.l0 k l0 l1 0) else (some false)
theorem emulsionbook_SameExtents.mono_l : ∀ k, (∀ y0 y1 y2, LeO (emulsionbook_SameExtents.l0 k y0 y1 y2) (emulsionbook_SameExtents.l0 (k + 1) y0 y1 y2))
  | 0 => fun _ _ _ r h => by simp [emulsionbook_SameExtents.l0] at h
  | k + 1 => by
    have ih0 := emulsionbook_SameExtents.mono_l k
    · intro y0 y1 y2
      unfold emulsionbook_SameExtents.l0
      repeat' first
      | (with_reducible exact ih0 _ _ _)
      | (with_reducible exact LeO.refl _)
      | (with_reducible exact LeO.none _)
      | (with_reducible refine LeO.ite ?_ ?_)
      | (with_reducible refine LeO.bind ?_ (fun _ => ?_))
      | exact ih0 _ _ _
      | exact LeO.none _
      | refine LeO.ite ?_ ?_
      | refine LeO.bind ?_ (fun _ => ?_)
theorem emulsionbook_SameExtents.mono : ∀ a0 a1 k, LeO (emulsionbook_SameExtents.f k a0 a1) (emulsionbook_SameExtents.f (k + 1) a0 a1) := by
  intro a0 a1 k
  have ih0 := emulsionbook_SameExtents.mono_l k
  unfold emulsionbook_SameExtents.f
  repeat' first
      | (with_reducible exact ih0 _ _ _)
      | (with_reducible exact LeO.refl _)
      | (with_reducible exact LeO.none _)
      | (with_reducible refine LeO.ite ?_ ?_)
      | (with_reducible refine LeO.bind ?_ (fun _ => ?_))
      | exact ih0 _ _ _
      | exact LeO.none _
      | refine LeO.ite ?_ ?_
      | refine LeO.bind ?_ (fun _ => ?_)
set_option maxHeartbeats 8000000 in
set_option maxRecDepth 100000 in
theorem emulsionbook_SameExtents.calls (k : Nat) (A0 : Option Addr) (c0 : Nat) (l0 : List (S135)) (A1 : Option Addr) (c1 : Nat) (l1 : List (S135)) (r : Bool) (w : World) (hr0 : Kd.C k135 w A0 l0.length l0) (hc0 : l0.length ≤ c0) (hr1 : Kd.C k135 w A1 l1.length l1) (hc1 : l1.length ≤ c1) (h : emulsionbook_SameExtents.f k l0 l1 = some r) :
    Calls Try.prog 99 #[.slice A0 l0.length c0, .slice A1 l1.length c1] w fun e w' => e = .returned (.bool r) ∧ Drawn0 w w' := by
  have hu135 := Try.underlying135
  have HR0 := Aside0.mk hr0
  have HC0 := Aside0.mk hc0
  clear hr0 hc0
  have HR1 := Aside0.mk hr1
  have HC1 := Aside0.mk hc1
  clear hr1 hc1
  have H : (if (l0.length : Int) = (l1.length : Int) then (emulsionbook_SameExtents.l0 k l0 l1 0) else (some false)) = some r := h
  clear h
  by_cases c3 : (l0.length : Int) = (l1.length : Int)
  · rw [if_pos c3] at H
    have c3b0 : ((l0.length : Int) == (l1.length : Int)) = true := beq_iff_eq.mpr c3
    have c3b1 : ((l0.length : Int) != (l1.length : Int)) = false := bne_eq_false_iff_eq.mpr c3
    have c3b2 : (l0.length == l1.length) = true := by first | simpa using c3 | (simp at c3 ⊢; omega)
    clear c3
    have H' := Aside0.mk H
    clear H
    go_enter Try.func99, Try.ntmps99
    go_wp2
    repeat (go_quiet (fail); try go_wp2)
    go_loopg [5] k (fun kq v5 w' => ∃ (x5_1 : Int), v5 = .int .i64 x5_1 ∧ Aside0 (emulsionbook_SameExtents.l0 kq l0 l1 x5_1 = some r) ∧ Aside0 (kq ≤ k) ∧ Drawn0 w w')
    case atStart => exact ⟨(0), (by first | rfl | (simp; done) | (simp [*]; done)), H', ⟨Nat.le_refl _⟩, by repeat (first | exact Drawn0.refl _ | apply Drawn0.step)⟩
    case round =>
      clear H'
      try clear c1
      try clear p2
      try clear c3
      try clear c3b0
      try clear c3b1
      try clear c3b2
      obtain ⟨x5_1, rfl, HA, HK1, ⟨m1, rfl⟩⟩ := hrel
      cases gk with
      | zero => exact absurd HA.out (by simp [emulsionbook_SameExtents.l0])
      | succ k1 =>
        have H := HA.out
        clear HA
        simp only [emulsionbook_SameExtents.l0] at H
        by_cases c4 : x5_1 < (l0.length : Int)
        · rw [if_pos c4] at H
          have c4b0 : decide (x5_1 < (l0.length : Int)) = true := decide_eq_true c4
          clear c4
          by_cases c5 : 0 ≤ x5_1
          · rw [if_pos c5] at H
            have c5b0 : decide (0 ≤ x5_1) = true := decide_eq_true c5
            clear c5
            by_cases c6 : x5_1 < (l1.length : Int)
            · rw [if_pos c6] at H
              have c6b0 : decide (x5_1 < (l1.length : Int)) = true := decide_eq_true c6
              clear c6
              by_cases c7 : ((((rd_T135 l0 x5_1).f0) == ((rd_T135 l1 x5_1).f0) && (((rd_T135 l0 x5_1).f1) == ((rd_T135 l1 x5_1).f1) && (((rd_T135 l0 x5_1).f2) == ((rd_T135 l1 x5_1).f2)))) = true)
              · rw [if_pos c7] at H
                have c7b0 : (((rd_T135 l0 x5_1).f0) == ((rd_T135 l1 x5_1).f0) && (((rd_T135 l0 x5_1).f1) == ((rd_T135 l1 x5_1).f1) && (((rd_T135 l0 x5_1).f2) == ((rd_T135 l1 x5_1).f2)))) = true := c7
                (try (have c7b1 : decide (((rd_T135 l0 x5_1).f0) = ((rd_T135 l1 x5_1).f0) && (((rd_T135 l0 x5_1).f1) == ((rd_T135 l1 x5_1).f1) && (((rd_T135 l0 x5_1).f2) == ((rd_T135 l1 x5_1).f2)))) = true := by simpa using c7))
                (try (have c7b2 : (((rd_T135 l0 x5_1).f0) == ((rd_T135 l1 x5_1).f0) && (((rd_T135 l0 x5_1).f1) == ((rd_T135 l1 x5_1).f1) && (((rd_T135 l0 x5_1).f2) == ((rd_T135 l1 x5_1).f2)))) = true := by simpa using c7))
                clear c7
                have H' := Aside0.mk H
                clear H
                have p167 : 0 ≤ (x5_1 : Int) := of_decide_eq_true (by first | (with_reducible assumption) | assumption)
                have q167 : x5_1 < (l0.length : Int) := of_decide_eq_true (by first | (with_reducible assumption) | assumption)
                obtain ⟨ad167, e167, hx167_0, hx167_1, hx167_2⟩ := at_T135 HR0.out x5_1 p167 q167
                cases e167
                replace p167 := eq_true p167
                replace q167 := eq_true q167
                have p168 : 0 ≤ (x5_1 : Int) := of_decide_eq_true (by first | (with_reducible assumption) | assumption)
                have q168 : x5_1 < (l1.length : Int) := of_decide_eq_true (by first | (with_reducible assumption) | assumption)
                obtain ⟨ad168, e168, hx168_0, hx168_1, hx168_2⟩ := at_T135 HR1.out x5_1 p168 q168
                cases e168
                replace p168 := eq_true p168
                replace q168 := eq_true q168
                go_wp2
                repeat (go_quiet (fail); try go_wp2)
                go_roundg k1
                case measure => have := HK1.out; omega
                case rel => exact ⟨(wrap64 (x5_1 + 1)), (by first | rfl | (simp; done) | (simp [*]; done)), H', ⟨by have := HK1.out; omega⟩, by repeat (first | exact Drawn0.refl _ | apply Drawn0.step)⟩
              · rw [if_neg c7] at H
                have c7b0 : (((rd_T135 l0 x5_1).f0) == ((rd_T135 l1 x5_1).f0) && (((rd_T135 l0 x5_1).f1) == ((rd_T135 l1 x5_1).f1) && (((rd_T135 l0 x5_1).f2) == ((rd_T135 l1 x5_1).f2)))) = false := by simpa using c7
                (try (have c7b1 : decide (((rd_T135 l0 x5_1).f0) = ((rd_T135 l1 x5_1).f0) && (((rd_T135 l0 x5_1).f1) == ((rd_T135 l1 x5_1).f1) && (((rd_T135 l0 x5_1).f2) == ((rd_T135 l1 x5_1).f2)))) = false := by simpa using c7))
                (try (have c7b2 : (((rd_T135 l0 x5_1).f0) == ((rd_T135 l1 x5_1).f0) && (((rd_T135 l0 x5_1).f1) == ((rd_T135 l1 x5_1).f1) && (((rd_T135 l0 x5_1).f2) == ((rd_T135 l1 x5_1).f2)))) = false := by simpa using c7))
                (try (have c7b3 : ¬ (((rd_T135 l0 x5_1).f0) = ((rd_T135 l1 x5_1).f0) && (((rd_T135 l0 x5_1).f1) == ((rd_T135 l1 x5_1).f1) && (((rd_T135 l0 x5_1).f2) == ((rd_T135 l1 x5_1).f2)))) := by simpa using c7))
                clear c7
                obtain rfl := Option.some.inj H
                have p167 : 0 ≤ (x5_1 : Int) := of_decide_eq_true (by first | (with_reducible assumption) | assumption)
                have q167 : x5_1 < (l0.length : Int) := of_decide_eq_true (by first | (with_reducible assumption) | assumption)
                obtain ⟨ad167, e167, hx167_0, hx167_1, hx167_2⟩ := at_T135 HR0.out x5_1 p167 q167
                cases e167
                replace p167 := eq_true p167
                replace q167 := eq_true q167
                have p168 : 0 ≤ (x5_1 : Int) := of_decide_eq_true (by first | (with_reducible assumption) | assumption)
                have q168 : x5_1 < (l1.length : Int) := of_decide_eq_true (by first | (with_reducible assumption) | assumption)
                obtain ⟨ad168, e168, hx168_0, hx168_1, hx168_2⟩ := at_T135 HR1.out x5_1 p168 q168
                cases e168
                replace p168 := eq_true p168
                replace q168 := eq_true q168
                go_wp2
                repeat (go_quiet (fail); try go_wp2)
                go_ret
                exact ⟨by first | rfl | (simp; done) | (simp [*]; done), by repeat (first | exact Drawn0.refl _ | apply Drawn0.step)⟩
            · rw [if_neg c6] at H
              exact absurd H (by simp)
          · rw [if_neg c5] at H
            exact absurd H (by simp)
        · rw [if_neg c4] at H
          have c4b0 : decide (x5_1 < (l0.length : Int)) = false := decide_eq_false c4
          clear c4
          obtain rfl := Option.some.inj H
          go_wp2
          repeat (go_quiet (fail); try go_wp2)
          go_ret
          exact ⟨by first | rfl | (simp; done) | (simp [*]; done), by repeat (first | exact Drawn0.refl _ | apply Drawn0.step)⟩
  · rw [if_neg c3] at H
    have c3b0 : ((l0.length : Int) == (l1.length : Int)) = false := beq_eq_false_iff_ne.mpr c3
    have c3b1 : ((l0.length : Int) != (l1.length : Int)) = true := bne_iff_ne.mpr c3
    have c3b2 : (l0.length == l1.length) = false := by first | simpa using c3 | (simp at c3 ⊢; omega)
    obtain rfl := Option.some.inj H
    go_enter Try.func99, Try.ntmps99
    go_wp2
    repeat (go_quiet (fail); try go_wp2)
    go_ret
    exact ⟨by first | rfl | (simp; done) | (simp [*]; done), by repeat (first | exact Drawn0.refl _ | apply Drawn0.step)⟩
def emulsionbook_markExtents.l0 : Nat → Int → Int → Int → List (S135) → Int → Option ((List (S135)))
  | 0, _, _, _, _, _ => none
  | k + 1, x0, x1, x2, x7, x8 => if x8 < (wrap64 (x1 + x2)) then (if x7.length < 5864062014805 then (emulsionbook_markExtents.l0 k x0 x1 x2 (x7 ++ [(⟨wrap64 ((wrap64 ((wrap64 ((-1000) * x0)) - x8)) - 1), 0, 0⟩ : S135)]) (wrap64 (x8 + 1))) else (none)) else (some x7)
def emulsionbook_markExtents.f (k : Nat) (a0 : Int) (a1 : Int) (a2 : Int) : Option ((List (S135))) := emulsionbook_markExtents.l0 k a0 a1 a2 ([] : List (S135)) a1
theorem emulsionbook_markExtents.mono_l : ∀ k, (∀ y0 y1 y2 y3 y4, LeO (emulsionbook_markExtents.l0 k y0 y1 y2 y3 y4) (emulsionbook_markExtents.l0 (k + 1) y0 y1 y2 y3 y4))
  | 0 => fun _ _ _ _ _ r h => by simp [emulsionbook_markExtents.l0] at h
  | k + 1 => by
    have ih0 := emulsionbook_markExtents.mono_l k
    · intro y0 y1 y2 y3 y4
      unfold emulsionbook_markExtents.l0
      repeat' first
      | (with_reducible exact ih0 _ _ _ _ _)
      | (with_reducible exact LeO.refl _)
      | (with_reducible exact LeO.none _)
      | (with_reducible refine LeO.ite ?_ ?_)
      | (with_reducible refine LeO.bind ?_ (fun _ => ?_))
      | exact ih0 _ _ _ _ _
      | exact LeO.none _
      | refine LeO.ite ?_ ?_
      | refine LeO.bind ?_ (fun _ => ?_)
theorem emulsionbook_markExtents.mono : ∀ a0 a1 a2 k, LeO (emulsionbook_markExtents.f k a0 a1 a2) (emulsionbook_markExtents.f (k + 1) a0 a1 a2) := by
  intro a0 a1 a2 k
  have ih0 := emulsionbook_markExtents.mono_l k
  unfold emulsionbook_markExtents.f
  repeat' first
      | (with_reducible exact ih0 _ _ _ _ _)
      | (with_reducible exact LeO.refl _)
      | (with_reducible exact LeO.none _)
      | (with_reducible refine LeO.ite ?_ ?_)
      | (with_reducible refine LeO.bind ?_ (fun _ => ?_))
      | exact ih0 _ _ _ _ _
      | exact LeO.none _
      | refine LeO.ite ?_ ?_
      | refine LeO.bind ?_ (fun _ => ?_)
set_option maxHeartbeats 8000000 in
set_option maxRecDepth 100000 in
theorem emulsionbook_markExtents.calls (k : Nat) (a0 : Int) (a1 : Int) (a2 : Int) (r : List (S135)) (w : World) (h : emulsionbook_markExtents.f k a0 a1 a2 = some r) :
    Calls Try.prog 107 #[.int .i64 a0, .int .i64 a1, .int .i64 a2] w fun e w' => ∃ v0_ : Value, e = .returned (v0_) ∧ Kd.R k135 135 w' w.heap.size (fun _ => True) v0_ r ∧ Below w.heap.size w w' := by
  have hu135 := Try.underlying135
  have HB := Aside0.mk (Below.refl w.heap.size w)
  have H : (emulsionbook_markExtents.l0 k a0 a1 a2 ([] : List (S135)) a1) = some r := h
  clear h
  have H' := Aside0.mk H
  clear H
  go_enter Try.func107, Try.ntmps107
  go_wp2
  go_loopg [7, 8] k (fun kq v7 v8 w' => ∃ (x7_1 : List (S135)) (x8_1 : Int), v8 = .int .i64 x8_1 ∧ Aside0 (emulsionbook_markExtents.l0 kq a0 a1 a2 x7_1 x8_1 = some r) ∧ Aside0 (kq ≤ k) ∧ Aside0 (Kd.R k135 135 w' w.heap.size (fun _ => True) v7 x7_1) ∧ Aside0 (Below w.heap.size w w'))
  case atStart => exact ⟨(([] : List (S135))), (a1), (by first | rfl | (simp; done) | (simp [*]; done)), H', ⟨Nat.le_refl _⟩, ⟨by first | exact Kd.R_nil _ _ _ _ _ | exact Kd.N_nil _ _ _ _ _ | exact Kd.V_nil _ _ _ _ _ | exact Kd.Q_nil _ _ _ _ _ | exact Kd.S_nil _ _ _ _ _⟩, ⟨by repeat (first | (with_reducible first | exact HB.out | apply below_alloc | apply pw_below_drewN | apply below_drew1) | exact HB.out)⟩⟩
  case round =>
    clear H'
    try clear c1
    try clear p2
    obtain ⟨x7_1, x8_1, rfl, HA, HK1, HO_7, HB⟩ := hrel
    cases gk with
    | zero => exact absurd HA.out (by simp [emulsionbook_markExtents.l0])
    | succ k1 =>
      have H := HA.out
      clear HA
      simp only [emulsionbook_markExtents.l0] at H
      by_cases c4 : x8_1 < (wrap64 (a1 + a2))
      · rw [if_pos c4] at H
        have c4b0 : decide (x8_1 < (wrap64 (a1 + a2))) = true := decide_eq_true c4
        clear c4
        by_cases c5 : x7_1.length < 5864062014805
        · rw [if_pos c5] at H
          have LMc5 := Aside0.mk c5
          clear c5
          obtain ⟨y169, hy169⟩ : ∃ y_ : List (S135), y_ = (x7_1 ++ [(⟨wrap64 ((wrap64 ((wrap64 ((-1000) * a0)) - x8_1)) - 1), 0, 0⟩ : S135)]) := ⟨_, rfl⟩
          replace H : (emulsionbook_markExtents.l0 k1 a0 a1 a2 y169 (wrap64 (x8_1 + 1))) = some r := by first | (rw [hy169]; with_reducible exact H) | (have H2_ := (Option.bind_some _ _).symm.trans H; rw [hy169]; with_reducible exact H2_) | (have H2_ := (Option.bind_some _ _).symm.trans H; with_reducible exact H2_) | with_reducible exact H | (rw [hy169]; exact H) | exact H
          have Ny169 := Aside0.mk hy169
          clear hy169
          have H' := Aside0.mk H
          clear H
          go_wp2_with (first | ((with_reducible refine gate_builtin (b := .append) (xs := #[.tmp 17, .tmp 24]) rfl ?_); at_builtin; refine Kd.R_append k135 (w0 := w) w.heap.size rfl (.tmp 17) (.tmp 24) 120 135 (.agg #[(.int .i64 0), (.int .i64 0), (.int .i64 0)]) 24 rfl Try.underlying120 info135 rfl (by decide) (by omega) u7 x7_1 (⟨wrap64 ((wrap64 ((wrap64 ((-1000) * a0)) - x8_1)) - 1), 0, 0⟩ : S135) [.int .i64 (wrap64 ((wrap64 ((wrap64 ((-1000) * a0)) - x8_1)) - 1)), .int .i64 0, .int .i64 0] (fun _ => True) (fun _ => False) rfl rfl ?aP (fun _ hk => hk.elim) ?aF ?aO ?aB ?aS ?aL ?_; (case aP => exact k135_mkM _ _ _ (⟨wrap64 ((wrap64 ((wrap64 ((-1000) * a0)) - x8_1)) - 1), 0, 0⟩ : S135)); (case aB => exact (by repeat (first | (with_reducible first | exact HB.out | apply below_alloc | apply pw_below_drewN | apply below_drew1) | exact HB.out))); (case aF => exact (fun _ _ => trivial)); (case aO => exact (by (with_reducible repeat (first | apply Kd.R_alloc | apply Kd.R_drewN | apply Kd.R_drew)); exact HO_7.out)); (case aS => exact (below_size (by repeat (first | (with_reducible first | exact HB.out | apply below_alloc | apply pw_below_drewN | apply below_drew1) | exact HB.out)))); (case aL => have := LMc5.out; omega); intro v170 w6 ho hb hg hat; rw [← Ny169.out] at ho; have n0_ := Aside0.mk (hb); have n1_ := Aside0.mk (ho); clear HB; clear HO_7; have HB := n0_; have HO171 := n1_; clear n0_ n1_; clear ho hb hg hat))
          go_roundg k1
          case measure => have := HK1.out; omega
          case rel => exact ⟨(y169), (wrap64 (x8_1 + 1)), (by first | rfl | (simp; done) | (simp [*]; done)), H', ⟨by have := HK1.out; omega⟩, ⟨by (with_reducible repeat (first | apply Kd.R_alloc | apply Kd.R_drewN | apply Kd.R_drew)); exact HO171.out⟩, ⟨by repeat (first | (with_reducible first | exact HB.out | apply below_alloc | apply pw_below_drewN | apply below_drew1) | exact HB.out)⟩⟩
        · rw [if_neg c5] at H
          exact absurd H (by simp)
      · rw [if_neg c4] at H
        have c4b0 : decide (x8_1 < (wrap64 (a1 + a2))) = false := decide_eq_false c4
        clear c4
        obtain rfl := Option.some.inj H
        go_wp2
        go_ret
        exact ⟨_, by first | rfl | (simp [errW_none, errW_some] <;> rfl) | (simp [*, errW_none, errW_some] <;> rfl), by (with_reducible repeat (first | apply Kd.R_alloc | apply Kd.R_drewN | apply Kd.R_drew)); exact HO_7.out, by repeat (first | (with_reducible first | exact HB.out | apply below_alloc | apply pw_below_drewN | apply below_drew1) | exact HB.out)⟩
end Go.Proofs.Ytffemlfdhkndiaa.A
end
section
namespace Go.Proofs.Ytffemlfdhkndiaa.A
open Go.RowKit Go.Proofs.YtffemlfdhkndiaaW.PrintWords Go.Proofs.YtffemlfdhkndiaaW.PrintLast Go.Proofs.YtffemlfdhkndiaaW.PrintMore
attribute [local go_sem] max2_int min2_int max_two min_two max_three min_three max_four min_four   -- for this text's walks alone
set_option linter.unusedVariables false
set_option linter.unusedSimpArgs false
def emulsionbook_markedExtents.l0 : Nat → List (List (S135)) → Int → Option (Bool)
  | 0, _, _ => none
  | k + 1, x0, x3 => if x3 < (x0.length : Int) then (if 0 ≤ x3 then ((emulsionbook_markExtents.f k x3 0 ((rd_L8 x0 x3).length : Int)).bind fun t174 => ((emulsionbook_SameExtents.f k (rd_L8 x0 x3) t174).bind fun t177 => (if t177 = true then (emulsionbook_markedExtents.l0 k x0 (wrap64 (x3 + 1))) else (some false)))) else (none)) else (some true)
def emulsionbook_markedExtents.f (k : Nat) (l0 : List (List (S135))) : Option (Bool) := emulsionbook_markedExtents.l0 k l0 0
theorem emulsionbook_markedExtents.mono_l : ∀ k, (∀ y0 y1, LeO (emulsionbook_markedExtents.l0 k y0 y1) (emulsionbook_markedExtents.l0 (k + 1) y0 y1))
  | 0 => fun _ _ r h => by simp [emulsionbook_markedExtents.l0] at h
  | k + 1 => by
    have ih0 := emulsionbook_markedExtents.mono_l k
    · intro y0 y1
      unfold emulsionbook_markedExtents.l0
      repeat' first
      | (with_reducible exact ih0 _ _)
      | (with_reducible exact emulsionbook_SameExtents.mono _ _ _)
      | (with_reducible exact emulsionbook_markExtents.mono _ _ _ _)
      | (with_reducible exact LeO.refl _)
      | (with_reducible exact LeO.none _)
      | (with_reducible refine LeO.ite ?_ ?_)
      | (with_reducible refine LeO.bind ?_ (fun _ => ?_))
      | exact ih0 _ _
      | exact emulsionbook_SameExtents.mono _ _ _
      | exact emulsionbook_markExtents.mono _ _ _ _
      | exact LeO.none _
      | refine LeO.ite ?_ ?_
      | refine LeO.bind ?_ (fun _ => ?_)
theorem emulsionbook_markedExtents.mono : ∀ a0 k, LeO (emulsionbook_markedExtents.f k a0) (emulsionbook_markedExtents.f (k + 1) a0) := by
  intro a0 k
  have ih0 := emulsionbook_markedExtents.mono_l k
  unfold emulsionbook_markedExtents.f
  repeat' first
      | (with_reducible exact ih0 _ _)
      | (with_reducible exact emulsionbook_SameExtents.mono _ _ _)
      | (with_reducible exact emulsionbook_markExtents.mono _ _ _ _)
      | (with_reducible exact LeO.refl _)
      | (with_reducible exact LeO.none _)
      | (with_reducible refine LeO.ite ?_ ?_)
      | (with_reducible refine LeO.bind ?_ (fun _ => ?_))
      | exact ih0 _ _
      | exact emulsionbook_SameExtents.mono _ _ _
      | exact emulsionbook_markExtents.mono _ _ _ _
      | exact LeO.none _
      | refine LeO.ite ?_ ?_
      | refine LeO.bind ?_ (fun _ => ?_)
def emulsionbook_markedExtents.T4 : Bool × List (List Nat × List Nat) := (true, [([], []), ([], []), ([0, 1], [0, 1]), ([2], [2]), ([], []), ([], []), ([], []), ([5, 6], [5, 6]), ([7], [7]), ([8], [8]), ([4, 9], [4, 9]), ([3, 10, 10], [3, 10]), ([11], [11])])
def emulsionbook_markedExtents.B4 : List Nat := [0, 0, 3, 7, 0, 0, 0, 96, 224, 480, 1008, 2047, 4095]
theorem emulsionbook_markedExtents.tab4 : rtab .any (opsOf Try.f82 4) = emulsionbook_markedExtents.T4 := by kernel_rfl
theorem emulsionbook_markedExtents.bits4 : waitsOk emulsionbook_markedExtents.T4.2 emulsionbook_markedExtents.B4 = true := by kernel_rfl
set_option maxHeartbeats 8000000 in
set_option maxRecDepth 100000 in
theorem emulsionbook_markedExtents.calls (k : Nat) (A0 : Option Addr) (c0 : Nat) (l0 : List (List (S135))) (r : Bool) (w : World) (hr0 : Kd.C (Kd.slice 135 k135) w A0 l0.length l0) (hc0 : l0.length ≤ c0) (h : emulsionbook_markedExtents.f k l0 = some r) :
    Calls Try.prog 82 #[.slice A0 l0.length c0] w fun e w' => e = .returned (.bool r) ∧ Below w.heap.size w w' := by
  have HR0 := Aside0.mk hr0
  have HC0 := Aside0.mk hc0
  clear hr0 hc0
  have HB := Aside0.mk (Below.refl w.heap.size w)
  have H : (emulsionbook_markedExtents.l0 k l0 0) = some r := h
  clear h
  have H' := Aside0.mk H
  clear H
  go_enter Try.func82, Try.ntmps82
  go_wp2
  go_loopg [3] k (fun kq v3 w' => ∃ (x3_1 : Int), v3 = .int .i64 x3_1 ∧ Aside0 (emulsionbook_markedExtents.l0 kq l0 x3_1 = some r) ∧ Aside0 (kq ≤ k) ∧ Aside0 (Below w.heap.size w w'))
  case atStart => exact ⟨(0), (by first | rfl | (simp; done) | (simp [*]; done)), H', ⟨Nat.le_refl _⟩, ⟨by repeat (first | (with_reducible first | exact HB.out | apply below_alloc | apply pw_below_drewN | apply below_drew1) | exact HB.out)⟩⟩
  case round =>
    clear H'
    obtain ⟨x3_1, rfl, HA, HK1, HB⟩ := hrel
    cases gk with
    | zero => exact absurd HA.out (by simp [emulsionbook_markedExtents.l0])
    | succ k1 =>
      have H := HA.out
      clear HA
      simp only [emulsionbook_markedExtents.l0] at H
      by_cases c2 : x3_1 < (l0.length : Int)
      · rw [if_pos c2] at H
        have c2b0 : decide (x3_1 < (l0.length : Int)) = true := decide_eq_true c2
        clear c2
        by_cases c3 : 0 ≤ x3_1
        · rw [if_pos c3] at H
          have c3b0 : decide (0 ≤ x3_1) = true := decide_eq_true c3
          clear c3
          replace H := Option.bind_eq_some_iff.mp H
          obtain ⟨t174, A40, H⟩ := H
          replace H : ((emulsionbook_SameExtents.f k1 (rd_L8 l0 x3_1) t174).bind fun t177 => (if t177 = true then (emulsionbook_markedExtents.l0 k1 l0 (wrap64 (x3_1 + 1))) else (some false))) = some r := H
          have A4 := Aside0.mk A40
          clear A40
          replace H := Option.bind_eq_some_iff.mp H
          obtain ⟨t177, A50, H⟩ := H
          replace H : (if t177 = true then (emulsionbook_markedExtents.l0 k1 l0 (wrap64 (x3_1 + 1))) else (some false)) = some r := H
          have A5 := Aside0.mk A50
          clear A50
          by_cases c6 : t177 = true
          · subst c6
            have H1 : (emulsionbook_markedExtents.l0 k1 l0 (wrap64 (x3_1 + 1))) = some r := by rw [if_pos rfl] at H; exact H
            clear H
            have H := H1
            clear H1
            have H' := Aside0.mk H
            clear H
            try go_wp2
            have n0_ := Aside0.mk (below_drew1 HB.out)
            clear HB
            have HB := n0_
            clear n0_
            have p172 : 0 ≤ (x3_1 : Int) := of_decide_eq_true (by first | (with_reducible assumption) | assumption)
            have q172 : x3_1 < (l0.length : Int) := of_decide_eq_true (by first | (with_reducible assumption) | assumption)
            obtain ⟨ad172, A172_0, c172_0, e172, hx172_0, hl172_0, hi172_0⟩ := at_L8 HR0.out x3_1 p172 q172
            have hw172_0 := hx172_0
            cases e172
            replace hx172_0 := (HB.out.cell (World.block_lt_of_cell? w _ hx172_0)).trans hx172_0
            have HR172_0 := Aside0.mk hi172_0
            have HC172_0 := Aside0.mk hl172_0
            clear hi172_0 hl172_0
            replace p172 := eq_true p172
            replace q172 := eq_true q172
            have p173 : 0 ≤ (x3_1 : Int) := of_decide_eq_true (by first | (with_reducible assumption) | assumption)
            have q173 : x3_1 < (l0.length : Int) := of_decide_eq_true (by first | (with_reducible assumption) | assumption)
            obtain ⟨ad173, A173_0, c173_0, e173, hx173_0, hl173_0, hi173_0⟩ := at_L8 HR0.out x3_1 p173 q173
            have hw173_0 := hx173_0
            obtain rfl : ad172 = ad173 := (by injection e173)
            replace hx173_0 := (HB.out.cell (World.block_lt_of_cell? w _ hx173_0)).trans hx173_0
            have HR173_0 := Aside0.mk hi173_0
            have HC173_0 := Aside0.mk hl173_0
            clear hi173_0 hl173_0
            replace p173 := eq_true p173
            replace q173 := eq_true q173
            have ea_ := Option.some.inj (hx172_0.symm.trans hx173_0)
            injection ea_ with ea_ en_ ec_
            subst ea_
            subst ec_
            clear en_
            refine start_ (n := 13) (S := fun w' => w'.cell? (ad172.add (x3_1).toNat) = some (.slice A172_0 (rd_L8 l0 x3_1).length c172_0) ∧ w'.cell? (ad172.add (x3_1).toNat) = some (.slice A172_0 (rd_L8 l0 x3_1).length c172_0)) (ds := []) #[false, false, false, false, false, false, false, false, false, false, false, false, false] (by kernel_rfl) rfl rfl ⟨((HB.out.cell (World.block_lt_of_cell? w _ hw172_0)).trans hw172_0), ((HB.out.cell (World.block_lt_of_cell? w _ hw173_0)).trans hw173_0)⟩ (fun hHeld => ?_); refine with_tabW emulsionbook_markedExtents.tab4 emulsionbook_markedExtents.bits4 (fun HT_ HW_ => ?_)
            generalize wr.drew = w7 at HB HR172_0 HR173_0 hx172_0 hx173_0 hHeld ⊢
            refine pure_ (i := 0) (N := some 10) (v := ?_) (a' := ?_) #[true, false, false, false, false, false, false, false, false, false, false, false, false] rfl rfl (any_of HT_.out (by kernel_rfl)) (fun _ _ _ h => h) (Or.inl ⟨by rfl, ?_⟩) ?_ ?_
            rotate_left
            · intro w'
              go_simp
              with_reducible rfl
            rotate_left
            · simp only [Act.put, List.setIfInBounds_toArray, List.set_cons_zero, List.set_cons_succ, i64_w, i32_w]
              rfl
            refine pure_ (i := 1) (N := some 11) (v := ?_) (a' := ?_) #[true, true, false, false, false, false, false, false, false, false, false, false, false] rfl rfl (any_of HT_.out (by kernel_rfl)) (fun _ _ _ h => h) (Or.inl ⟨by rfl, ?_⟩) ?_ ?_
            rotate_left
            · intro w'
              go_simp
              with_reducible rfl
            rotate_left
            · simp only [Act.put, List.setIfInBounds_toArray, List.set_cons_zero, List.set_cons_succ, i64_w, i32_w]
              rfl
            refine pure_ (i := 2) (N := some 12) (v := ?_) (a' := ?_) #[true, true, true, false, false, false, false, false, false, false, false, false, false] rfl rfl (any_of HT_.out (by kernel_rfl)) (fun _ _ _ h => h) (Or.inl ⟨by rfl, ?_⟩) ?_ ?_
            rotate_left
            · intro w'
              go_simp
              with_reducible rfl
            rotate_left
            · simp only [Act.put, List.setIfInBounds_toArray, List.set_cons_zero, List.set_cons_succ, i64_w, i32_w]
              rfl
            refine pure_ (i := 4) (N := some 14) (v := ?_) (a' := ?_) #[true, true, true, false, true, false, false, false, false, false, false, false, false] rfl rfl (any_of HT_.out (by kernel_rfl)) (fun _ _ _ h => h) (Or.inl ⟨by rfl, ?_⟩) ?_ ?_
            rotate_left
            · intro w'
              go_simp
              with_reducible rfl
            rotate_left
            · simp only [Act.put, List.setIfInBounds_toArray, List.set_cons_zero, List.set_cons_succ, i64_w, i32_w]
              rfl
            refine pure_ (i := 5) (N := some 15) (v := ?_) (a' := ?_) #[true, true, true, false, true, true, false, false, false, false, false, false, false] rfl rfl (any_of HT_.out (by kernel_rfl)) (fun _ _ _ h => h) (Or.inl ⟨by rfl, ?_⟩) ?_ ?_
            rotate_left
            · intro w'
              go_simp
              with_reducible rfl
            rotate_left
            · simp only [Act.put, List.setIfInBounds_toArray, List.set_cons_zero, List.set_cons_succ, i64_w, i32_w]
              rfl
            refine pure_ (i := 6) (N := some 16) (v := ?_) (a' := ?_) #[true, true, true, false, true, true, true, false, false, false, false, false, false] rfl rfl (any_of HT_.out (by kernel_rfl)) (fun _ _ _ h => h) (Or.inl ⟨by rfl, ?_⟩) ?_ ?_
            rotate_left
            · intro w'
              go_simp
              with_reducible rfl
            rotate_left
            · simp only [Act.put, List.setIfInBounds_toArray, List.set_cons_zero, List.set_cons_succ, i64_w, i32_w]
              rfl
            refine pure_ (i := 7) (N := some 17) (v := ?_) (a' := ?_) #[true, true, true, false, true, true, true, true, false, false, false, false, false] rfl rfl (any_of HT_.out (by kernel_rfl)) (fun _ _ _ h => h) (Or.inl ⟨by rfl, ?_⟩) ?_ ?_
            rotate_left
            · intro w'
              go_simp
              with_reducible rfl
            rotate_left
            · simp only [Act.put, List.setIfInBounds_toArray, List.set_cons_zero, List.set_cons_succ, i64_w, i32_w]
              rfl
            refine take_ (i := 3) (N := some 13) (v := ?_) (a' := ?_) #[true, true, true, true, true, true, true, true, false, false, false, false, false] rfl rfl (take_ofW HT_.out HW_.out (by kernel_rfl)) (fun _ _ _ h => h) (Or.inl ⟨by rfl, ?_⟩) hHeld ?_ ?_
            rotate_left
            · rintro w' ⟨s0, s1⟩
              go_simp
              with_reducible rfl
            rotate_left
            · simp only [Act.put, List.setIfInBounds_toArray, List.set_cons_zero, List.set_cons_succ, i64_w, i32_w]
              rfl
            refine take_ (i := 8) (N := some 18) (v := ?_) (a' := ?_) #[true, true, true, true, true, true, true, true, true, false, false, false, false] rfl rfl (take_ofW HT_.out HW_.out (by kernel_rfl)) (fun _ _ _ h => h) (Or.inl ⟨by rfl, ?_⟩) hHeld ?_ ?_
            rotate_left
            · rintro w' ⟨s0, s1⟩
              go_simp
              with_reducible rfl
            rotate_left
            · simp only [Act.put, List.setIfInBounds_toArray, List.set_cons_zero, List.set_cons_succ, i64_w, i32_w]
              rfl
            refine pure_ (i := 9) (N := some 19) (v := ?_) (a' := ?_) #[true, true, true, true, true, true, true, true, true, true, false, false, false] rfl rfl (any_of HT_.out (by kernel_rfl)) (fun _ _ _ h => h) (Or.inl ⟨by rfl, ?_⟩) ?_ ?_
            rotate_left
            · intro w'
              go_simp
              with_reducible rfl
            rotate_left
            · simp only [Act.put, List.setIfInBounds_toArray, List.set_cons_zero, List.set_cons_succ, i64_w, i32_w]
              rfl
            refine one_ (i := 10) (N := some 20) #[true, true, true, true, true, true, true, true, true, true, true, false, false] rfl rfl (one_of HT_.out (by kernel_rfl)) (by decide) (fun K hK => ?_)
            refine goes_ Try.func107 (by kernel_rfl) rfl #[.int .i64 x3_1, .int .i64 0, .int .i64 ((rd_L8 l0 x3_1).length : Int)] (by rfl) rfl rfl (by (try simp only [List.map_toArray, List.map_cons, List.map_nil]); first | done | rfl | (simp only [List.length_drop, List.length_take]; rfl)) ?_
            with_reducible refine (emulsionbook_markExtents.calls k1 x3_1 0 ((rd_L8 l0 x3_1).length : Int) t174 _ A4.out).mono ?_
            rintro e w8 ⟨v175, rfl, ho0, hb⟩
            refine ⟨_, rfl, ?_⟩
            have n0_ := Aside0.mk (Kd.R_lower ho0 (below_size (by repeat (first | (with_reducible first | exact HB.out | apply below_alloc | apply pw_below_drewN | apply below_drew1) | exact HB.out))))
            have n1_ := Aside0.mk (below_step (by repeat (first | (with_reducible first | exact HB.out | apply below_alloc | apply pw_below_drewN | apply below_drew1) | exact HB.out)) hb)
            clear HB
            have HO176 := n0_
            have HB := n1_
            clear n0_ n1_
            (try clear hb)
            (try clear hb2)
            (try clear hk)
            (try clear hi)
            (try clear ho0)
            obtain ⟨Ao9, co9, eo9⟩ := Kd.R_slice HO176.out
            (first | subst eo9 | (injection eo9 with f1_ f2_ f3_; have f4_ := f1_.symm; have f5_ := f3_.symm; clear f1_ f2_ f3_; subst f4_; subst f5_))
            refine hK.out _ _ ⟨((HB.out.cell (World.block_lt_of_cell? w _ hw172_0)).trans hw172_0), ((HB.out.cell (World.block_lt_of_cell? w _ hw173_0)).trans hw173_0)⟩ (fun hHeld => ?_)
            clear hK K
            refine norm_ (a' := ?_) ?_ ?_
            rotate_left
            · show Act.put _ (some 20) _ = _
              simp only [Act.put, List.setIfInBounds_toArray, List.set_cons_zero, List.set_cons_succ, i64_w, i32_w]
              rfl
            refine one_ (i := 11) (N := some 21) #[true, true, true, true, true, true, true, true, true, true, true, true, false] rfl rfl (one_of HT_.out (by kernel_rfl)) (by decide) (fun K hK => ?_)
            refine goes_ Try.func99 (by kernel_rfl) rfl #[.slice A172_0 (rd_L8 l0 x3_1).length c172_0, .slice Ao9 t174.length co9] (by rfl) rfl rfl (by (try simp only [List.map_toArray, List.map_cons, List.map_nil]); first | done | rfl | (simp only [List.length_drop, List.length_take]; rfl)) ?_
            with_reducible refine (emulsionbook_SameExtents.calls k1 _ _ (rd_L8 l0 x3_1) _ _ t174 true _ ?side1 ?side2 ?side3 ?side4 A5.out).mono ?_
            (case side1 => repeat (first | exact (Kd.C_below HR172_0.out HB.out) | (with_reducible refine Kd.C_alloc ?_ _) | (with_reducible refine Kd.C_drewN ?_ _) | (with_reducible refine Kd.C_drew ?_)))
            (case side2 => exact HC172_0.out)
            (case side3 => repeat (first | exact (Kd.R_reads' HO176.out).2.2 | (with_reducible refine Kd.C_alloc ?_ _) | (with_reducible refine Kd.C_drewN ?_ _) | (with_reducible refine Kd.C_drew ?_)))
            (case side4 => exact (Kd.R_reads' HO176.out).2.1)
            rintro e w' ⟨rfl, ⟨nd, rfl⟩⟩
            refine ⟨_, rfl, ?_⟩
            refine hK.out _ _ ⟨((HB.out.cell (World.block_lt_of_cell? w _ hw172_0)).trans hw172_0), ((HB.out.cell (World.block_lt_of_cell? w _ hw173_0)).trans hw173_0)⟩ (fun hHeld => ?_)
            clear hK K
            refine norm_ (a' := ?_) ?_ ?_
            rotate_left
            · show Act.put _ (some 21) _ = _
              simp only [Act.put, List.setIfInBounds_toArray, List.set_cons_zero, List.set_cons_succ, i64_w, i32_w]
              rfl
            refine pure_ (i := 12) (N := some 22) (v := ?_) (a' := ?_) #[true, true, true, true, true, true, true, true, true, true, true, true, true] rfl rfl (any_of HT_.out (by kernel_rfl)) (fun _ _ _ h => h) (Or.inl ⟨by rfl, ?_⟩) ?_ ?_
            rotate_left
            · intro w'
              go_simp
              with_reducible rfl
            rotate_left
            · simp only [Act.put, List.setIfInBounds_toArray, List.set_cons_zero, List.set_cons_succ, i64_w, i32_w]
              rfl
            refine done_ (done_of HT_.out (by kernel_rfl)) ?_
            try go_wp2
            go_roundg k1
            case measure => have := HK1.out; omega
            case rel => exact ⟨(wrap64 (x3_1 + 1)), (by first | rfl | (simp; done) | (simp [*]; done)), H', ⟨by have := HK1.out; omega⟩, ⟨by repeat (first | (with_reducible first | exact HB.out | apply below_alloc | apply pw_below_drewN | apply below_drew1) | exact HB.out)⟩⟩
          · replace c6 := Bool.eq_false_iff.mpr c6
            subst c6
            have H1 : (some false) = some r := by rw [if_neg (show ¬ (false = true) by decide)] at H; exact H
            clear H
            have H := H1
            clear H1
            obtain rfl := Option.some.inj H
            try go_wp2
            have n0_ := Aside0.mk (below_drew1 HB.out)
            clear HB
            have HB := n0_
            clear n0_
            have p172 : 0 ≤ (x3_1 : Int) := of_decide_eq_true (by first | (with_reducible assumption) | assumption)
            have q172 : x3_1 < (l0.length : Int) := of_decide_eq_true (by first | (with_reducible assumption) | assumption)
            obtain ⟨ad172, A172_0, c172_0, e172, hx172_0, hl172_0, hi172_0⟩ := at_L8 HR0.out x3_1 p172 q172
            have hw172_0 := hx172_0
            cases e172
            replace hx172_0 := (HB.out.cell (World.block_lt_of_cell? w _ hx172_0)).trans hx172_0
            have HR172_0 := Aside0.mk hi172_0
            have HC172_0 := Aside0.mk hl172_0
            clear hi172_0 hl172_0
            replace p172 := eq_true p172
            replace q172 := eq_true q172
            have p173 : 0 ≤ (x3_1 : Int) := of_decide_eq_true (by first | (with_reducible assumption) | assumption)
            have q173 : x3_1 < (l0.length : Int) := of_decide_eq_true (by first | (with_reducible assumption) | assumption)
            obtain ⟨ad173, A173_0, c173_0, e173, hx173_0, hl173_0, hi173_0⟩ := at_L8 HR0.out x3_1 p173 q173
            have hw173_0 := hx173_0
            obtain rfl : ad172 = ad173 := (by injection e173)
            replace hx173_0 := (HB.out.cell (World.block_lt_of_cell? w _ hx173_0)).trans hx173_0
            have HR173_0 := Aside0.mk hi173_0
            have HC173_0 := Aside0.mk hl173_0
            clear hi173_0 hl173_0
            replace p173 := eq_true p173
            replace q173 := eq_true q173
            have ea_ := Option.some.inj (hx172_0.symm.trans hx173_0)
            injection ea_ with ea_ en_ ec_
            subst ea_
            subst ec_
            clear en_
            refine start_ (n := 13) (S := fun w' => w'.cell? (ad172.add (x3_1).toNat) = some (.slice A172_0 (rd_L8 l0 x3_1).length c172_0) ∧ w'.cell? (ad172.add (x3_1).toNat) = some (.slice A172_0 (rd_L8 l0 x3_1).length c172_0)) (ds := []) #[false, false, false, false, false, false, false, false, false, false, false, false, false] (by kernel_rfl) rfl rfl ⟨((HB.out.cell (World.block_lt_of_cell? w _ hw172_0)).trans hw172_0), ((HB.out.cell (World.block_lt_of_cell? w _ hw173_0)).trans hw173_0)⟩ (fun hHeld => ?_); refine with_tabW emulsionbook_markedExtents.tab4 emulsionbook_markedExtents.bits4 (fun HT_ HW_ => ?_)
            generalize wr.drew = w10 at HB HR172_0 HR173_0 hx172_0 hx173_0 hHeld ⊢
            refine pure_ (i := 0) (N := some 10) (v := ?_) (a' := ?_) #[true, false, false, false, false, false, false, false, false, false, false, false, false] rfl rfl (any_of HT_.out (by kernel_rfl)) (fun _ _ _ h => h) (Or.inl ⟨by rfl, ?_⟩) ?_ ?_
            rotate_left
            · intro w'
              go_simp
              with_reducible rfl
            rotate_left
            · simp only [Act.put, List.setIfInBounds_toArray, List.set_cons_zero, List.set_cons_succ, i64_w, i32_w]
              rfl
            refine pure_ (i := 1) (N := some 11) (v := ?_) (a' := ?_) #[true, true, false, false, false, false, false, false, false, false, false, false, false] rfl rfl (any_of HT_.out (by kernel_rfl)) (fun _ _ _ h => h) (Or.inl ⟨by rfl, ?_⟩) ?_ ?_
            rotate_left
            · intro w'
              go_simp
              with_reducible rfl
            rotate_left
            · simp only [Act.put, List.setIfInBounds_toArray, List.set_cons_zero, List.set_cons_succ, i64_w, i32_w]
              rfl
            refine pure_ (i := 2) (N := some 12) (v := ?_) (a' := ?_) #[true, true, true, false, false, false, false, false, false, false, false, false, false] rfl rfl (any_of HT_.out (by kernel_rfl)) (fun _ _ _ h => h) (Or.inl ⟨by rfl, ?_⟩) ?_ ?_
            rotate_left
            · intro w'
              go_simp
              with_reducible rfl
            rotate_left
            · simp only [Act.put, List.setIfInBounds_toArray, List.set_cons_zero, List.set_cons_succ, i64_w, i32_w]
              rfl
            refine pure_ (i := 4) (N := some 14) (v := ?_) (a' := ?_) #[true, true, true, false, true, false, false, false, false, false, false, false, false] rfl rfl (any_of HT_.out (by kernel_rfl)) (fun _ _ _ h => h) (Or.inl ⟨by rfl, ?_⟩) ?_ ?_
            rotate_left
            · intro w'
              go_simp
              with_reducible rfl
            rotate_left
            · simp only [Act.put, List.setIfInBounds_toArray, List.set_cons_zero, List.set_cons_succ, i64_w, i32_w]
              rfl
            refine pure_ (i := 5) (N := some 15) (v := ?_) (a' := ?_) #[true, true, true, false, true, true, false, false, false, false, false, false, false] rfl rfl (any_of HT_.out (by kernel_rfl)) (fun _ _ _ h => h) (Or.inl ⟨by rfl, ?_⟩) ?_ ?_
            rotate_left
            · intro w'
              go_simp
              with_reducible rfl
            rotate_left
            · simp only [Act.put, List.setIfInBounds_toArray, List.set_cons_zero, List.set_cons_succ, i64_w, i32_w]
              rfl
            refine pure_ (i := 6) (N := some 16) (v := ?_) (a' := ?_) #[true, true, true, false, true, true, true, false, false, false, false, false, false] rfl rfl (any_of HT_.out (by kernel_rfl)) (fun _ _ _ h => h) (Or.inl ⟨by rfl, ?_⟩) ?_ ?_
            rotate_left
            · intro w'
              go_simp
              with_reducible rfl
            rotate_left
            · simp only [Act.put, List.setIfInBounds_toArray, List.set_cons_zero, List.set_cons_succ, i64_w, i32_w]
              rfl
            refine pure_ (i := 7) (N := some 17) (v := ?_) (a' := ?_) #[true, true, true, false, true, true, true, true, false, false, false, false, false] rfl rfl (any_of HT_.out (by kernel_rfl)) (fun _ _ _ h => h) (Or.inl ⟨by rfl, ?_⟩) ?_ ?_
            rotate_left
            · intro w'
              go_simp
              with_reducible rfl
            rotate_left
            · simp only [Act.put, List.setIfInBounds_toArray, List.set_cons_zero, List.set_cons_succ, i64_w, i32_w]
              rfl
            refine take_ (i := 3) (N := some 13) (v := ?_) (a' := ?_) #[true, true, true, true, true, true, true, true, false, false, false, false, false] rfl rfl (take_ofW HT_.out HW_.out (by kernel_rfl)) (fun _ _ _ h => h) (Or.inl ⟨by rfl, ?_⟩) hHeld ?_ ?_
            rotate_left
            · rintro w' ⟨s0, s1⟩
              go_simp
              with_reducible rfl
            rotate_left
            · simp only [Act.put, List.setIfInBounds_toArray, List.set_cons_zero, List.set_cons_succ, i64_w, i32_w]
              rfl
            refine take_ (i := 8) (N := some 18) (v := ?_) (a' := ?_) #[true, true, true, true, true, true, true, true, true, false, false, false, false] rfl rfl (take_ofW HT_.out HW_.out (by kernel_rfl)) (fun _ _ _ h => h) (Or.inl ⟨by rfl, ?_⟩) hHeld ?_ ?_
            rotate_left
            · rintro w' ⟨s0, s1⟩
              go_simp
              with_reducible rfl
            rotate_left
            · simp only [Act.put, List.setIfInBounds_toArray, List.set_cons_zero, List.set_cons_succ, i64_w, i32_w]
              rfl
            refine pure_ (i := 9) (N := some 19) (v := ?_) (a' := ?_) #[true, true, true, true, true, true, true, true, true, true, false, false, false] rfl rfl (any_of HT_.out (by kernel_rfl)) (fun _ _ _ h => h) (Or.inl ⟨by rfl, ?_⟩) ?_ ?_
            rotate_left
            · intro w'
              go_simp
              with_reducible rfl
            rotate_left
            · simp only [Act.put, List.setIfInBounds_toArray, List.set_cons_zero, List.set_cons_succ, i64_w, i32_w]
              rfl
            refine one_ (i := 10) (N := some 20) #[true, true, true, true, true, true, true, true, true, true, true, false, false] rfl rfl (one_of HT_.out (by kernel_rfl)) (by decide) (fun K hK => ?_)
            refine goes_ Try.func107 (by kernel_rfl) rfl #[.int .i64 x3_1, .int .i64 0, .int .i64 ((rd_L8 l0 x3_1).length : Int)] (by rfl) rfl rfl (by (try simp only [List.map_toArray, List.map_cons, List.map_nil]); first | done | rfl | (simp only [List.length_drop, List.length_take]; rfl)) ?_
            with_reducible refine (emulsionbook_markExtents.calls k1 x3_1 0 ((rd_L8 l0 x3_1).length : Int) t174 _ A4.out).mono ?_
            rintro e w11 ⟨v175, rfl, ho0, hb⟩
            refine ⟨_, rfl, ?_⟩
            have n0_ := Aside0.mk (Kd.R_lower ho0 (below_size (by repeat (first | (with_reducible first | exact HB.out | apply below_alloc | apply pw_below_drewN | apply below_drew1) | exact HB.out))))
            have n1_ := Aside0.mk (below_step (by repeat (first | (with_reducible first | exact HB.out | apply below_alloc | apply pw_below_drewN | apply below_drew1) | exact HB.out)) hb)
            clear HB
            have HO176 := n0_
            have HB := n1_
            clear n0_ n1_
            (try clear hb)
            (try clear hb2)
            (try clear hk)
            (try clear hi)
            (try clear ho0)
            obtain ⟨Ao12, co12, eo12⟩ := Kd.R_slice HO176.out
            (first | subst eo12 | (injection eo12 with f1_ f2_ f3_; have f4_ := f1_.symm; have f5_ := f3_.symm; clear f1_ f2_ f3_; subst f4_; subst f5_))
            refine hK.out _ _ ⟨((HB.out.cell (World.block_lt_of_cell? w _ hw172_0)).trans hw172_0), ((HB.out.cell (World.block_lt_of_cell? w _ hw173_0)).trans hw173_0)⟩ (fun hHeld => ?_)
            clear hK K
            refine norm_ (a' := ?_) ?_ ?_
            rotate_left
            · show Act.put _ (some 20) _ = _
              simp only [Act.put, List.setIfInBounds_toArray, List.set_cons_zero, List.set_cons_succ, i64_w, i32_w]
              rfl
            refine one_ (i := 11) (N := some 21) #[true, true, true, true, true, true, true, true, true, true, true, true, false] rfl rfl (one_of HT_.out (by kernel_rfl)) (by decide) (fun K hK => ?_)
            refine goes_ Try.func99 (by kernel_rfl) rfl #[.slice A172_0 (rd_L8 l0 x3_1).length c172_0, .slice Ao12 t174.length co12] (by rfl) rfl rfl (by (try simp only [List.map_toArray, List.map_cons, List.map_nil]); first | done | rfl | (simp only [List.length_drop, List.length_take]; rfl)) ?_
            with_reducible refine (emulsionbook_SameExtents.calls k1 _ _ (rd_L8 l0 x3_1) _ _ t174 false _ ?side1 ?side2 ?side3 ?side4 A5.out).mono ?_
            (case side1 => repeat (first | exact (Kd.C_below HR172_0.out HB.out) | (with_reducible refine Kd.C_alloc ?_ _) | (with_reducible refine Kd.C_drewN ?_ _) | (with_reducible refine Kd.C_drew ?_)))
            (case side2 => exact HC172_0.out)
            (case side3 => repeat (first | exact (Kd.R_reads' HO176.out).2.2 | (with_reducible refine Kd.C_alloc ?_ _) | (with_reducible refine Kd.C_drewN ?_ _) | (with_reducible refine Kd.C_drew ?_)))
            (case side4 => exact (Kd.R_reads' HO176.out).2.1)
            rintro e w' ⟨rfl, ⟨nd, rfl⟩⟩
            refine ⟨_, rfl, ?_⟩
            refine hK.out _ _ ⟨((HB.out.cell (World.block_lt_of_cell? w _ hw172_0)).trans hw172_0), ((HB.out.cell (World.block_lt_of_cell? w _ hw173_0)).trans hw173_0)⟩ (fun hHeld => ?_)
            clear hK K
            refine norm_ (a' := ?_) ?_ ?_
            rotate_left
            · show Act.put _ (some 21) _ = _
              simp only [Act.put, List.setIfInBounds_toArray, List.set_cons_zero, List.set_cons_succ, i64_w, i32_w]
              rfl
            refine pure_ (i := 12) (N := some 22) (v := ?_) (a' := ?_) #[true, true, true, true, true, true, true, true, true, true, true, true, true] rfl rfl (any_of HT_.out (by kernel_rfl)) (fun _ _ _ h => h) (Or.inl ⟨by rfl, ?_⟩) ?_ ?_
            rotate_left
            · intro w'
              go_simp
              with_reducible rfl
            rotate_left
            · simp only [Act.put, List.setIfInBounds_toArray, List.set_cons_zero, List.set_cons_succ, i64_w, i32_w]
              rfl
            refine done_ (done_of HT_.out (by kernel_rfl)) ?_
            try go_wp2
            go_ret
            exact ⟨by first | rfl | (simp [errW_none, errW_some] <;> rfl) | (simp [*, errW_none, errW_some] <;> rfl), by repeat (first | (with_reducible first | exact HB.out | apply below_alloc | apply pw_below_drewN | apply below_drew1) | exact HB.out)⟩
        · rw [if_neg c3] at H
          exact absurd H (by simp)
      · rw [if_neg c2] at H
        have c2b0 : decide (x3_1 < (l0.length : Int)) = false := decide_eq_false c2
        clear c2
        obtain rfl := Option.some.inj H
        go_wp2
        go_ret
        exact ⟨by first | rfl | (simp [errW_none, errW_some] <;> rfl) | (simp [*, errW_none, errW_some] <;> rfl), by repeat (first | (with_reducible first | exact HB.out | apply below_alloc | apply pw_below_drewN | apply below_drew1) | exact HB.out)⟩
end Go.Proofs.Ytffemlfdhkndiaa.A
end
