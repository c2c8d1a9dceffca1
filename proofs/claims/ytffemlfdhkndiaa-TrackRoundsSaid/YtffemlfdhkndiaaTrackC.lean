/- Marks from backup to backup (track): each call by itself; chapter 6's first call. -/
import Derived.Test.YtffemlfdhkndiaaTrackB
import Derived.Test.YtffemlfdhkndiaaAx0
namespace Go.Proofs.Ytffemlfdhkndiaa.Hand
open Go.RowKit Go.Proofs.YtffemlfdhkndiaaW.PrintWords Go.Proofs.YtffemlfdhkndiaaW.PrintLast Go.Proofs.YtffemlfdhkndiaaW.PrintMore Go.Proofs.Ytffemlfdhkndiaa.A Go.Proofs.Ytffemlfdhkndiaa.Bits
set_option linter.unusedVariables false
set_option linter.unusedSimpArgs false
attribute [local go_sem] max2_int min2_int max_two min_two max_three min_three max_four min_four
theorem below_mix {w W W2 : World} {base : Nat} (h : Below w.heap.size w W) (hb : w.heap.size ≤ base) (k : Deep base W W2) : Below w.heap.size w W2 :=
  h.trans ⟨k.1.os, k.1.tape, k.1.output, k.1.size, fun i hi => k.1.block i (by omega)⟩
theorem freeze_ok (base gt n x1 x2 : Nat) (l1 l2 : Bool) (w : World) (hn : n ≤ 64) (h : TrackAt w base gt n x1 x2 l1 l2 false) :
    Calls Try.prog 37 #[ptr gt] w fun e w' => e = .returned (.int .i64 0) ∧ TrackAt w' base gt n 0 x1 false l1 true ∧ Deep base w w' :=
  track_freeze base gt n x1 x2 l1 l2 false w h hn
theorem freeze_busy (base gt n x1 x2 : Nat) (l1 l2 : Bool) (w : World) (hn : n ≤ 64) (h : TrackAt w base gt n x1 x2 l1 l2 true) :
    Calls Try.prog 37 #[ptr gt] w fun e w' => e = .returned (.int .i64 3) ∧ TrackAt w' base gt n x1 x2 l1 l2 true ∧ Deep base w w' :=
  track_freeze base gt n x1 x2 l1 l2 true w h hn
theorem commit_ok (base gt n x1 x2 : Nat) (l1 l2 : Bool) (w : World) (hn : n ≤ 64) (h : TrackAt w base gt n x1 x2 l1 l2 true) :
    Calls Try.prog 39 #[ptr gt] w fun e w' => e = .returned (.int .i64 0) ∧ TrackAt w' base gt n x1 0 l1 false false ∧ Deep base w w' :=
  track_commit base gt n x1 x2 l1 l2 true w h hn
theorem commit_idle (base gt n x1 x2 : Nat) (l1 l2 : Bool) (w : World) (hn : n ≤ 64) (h : TrackAt w base gt n x1 x2 l1 l2 false) :
    Calls Try.prog 39 #[ptr gt] w fun e w' => e = .returned (.int .i64 4) ∧ TrackAt w' base gt n x1 x2 l1 l2 false ∧ Deep base w w' :=
  track_commit base gt n x1 x2 l1 l2 false w h hn
theorem back_ok (base gt n x1 x2 : Nat) (l1 l2 : Bool) (w : World) (hn : n ≤ 64) (hx : x1 < 18446744073709551616) (hy : x2 < 18446744073709551616) (h : TrackAt w base gt n x1 x2 l1 l2 true) :
    Calls Try.prog 45 #[ptr gt] w fun e w' => e = .returned (.int .i64 0) ∧ TrackAt w' base gt n (x1 ||| (x2 &&& ones 0 n)) 0 (l1 || l2) false false ∧ Deep base w w' :=
  track_back base gt n x1 x2 l1 l2 true w h hn hx hy
theorem back_idle (base gt n x1 x2 : Nat) (l1 l2 : Bool) (w : World) (hn : n ≤ 64) (hx : x1 < 18446744073709551616) (hy : x2 < 18446744073709551616) (h : TrackAt w base gt n x1 x2 l1 l2 false) :
    Calls Try.prog 45 #[ptr gt] w fun e w' => e = .returned (.int .i64 4) ∧ TrackAt w' base gt n x1 x2 l1 l2 false ∧ Deep base w w' :=
  track_back base gt n x1 x2 l1 l2 false w h hn hx hy
theorem frozen_ok (base gt n x1 x2 : Nat) (l1 l2 : Bool) (w : World) (hn : n ≤ 64) (hy : x2 < 18446744073709551616) (h : TrackAt w base gt n x1 x2 l1 l2 true) :
    Calls Try.prog 38 #[ptr gt] w fun e w' => ∃ gr, e = .returned (ptrR gr) ∧ w.heap.size ≤ gr ∧ RunsAt w' w.heap.size gr (spansOf (markS n x2 l2)) ∧ Below w.heap.size w w' :=
  track_frozen base gt n x1 x2 l1 l2 true w h hn hy
theorem frozen_idle (base gt n x1 x2 : Nat) (l1 l2 : Bool) (w : World) (hn : n ≤ 64) (hy : x2 < 18446744073709551616) (h : TrackAt w base gt n x1 x2 l1 l2 false) :
    Calls Try.prog 38 #[ptr gt] w fun e w' => ∃ gr, e = .returned (ptrR gr) ∧ w.heap.size ≤ gr ∧ RunsAt w' w.heap.size gr [] ∧ Below w.heap.size w w' :=
  track_frozen base gt n x1 x2 l1 l2 false w h hn hy
set_option maxRecDepth 100000 in
theorem alive6 (w : World) :
    Calls Try.prog 35 #[] w fun e w' => e = .returned (.bool true) ∧ Below w.heap.size w w' := by
  have HB0 := Aside0.mk (Below.refl w.heap.size w)
  go_enter Try.func35, Try.ntmps35
  go_wp2_with fail
  refine (track_new 4 (by decide) (by decide) _).mono ?_
  rintro e w1 ⟨gt, rfl, ht, hB⟩
  obtain ⟨tb, htb⟩ : ∃ n, n = w.heap.size := ⟨_, rfl⟩
  rw [← htb] at ht
  have GB : Aside0 (w.heap.size ≤ tb) := ⟨by rw [htb]; exact HB0.out.size⟩
  have T1 := Aside0.mk ht
  have HB1 := Aside0.mk (below_step HB0.out hB)
  clear ht hB htb HB0
  go_wp2_with fail
  refine (track_lost tb gt 4 0 0 true false false _ T1.out).mono ?_
  rintro e w2 ⟨rfl, hB⟩
  have T2 := Aside0.mk (T1.out.keep hB)
  have HB2 := Aside0.mk (below_step HB1.out hB)
  clear hB HB1 T1
  go_wp2_with fail
  refine (freeze_ok tb gt 4 0 0 true false _ (by decide) T2.out).mono ?_
  rintro e w3 ⟨rfl, ht, hB⟩
  have T3 := Aside0.mk ht
  have HB3 := Aside0.mk (below_mix HB2.out GB.out hB)
  clear hB ht HB2 T2
  go_wp2_with fail
  refine (commit_ok tb gt 4 0 0 false true _ (by decide) T3.out).mono ?_
  rintro e w4 ⟨rfl, ht, hB⟩
  have T4 := Aside0.mk ht
  have HB4 := Aside0.mk (below_mix HB3.out GB.out hB)
  clear hB ht HB3 T3
  go_wp2_with fail
  refine (track_mark tb gt 4 0 0 false false false _ T4.out 1 1 (by decide) (by decide)).mono ?_
  rintro e w5 ⟨rfl, ht, hB⟩
  rw [show cnt (minus (markV 4 1 1) 0) = 1 by decide]
  rw [show 0 ||| markV 4 1 1 = 2 by decide] at ht
  have T5 := Aside0.mk ht
  have HB5 := Aside0.mk (below_mix HB4.out GB.out hB)
  clear hB ht HB4 T4
  go_wp2_with fail
  refine (freeze_ok tb gt 4 2 0 false false _ (by decide) T5.out).mono ?_
  rintro e w6 ⟨rfl, ht, hB⟩
  have T6 := Aside0.mk ht
  have HB6 := Aside0.mk (below_mix HB5.out GB.out hB)
  clear hB ht HB5 T5
  go_wp2_with fail
  refine (frozen_ok tb gt 4 0 2 false false _ (by decide) (by decide) T6.out).mono ?_
  rintro e w7 ⟨gr, rfl, hg, hr, hB⟩
  rw [show spansOf (markS 4 2 false) = [⟨1, 1⟩] by decide] at hr
  have T7 := Aside0.mk (T6.out.keep hB)
  have R_7 := Aside0.mk hr
  have GE_R : Aside0 (w.heap.size ≤ gr) := ⟨Nat.le_trans HB6.out.size hg⟩
  have HB7 := Aside0.mk (below_step HB6.out hB)
  clear hB hr hg HB6 T6
  go_wp2_with fail
  refine (runs_count _ gr [⟨1, 1⟩] _ ⟨by decide, by decide, by decide, trivial⟩ R_7.out).mono ?_
  rintro e w8 ⟨rfl, hB⟩
  rw [show sumN [⟨1, 1⟩] = 1 by decide]
  have T8 := Aside0.mk (T7.out.keep hB)
  have R_8 := Aside0.mk (R_7.out.keep hB)
  clear R_7
  have HB8 := Aside0.mk (below_step HB7.out hB)
  clear hB HB7 T7
  go_wp2_with fail
  refine (runs_has _ gr [⟨1, 1⟩] 1 _ ⟨by decide, by decide, by decide, trivial⟩ R_8.out).mono ?_
  rintro e w9 ⟨rfl, hB⟩
  rw [show memB [⟨1, 1⟩] 1 = true by decide]
  have T9 := Aside0.mk (T8.out.keep hB)
  have R_9 := Aside0.mk (R_8.out.keep hB)
  clear R_8
  have HB9 := Aside0.mk (below_step HB8.out hB)
  clear hB HB8 T8
  go_wp2_with fail
  refine (track_busy tb gt 4 0 2 false false true _ T9.out).mono ?_
  rintro e w10 ⟨rfl, hB⟩
  have T10 := Aside0.mk (T9.out.keep hB)
  have R_10 := Aside0.mk (R_9.out.keep hB)
  clear R_9
  have HB10 := Aside0.mk (below_step HB9.out hB)
  clear hB HB9 T9
  go_wp2_with fail
  refine (track_lost tb gt 4 0 2 false false true _ T10.out).mono ?_
  rintro e w11 ⟨rfl, hB⟩
  have T11 := Aside0.mk (T10.out.keep hB)
  have R_11 := Aside0.mk (R_10.out.keep hB)
  clear R_10
  have HB11 := Aside0.mk (below_step HB10.out hB)
  clear hB HB10 T10
  go_wp2_with fail
  go_ret
  exact ⟨rfl, HB11.out⟩
end Go.Proofs.Ytffemlfdhkndiaa.Hand
