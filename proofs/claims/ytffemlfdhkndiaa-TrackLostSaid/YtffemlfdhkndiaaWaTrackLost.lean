/- TrackLost, walked: as soon as marks are lost all blocks count. -/
import Derived.Test.YtffemlfdhkndiaaTrackC
import Derived.Test.YtffemlfdhkndiaaAx0
namespace Go.Proofs.Ytffemlfdhkndiaa.WTrackLost
open Go.RowKit Go.Proofs.YtffemlfdhkndiaaW.PrintWords Go.Proofs.YtffemlfdhkndiaaW.PrintLast Go.Proofs.YtffemlfdhkndiaaW.PrintMore Go.Proofs.Ytffemlfdhkndiaa.A Go.Proofs.Ytffemlfdhkndiaa.Bits Go.Proofs.Ytffemlfdhkndiaa.Hand
set_option linter.unusedVariables false
set_option linter.unusedSimpArgs false
attribute [local go_sem] max2_int min2_int max_two min_two max_three min_three max_four min_four
set_option maxRecDepth 100000 in
theorem early (b m : Int) (w : World) (h : b < 1 ∨ (¬ b < 1 ∧ 64 < b) ∨ (¬ b < 1 ∧ ¬ 64 < b ∧ m < 0) ∨ (¬ b < 1 ∧ ¬ 64 < b ∧ ¬ m < 0 ∧ 10 < m)) :
    Calls Try.prog 11 #[.int .i64 b, .int .i64 m] w fun e w' => e = .returned (.bool true) ∧ Below w.heap.size w w' := by
  rcases h with h | ⟨h0, h⟩ | ⟨h0, h1, h⟩ | ⟨h0, h1, h2, h⟩
  all_goals
    go_enter Try.func11, Try.ntmps11
    go_wp2_with (go_at_call 35; refine (alive6 _).mono ?_; rintro e w1 ⟨rfl, hB⟩)
    go_ret
    exact ⟨rfl, hB⟩
theorem all_sum (n x : Nat) (hn : n ≤ 64) : sumN (spansOf (markS n x true)) = (n : Int) := by
  rw [sumN_cnt (Int.le_refl _) (spansOf_tidy _), cntB_congr (g := fun k => decide ((0 : Int) ≤ (k : Int) ∧ (k : Int) < 0 + (n : Int))) 64 (fun k hk => by
    rw [Bool.eq_iff_iff, memB_iff]
    show mem (spansOf (bitsS n allX)) _ ↔ _
    rw [bits_mem, decide_eq_true_eq]
    constructor
    · rintro ⟨h1, h2, h3, h4⟩; omega
    · rintro ⟨h1, h2⟩; exact ⟨h1, by omega, by omega, allX_bit _ (by omega)⟩), cntB_span 0 n (by omega) (by omega) 64]
  omega
set_option maxRecDepth 100000 in
set_option maxHeartbeats 1600000 in
theorem main (n : Nat) (m : Nat) (w : World) (h1 : 1 ≤ n) (h2 : n ≤ 64) (h3 : m ≤ 10) :
    Calls Try.prog 11 #[.int .i64 (n : Int), .int .i64 (m : Int)] w fun e w' => e = .returned (.bool true) ∧ Below w.heap.size w w' := by
  have i1 : ¬ (n : Int) < 1 := by omega
  have i2 : ¬ (64 : Int) < (n : Int) := by omega
  have i3 : ¬ (m : Int) < 0 := by omega
  have i4 : ¬ (10 : Int) < (m : Int) := by omega
  have i5 : (1 : Int) ≤ (n : Int) := by omega
  have i6 : (n : Int) ≤ 64 := by omega
  have HB0 := Aside0.mk (Below.refl w.heap.size w)
  go_enter Try.func11, Try.ntmps11
  go_wp2_with fail
  refine (alive6 _).mono ?_
  rintro e w1 ⟨rfl, hB⟩
  have HB1 := Aside0.mk (below_step HB0.out hB)
  clear hB HB0
  go_wp2_with fail
  refine (track_new n h1 h2 _).mono ?_
  rintro e w2 ⟨gt, rfl, ht, hB⟩
  obtain ⟨tb, htb⟩ : ∃ n, n = w1.heap.size := ⟨_, rfl⟩
  rw [← htb] at ht
  have GB : Aside0 (w.heap.size ≤ tb) := ⟨by rw [htb]; exact HB1.out.size⟩
  have T2 := Aside0.mk ht
  have HB2 := Aside0.mk (below_step HB1.out hB)
  clear ht hB htb HB1
  go_wp2_with fail
  go_loopg [7] m (fun kq v wq => ∃ i : Nat, i + kq = m ∧ v = .int .i64 (i : Int) ∧ Aside0 (Below w.heap.size w wq) ∧ Aside0 (TrackAt wq tb gt n 0 0 true false false))
  case atStart => exact ⟨0, by omega, rfl, HB2, T2⟩
  case round =>
    clear HB2 T2
    obtain ⟨i, hi, rfl, HB, HT⟩ := hrel
    by_cases hlt : i < m
    · have hlt' : (i : Int) < (m : Int) := by omega
      obtain ⟨kk, rfl⟩ : ∃ z, gk = z + 1 := ⟨gk - 1, by omega⟩
      go_wp2_with fail
      refine (track_lost tb gt n 0 0 true false false _ HT.out).mono ?_
      rintro e w11 ⟨rfl, hB⟩
      have T11 := Aside0.mk (HT.out.keep hB)
      have HB11 := Aside0.mk (below_step HB.out hB)
      clear hB HB HT
      go_wp2_with fail
      refine (freeze_ok tb gt n 0 0 true false _ h2 T11.out).mono ?_
      rintro e w12 ⟨rfl, ht, hB⟩
      have T12 := Aside0.mk ht
      have HB12 := Aside0.mk (below_mix HB11.out GB.out hB)
      clear hB ht HB11 T11
      go_wp2_with fail
      refine (track_lost tb gt n 0 0 false true true _ T12.out).mono ?_
      rintro e w13 ⟨rfl, hB⟩
      have T13 := Aside0.mk (T12.out.keep hB)
      have HB13 := Aside0.mk (below_step HB12.out hB)
      clear hB HB12 T12
      go_wp2_with fail
      refine (back_ok tb gt n 0 0 false true _ h2 (by decide) (by decide) T13.out).mono ?_
      rintro e w14 ⟨rfl, ht, hB⟩
      rw [Nat.zero_and, Nat.or_zero] at ht
      have T14 := Aside0.mk ht
      have HB14 := Aside0.mk (below_mix HB13.out GB.out hB)
      clear hB ht HB13 T13
      go_wp2_with fail
      refine (track_lost tb gt n 0 0 true false false _ T14.out).mono ?_
      rintro e w15 ⟨rfl, hB⟩
      have T15 := Aside0.mk (T14.out.keep hB)
      have HB15 := Aside0.mk (below_step HB14.out hB)
      clear hB HB14 T14
      go_wp2_with fail
      go_roundg kk
      case measure => omega
      case rel => exact ⟨i + 1, by omega, by go_num, HB15, T15⟩
    · have hlt' : ¬ (i : Int) < (m : Int) := by omega
      go_wp2_with fail
      refine (freeze_ok tb gt n 0 0 true false _ h2 HT.out).mono ?_
      rintro e w21 ⟨rfl, ht, hB⟩
      have T21 := Aside0.mk ht
      have HB21 := Aside0.mk (below_mix HB.out GB.out hB)
      clear hB ht HB HT
      go_wp2_with fail
      refine (commit_ok tb gt n 0 0 false true _ h2 T21.out).mono ?_
      rintro e w22 ⟨rfl, ht, hB⟩
      have T22 := Aside0.mk ht
      have HB22 := Aside0.mk (below_mix HB21.out GB.out hB)
      clear hB ht HB21 T21
      go_wp2_with fail
      refine (track_lost tb gt n 0 0 false false false _ T22.out).mono ?_
      rintro e w23 ⟨rfl, hB⟩
      have T23 := Aside0.mk (T22.out.keep hB)
      have HB23 := Aside0.mk (below_step HB22.out hB)
      clear hB HB22 T22
      go_wp2_with fail
      refine (track_lose tb gt n 0 0 false false false _ T23.out).mono ?_
      rintro e w24 ⟨rfl, ht, hB⟩
      have T24 := Aside0.mk ht
      have HB24 := Aside0.mk (below_mix HB23.out GB.out hB)
      clear hB ht HB23 T23
      go_wp2_with fail
      refine (track_now tb gt n 0 0 true false false _ T24.out h2 (by decide)).mono ?_
      rintro e w25 ⟨gr, rfl, hg, hr, hB⟩
      have T25 := Aside0.mk (T24.out.keep hB)
      have R_25 := Aside0.mk hr
      have GE_R : Aside0 (w.heap.size ≤ gr) := ⟨Nat.le_trans HB24.out.size hg⟩
      have HB25 := Aside0.mk (below_step HB24.out hB)
      clear hB hr hg HB24 T24
      go_wp2_with fail
      refine (track_lost tb gt n 0 0 true false false _ T25.out).mono ?_
      rintro e w26 ⟨rfl, hB⟩
      have T26 := Aside0.mk (T25.out.keep hB)
      have R_26 := Aside0.mk (R_25.out.keep hB)
      clear R_25
      have HB26 := Aside0.mk (below_step HB25.out hB)
      clear hB HB25 T25
      go_wp2_with fail
      refine (runs_count _ gr _ _ (spansOf_tidy _) R_26.out).mono ?_
      rintro e w27 ⟨rfl, hB⟩
      rw [all_sum n 0 h2]
      have T27 := Aside0.mk (T26.out.keep hB)
      have R_27 := Aside0.mk (R_26.out.keep hB)
      clear R_26
      have HB27 := Aside0.mk (below_step HB26.out hB)
      clear hB HB26 T26
      go_wp2_with fail
      go_ret
      exact ⟨rfl, HB27.out⟩
theorem walk (b m : Int) (w : World) (_ : (Lit.int .i64 b).wf = true) (_ : (Lit.int .i64 m).wf = true) :
    Calls Try.prog 11 #[.int .i64 b, .int .i64 m] w fun e w' => e = .returned (.bool true) ∧ Below w.heap.size w w' := by
  by_cases h : b < 1 ∨ (¬ b < 1 ∧ 64 < b) ∨ (¬ b < 1 ∧ ¬ 64 < b ∧ m < 0) ∨ (¬ b < 1 ∧ ¬ 64 < b ∧ ¬ m < 0 ∧ 10 < m)
  · exact early b m w h
  · obtain ⟨n, rfl⟩ := Int.eq_ofNat_of_zero_le (show 0 ≤ b by omega)
    obtain ⟨q, rfl⟩ := Int.eq_ofNat_of_zero_le (show 0 ≤ m by omega)
    exact main n q w (by omega) (by omega) (by omega)
end Go.Proofs.Ytffemlfdhkndiaa.WTrackLost
