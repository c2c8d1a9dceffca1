/- DirtMarks, walked: a block that was marked stays marked till all are wiped. -/
import Derived.Test.YtffemlfdhkndiaaDirtLaws
import Derived.Test.YtffemlfdhkndiaaAx0
namespace Go.Proofs.Ytffemlfdhkndiaa.WDirtMarks
open Go.RowKit Go.Proofs.YtffemlfdhkndiaaW.PrintWords Go.Proofs.YtffemlfdhkndiaaW.PrintLast Go.Proofs.YtffemlfdhkndiaaW.PrintMore Go.Proofs.Ytffemlfdhkndiaa.A Go.Proofs.Ytffemlfdhkndiaa.Bits Go.Proofs.Ytffemlfdhkndiaa.Hand
set_option linter.unusedVariables false
set_option linter.unusedSimpArgs false
attribute [local go_sem] max2_int min2_int max_two min_two max_three min_three max_four min_four

set_option maxRecDepth 100000 in
theorem early (b k : Int) (A : Option Addr) (c : Nat) (l : List S31) (w : World) (h : b < 1 ∨ 64 < b ∨ 30 < (l.length : Int)) :
    Calls Try.prog 4 #[.int .i64 b, .int .i64 k, .slice A l.length c] w fun e w' => e = .returned (.bool true) ∧ Below w.heap.size w w' := by
  by_cases h1 : b < 1
  · go_enter Try.func4, Try.ntmps4
    go_wp2_with (go_at_call 13; refine (alive3.calls true _ rfl).mono ?_; rintro e w1 ⟨rfl, hB⟩)
    go_ret
    exact ⟨rfl, hB⟩
  · by_cases h2 : 64 < b
    · go_enter Try.func4, Try.ntmps4
      go_wp2_with (go_at_call 13; refine (alive3.calls true _ rfl).mono ?_; rintro e w1 ⟨rfl, hB⟩)
      go_ret
      exact ⟨rfl, hB⟩
    · have h3 : 30 < (l.length : Int) := by omega
      go_enter Try.func4, Try.ntmps4
      go_wp2_with (go_at_call 13; refine (alive3.calls true _ rfl).mono ?_; rintro e w1 ⟨rfl, hB⟩)
      go_ret
      exact ⟨rfl, hB⟩
set_option maxRecDepth 100000 in
set_option maxHeartbeats 1600000 in
theorem main (n : Nat) (k : Int) (A : Option Addr) (c : Nat) (l : List S31) (w : World) (h1 : 1 ≤ n) (h2 : n ≤ 64) (h3 : l.length ≤ 30) (hC : Kd.C k31 w A l.length l) :
    Calls Try.prog 4 #[.int .i64 (n : Int), .int .i64 k, .slice A l.length c] w fun e w' => e = .returned (.bool true) ∧ Below w.heap.size w w' := by
  have HC := Aside0.mk hC
  clear hC
  have i1 : (1 : Int) ≤ (n : Int) := by omega
  have i2 : (n : Int) ≤ 64 := by omega
  have i3 : (l.length : Int) ≤ 30 := by omega
  have m1 : -(n : Int) < Int.tmod k (n : Int) := by have := Int.lt_tmod_of_pos k (b := (n : Int)) (by omega); omega
  have m2 : Int.tmod k (n : Int) < (n : Int) := Int.tmod_lt_of_pos k (by omega)
  go_enter Try.func4, Try.ntmps4
  go_wp2_with fail
  refine (alive3.calls true _ rfl).mono ?_
  rintro e w1 ⟨rfl, hB⟩
  have HB : Aside0 (Below w.heap.size w w1) := ⟨hB⟩
  clear hB
  go_wp2_with fail
  refine (dirt_new (n : Int) _).mono ?_
  rintro e w2 ⟨rfl, hd, hB⟩
  rw [show (min (max (n : Int) 0) 64).toNat = n by omega] at hd
  have HB2 : Aside0 (Below w.heap.size w w2) := ⟨below_step HB.out hB⟩
  have Hg : Aside0 (w.heap.size ≤ w1.heap.size) := ⟨HB.out.size⟩
  have Hd := Aside0.mk hd
  clear hB HB hd
  generalize w1.heap.size = g at *
  obtain ⟨q, hq1, hq2, hq⟩ : ∃ q : Nat, Int.tmod k (n : Int) % (n : Int) = (q : Int) ∧ (Int.tmod k (n : Int) + (n : Int)) % (n : Int) = (q : Int) ∧ q < n := by
    have a1 := Int.emod_nonneg (Int.tmod k (n : Int)) (b := (n : Int)) (by omega)
    have a2 := Int.emod_lt_of_pos (Int.tmod k (n : Int)) (b := (n : Int)) (by omega)
    exact ⟨(Int.tmod k (n : Int) % (n : Int)).toNat, by omega, by rw [Int.add_emod_right]; omega, by omega⟩
  have Hq1 := Aside0.mk hq1
  have Hq2 := Aside0.mk hq2
  clear hq1 hq2
  go_wp2_with fail
  rw [Hq1.out, Hq2.out]
  clear Hq1 Hq2 m1 m2
  have hmk : Aside0 ((markV n (q : Int) 1).testBit q = true ∧ cnt (minus (markV n (q : Int) 1) 0) = 1) := ⟨by
    have hv : markV n (q : Int) 1 = 2 ^ q := by
      apply Nat.eq_of_testBit_eq
      intro i
      rw [markV_test, Nat.testBit_two_pow, Bool.eq_iff_iff]
      simp only [Bool.and_eq_true, decide_eq_true_eq]
      unfold wh
      omega
    rw [hv]
    refine ⟨by rw [Nat.testBit_two_pow]; simp, ?_⟩
    have := cnt_or 0 (2 ^ q)
    rw [Nat.zero_or, cnt_zero] at this
    rw [cnt_pow q (by omega)] at this
    omega⟩
  refine (dirt_mark g n 0 (q : Int) 1 h2 (by decide) _ Hd.out).mono ?_
  rintro e w3 ⟨rfl, hd, ho⟩
  rw [hmk.out.2]
  rw [Nat.zero_or] at hd
  have HB3 : Aside0 (Below w.heap.size w w3) := ⟨below_only HB2.out ho Hg.out⟩
  have Hd3 := Aside0.mk hd
  have hx0 := markV_lt n (q : Int) 1
  have hx1 := hmk.out.1
  have hx2 : Aside0 (cnt (markV n (q : Int) 1) = 1) := ⟨by have := cnt_or 0 (markV n (q : Int) 1); rw [Nat.zero_or, cnt_zero, hmk.out.2] at this; omega⟩
  clear hd ho HB2 hmk Hd
  generalize markV n (q : Int) 1 = x at *
  go_wp2_with fail
  go_loopg [8, 9] l.length (fun kq v u wq => ∃ (i y : Nat), i + kq = l.length ∧ u = .int .i64 (i : Int) ∧ v = .int .i64 ((cnt y : Nat) : Int) ∧ y < 18446744073709551616 ∧ Aside0 (y.testBit q = true) ∧ Aside0 (Below w.heap.size w wq) ∧ Aside0 (DirtAt wq g n y))
  case atStart => exact ⟨0, x, by omega, rfl, by rw [hx2.out]; rfl, hx0, ⟨hx1⟩, HB3, Hd3⟩
  case round =>
    clear HB3 Hd3 hx0 hx1 hx2
    obtain ⟨i, y, hi, rfl, rfl, hy, Hy, HB, HD⟩ := hrel
    by_cases hlt : i < l.length
    · obtain ⟨ad, e1, x0, x1⟩ := at_T31 (Kd.C_below HC.out HB.out) (i : Int) (by omega) (by omega)
      subst e1
      rw [Int.toNat_natCast] at x0 x1
      obtain ⟨_, e1, z0, _⟩ := at_T31 HC.out (i : Int) (by omega) (by omega)
      cases e1
      have hadb : (ad.add (i * 2)).block ≠ g := by have := World.block_lt_of_cell? _ _ z0; rw [Int.toNat_natCast] at this; have := Hg.out; omega
      clear z0
      have hlt' : (i : Int) < (l.length : Int) := by omega
      obtain ⟨kk, rfl⟩ : ∃ z, gk = z + 1 := ⟨gk - 1, by omega⟩
      generalize rd_T31 l (i : Int) = X at *
      obtain ⟨F, M⟩ := X
      have hyc := cnt_le y
      have hvl := markV_lt n F M
      have hadd := Aside0.mk (cnt_or y (markV n F M))
      have hcl : ((cnt y : Nat) : Int) + ((cnt (minus (markV n F M) y) : Nat) : Int) ≤ 64 := by have := cnt_le (y ||| markV n F M); have := hadd.out; omega
      have hcl0 : (0 : Int) ≤ ((cnt y : Nat) : Int) := by omega
      have hcl1 : (0 : Int) ≤ ((cnt (minus (markV n F M) y) : Nat) : Int) := by omega
      have Hy2 : Aside0 ((y ||| markV n F M).testBit q = true) := ⟨by rw [Nat.testBit_or, Hy.out]; rfl⟩
      have hy2 := or_lt hy hvl
      have hag : Aside0 ((y ||| markV n F M) ||| markV n F M = y ||| markV n F M ∧ cnt (minus (markV n F M) (y ||| markV n F M)) = 0) := ⟨by
        refine ⟨by rw [Nat.or_assoc, Nat.or_self], cnt_none _ (fun j hj => ?_)⟩
        rw [minus_test _ _ _ hj, Nat.testBit_or]
        cases (markV n F M).testBit j <;> cases y.testBit j <;> rfl⟩
      go_wp2_with fail
      refine (dirt_mark g n y F M h2 hy _ HD.out).mono ?_
      rintro e w4 ⟨rfl, hd, ho⟩
      have HB4 : Aside0 (Below w.heap.size w w4) := ⟨below_only HB.out ho Hg.out⟩
      have HD4 := Aside0.mk hd
      replace x0 := keepO ho x0 hadb
      replace x1 := keepO ho x1 hadb
      clear hd ho HB HD
      go_wp2_with fail
      rw [← Int.natCast_add, ← hadd.out]
      refine (dirt_has g n _ h2 hy2 (q : Int) _ HD4.out).mono ?_
      rintro e w5 ⟨rfl, hB⟩
      rw [show (decide ((0 : Int) ≤ (q : Int)) && decide ((q : Int) < (n : Int)) && (y ||| markV n F M).testBit ((q : Int)).toNat) = true by rw [Int.toNat_natCast, Hy2.out]; simp; omega]
      have HB5 : Aside0 (Below w.heap.size w w5) := ⟨below_step HB4.out hB⟩
      have HD5 := Aside0.mk (HD4.out.keep hB)
      replace x0 := keepP hB x0
      replace x1 := keepP hB x1
      clear hB HB4 HD4
      go_wp2_with fail
      refine (dirt_count g n _ hy2 _ HD5.out).mono ?_
      rintro e w6 ⟨rfl, hB⟩
      have HB6 : Aside0 (Below w.heap.size w w6) := ⟨below_step HB5.out hB⟩
      have HD6 := Aside0.mk (HD5.out.keep hB)
      replace x0 := keepP hB x0
      replace x1 := keepP hB x1
      clear hB HB5 HD5
      go_wp2_with fail
      refine (dirt_mark g n _ F M h2 hy2 _ HD6.out).mono ?_
      rintro e w7 ⟨rfl, hd, ho⟩
      rw [hag.out.1] at hd
      rw [hag.out.2]
      have HB7 : Aside0 (Below w.heap.size w w7) := ⟨below_only HB6.out ho Hg.out⟩
      have HD7 := Aside0.mk hd
      clear hd ho HB6 HD6
      go_wp2_with fail
      go_roundg kk
      case measure => omega
      case rel => exact ⟨i + 1, y ||| markV n F M, by omega, by go_num, rfl, hy2, Hy2, HB7, HD7⟩
    · have hlt' : ¬ (i : Int) < (l.length : Int) := by omega
      go_wp2_with fail
      refine (dirt_wipe g n y _ HD.out).mono ?_
      rintro e w4 ⟨rfl, hd, ho⟩
      have HB4 : Aside0 (Below w.heap.size w w4) := ⟨below_only HB.out ho Hg.out⟩
      have HD4 := Aside0.mk hd
      clear hd ho HB HD
      go_wp2_with fail
      refine (dirt_count g n 0 (by decide) _ HD4.out).mono ?_
      rintro e w5 ⟨rfl, hB⟩
      rw [cnt_zero]
      have HB5 : Aside0 (Below w.heap.size w w5) := ⟨below_step HB4.out hB⟩
      have HD5 := Aside0.mk (HD4.out.keep hB)
      clear hB HB4 HD4
      go_wp2_with fail
      refine (dirt_has g n 0 h2 (by decide) (q : Int) _ HD5.out).mono ?_
      rintro e w6 ⟨rfl, hB⟩
      rw [Nat.zero_testBit, Bool.and_false]
      have HB6 : Aside0 (Below w.heap.size w w6) := ⟨below_step HB5.out hB⟩
      have HD6 := Aside0.mk (HD5.out.keep hB)
      clear hB HB5 HD5
      go_wp2_with fail
      refine (dirt_blocks g n 0 _ HD6.out).mono ?_
      rintro e w7 ⟨rfl, hB⟩
      have HB7 : Aside0 (Below w.heap.size w w7) := ⟨below_step HB6.out hB⟩
      clear hB
      go_wp2_with fail
      go_ret
      exact ⟨by simp, HB7.out⟩
theorem walk (b k : Int) (A : Option Addr) (c : Nat) (l : List S31) (w : World) (_ : (Lit.int .i64 b).wf = true) (_ : (Lit.int .i64 k).wf = true) (_ : l.length ≤ c) (hC : Kd.C k31 w A l.length l) :
    Calls Try.prog 4 #[.int .i64 b, .int .i64 k, .slice A l.length c] w fun e w' => e = .returned (.bool true) ∧ Below w.heap.size w w' := by
  by_cases h : b < 1 ∨ 64 < b ∨ 30 < (l.length : Int)
  · exact early b k A c l w h
  · obtain ⟨n, rfl⟩ := Int.eq_ofNat_of_zero_le (show 0 ≤ b by omega)
    exact main n k A c l w (by omega) (by omega) (by omega) hC
end Go.Proofs.Ytffemlfdhkndiaa.WDirtMarks
