/- Marks of blocks: one contract of Mark at every span, and chapter 3's first call. -/
import Derived.Test.YtffemlfdhkndiaaDirt
import Derived.Test.YtffemlfdhkndiaaAx0
namespace Go.Proofs.Ytffemlfdhkndiaa.Hand
open Go.RowKit Go.Proofs.YtffemlfdhkndiaaW.PrintWords Go.Proofs.YtffemlfdhkndiaaW.PrintLast Go.Proofs.YtffemlfdhkndiaaW.PrintMore Go.Proofs.Ytffemlfdhkndiaa.A Go.Proofs.Ytffemlfdhkndiaa.Bits
set_option linter.unusedVariables false
set_option linter.unusedSimpArgs false
attribute [local go_sem] max2_int min2_int max_two min_two max_three min_three max_four min_four

/-- What a span marks of n blocks. -/
def markV (n : Nat) (a m : Int) : Nat := if wh a m then ones a.toNat m.toNat &&& ones 0 n else 0
theorem markV_lt (n : Nat) (a m : Int) : markV n a m < 18446744073709551616 := by
  unfold markV
  split
  · rename_i h; unfold wh at h; exact and_lt (ones_lt _ _ (by omega))
  · decide
theorem markV_test (n : Nat) (a m : Int) (i : Nat) : (markV n a m).testBit i = (decide (wh a m ∧ a ≤ i ∧ (i : Int) < a + m) && decide (i < n)) := by
  unfold markV
  by_cases h : wh a m
  · rw [if_pos h, Nat.testBit_and, ones_test, ones_test]
    unfold wh at h
    rw [Bool.eq_iff_iff]
    simp only [Bool.and_eq_true, decide_eq_true_eq]
    unfold wh
    omega
  · rw [if_neg h, Nat.zero_testBit]
    simp [h]
theorem cnt_pow : ∀ q : Nat, q < 64 → cnt (2 ^ q) = 1 := by decide
theorem minus_zero (x : Nat) : minus 0 x = 0 := by unfold minus; exact Nat.zero_and _
theorem dirt_mark (g n x : Nat) (a m : Int) (hn : n ≤ 64) (hx : x < 18446744073709551616) (w : World) (hd : DirtAt w g n x) :
    Calls Try.prog 16 #[ptr g, .agg #[.int .i64 a, .int .i64 m]] w fun e w' => e = .returned (.int .i64 ((cnt (minus (markV n a m) x) : Nat) : Int)) ∧ DirtAt w' g n (x ||| markV n a m) ∧ Only w w' g := by
  by_cases h : wh a m
  · have h' := h
    unfold wh at h'
    have := dirt_mark_yes g n x a.toNat m.toNat hn hx (by omega) (by omega) w hd
    rw [Int.toNat_of_nonneg (by omega), Int.toNat_of_nonneg (by omega)] at this
    unfold markV
    rw [if_pos h]
    exact this
  · refine (dirt_mark_no g n x a m h w hd).mono ?_
    rintro e w' ⟨rfl, hB⟩
    unfold markV
    rw [if_neg h, minus_zero, cnt_zero, Nat.or_zero]
    exact ⟨rfl, hd.keep hB, only_below (only_refl _ _) hB⟩
def alive3.f : Option Bool := some true
set_option maxRecDepth 100000 in
theorem alive3.calls (r : Bool) (w : World) (h : alive3.f = some r) :
    Calls Try.prog 13 #[] w fun e w' => e = .returned (.bool r) ∧ Below w.heap.size w w' := by
  obtain rfl := Option.some.inj h
  go_enter Try.func13, Try.ntmps13
  go_wp2_with fail
  refine (dirt_new 10 _).mono ?_
  rintro e w1 ⟨rfl, hd1, hB1⟩
  rw [show (min (max (10 : Int) 0) 64).toNat = 10 by decide] at hd1
  have HB : Aside0 (Below w.heap.size w w1) := ⟨hB1⟩
  have hm := dirt_mark w.heap.size 10 0 1 3 (by decide) (by decide) w1 hd1
  rw [show cnt (minus (markV 10 1 3) 0) = 3 by decide, show 0 ||| markV 10 1 3 = 14 by decide] at hm
  have Hm := Aside0.mk hm
  clear hm hd1 hB1
  go_wp2_with fail
  refine Hm.out.mono ?_
  rintro e w2 ⟨rfl, hd2, ho⟩
  have HB2 : Aside0 (Below w.heap.size w w2) := ⟨below_only HB.out ho (Nat.le_refl _)⟩
  have Hd2 := Aside0.mk hd2
  clear hd2 ho Hm HB
  go_wp2_with fail
  refine (dirt_bytes w.heap.size 10 14 (by decide) (by decide) _ Hd2.out).mono ?_
  rintro e w3 ⟨rfl, hB3⟩
  have HB3 : Aside0 (Below w.heap.size w w3) := ⟨below_step HB2.out hB3⟩
  have Hd3 := Aside0.mk (Hd2.out.keep hB3)
  rw [show strOfNums (bytesD 10 14) = ⟨#[14, 0]⟩ by decide]
  clear hB3 HB2 Hd2
  go_wp2_with fail
  refine (dirt_has w.heap.size 10 14 (by decide) (by decide) 2 _ Hd3.out).mono ?_
  rintro e w4 ⟨rfl, hB4⟩
  have HB4 : Aside0 (Below w.heap.size w w4) := ⟨below_step HB3.out hB4⟩
  have Hd4 := Aside0.mk (Hd3.out.keep hB4)
  rw [show (decide ((0 : Int) ≤ 2) && decide ((2 : Int) < ((10 : Nat) : Int)) && Nat.testBit 14 (2 : Int).toNat) = true by decide]
  clear hB4 HB3 Hd3
  go_wp2_with fail
  refine (dirt_count w.heap.size 10 14 (by decide) _ Hd4.out).mono ?_
  rintro e w5 ⟨rfl, hB5⟩
  have HB5 : Aside0 (Below w.heap.size w w5) := ⟨below_step HB4.out hB5⟩
  rw [show cnt 14 = 3 by decide]
  clear hB5 HB4 Hd4
  go_wp2_with fail
  go_ret
  exact ⟨rfl, HB5.out⟩
end Go.Proofs.Ytffemlfdhkndiaa.Hand
