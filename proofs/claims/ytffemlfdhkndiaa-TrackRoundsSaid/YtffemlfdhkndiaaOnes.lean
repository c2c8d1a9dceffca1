/- How many bits are set: what math/bits answers; unions add up. No program but its plain form. -/
import Derived.Test.YtffemlfdhkndiaaBits
import Derived.Test.YtffemlfdhkndiaaAx22
namespace Go.Proofs.Ytffemlfdhkndiaa.Bits
open Go.RowKit Go.Proofs.YtffemlfdhkndiaaW.PrintWords Go.Proofs.Ytffemlfdhkndiaa.A
set_option linter.unusedVariables false

theorem and_cast (a : Nat) (m : Int) (k : Nat) (hm : m = (k : Int)) (ha : a < 18446744073709551616) (hk : k < 18446744073709551616) : Go.bits .and .u64 (a : Int) m = ((a &&& k : Nat) : Int) := by
  rw [hm]; exact and_u64 a k ha hk
theorem div_c (a : Nat) (m : Int) (k : Nat) (h : m = (k : Int)) : (a : Int) / m = ((a / k : Nat) : Int) := by rw [h]; exact (Int.natCast_ediv a k).symm
theorem div_lt (a k : Nat) (h : a < 18446744073709551616) : a / k < 18446744073709551616 := Nat.lt_of_le_of_lt (Nat.div_le_self _ _) h
theorem small_lt : ∀ n z, small 16 4 n z → 15 * z + 4 ≤ 4 * 16 ^ n := by
  intro n
  induction n with
  | zero => intro z h; have : z = 0 := h; subst this; decide
  | succ n ih =>
    intro z h
    have h2 := ih _ h.2
    have h1 : z % 16 ≤ 4 := h.1
    rw [Nat.pow_succ]
    generalize 16 ^ n = q at *
    omega
theorem small_lt16 (z : Nat) (h : small 16 4 16 z) : z / 16 + z < 18446744073709551616 := by
  have h5 := small_lt 16 z h
  rw [show (16 : Nat) ^ 16 = 18446744073709551616 by decide] at h5
  omega
theorem hand (t : Nat) (ht : t < 18446744073709551616) : Go.bits .and .i64 (wrap64 (t : Int)) 127 = ((t % 128 : Nat) : Int) := by
  show IntKind.i64.wrap (((BitVec.ofInt 64 (wrap64 (t : Int)) &&& BitVec.ofInt 64 127).toNat : Nat) : Int) = _
  have e1 : (BitVec.ofInt 64 (wrap64 (t : Int))).toNat = t := by
    rw [BitVec.toNat_ofInt, show ((2 ^ 64 : Nat) : Int) = 18446744073709551616 by decide]
    unfold wrap64; omega
  rw [BitVec.toNat_and, e1, show (BitVec.ofInt 64 127).toNat = 2 ^ 7 - 1 by decide, Nat.and_two_pow_sub_one_eq_mod, IntKind.wrap_i64, show (2 : Nat) ^ 7 = 128 by decide]
  omega
theorem w_nat (a : Nat) (ha : a < 18446744073709551616) : IntKind.u64.wrap (a : Int) = (a : Int) := by rw [wrap_u64]; omega
theorem ones_eq (x : Nat) (hx : x < 18446744073709551616) : bits_OnesCount64.f (x : Int) = some ((cnt x : Nat) : Int) := by
  have hA := stepA 32 x
  have hA1 := dg_lt 4 (fun d => d % 2 + d / 2) (fun d hd => by show d % 2 + d / 2 < 4; omega) (by decide) 32 x
  have hA2 := sumd_dg 4 (fun d => d % 2 + d / 2) (fun d hd => by show d % 2 + d / 2 < 4; omega) (by decide) 32 x
  have hA3 := sumf_split 2 (by decide) 32 x
  rw [show (2 : Nat) * 2 = 4 by decide] at hA3
  rw [rep5] at hA
  rw [show (4 : Nat) ^ 32 = 18446744073709551616 by decide] at hA1
  generalize hy : dg 4 (fun d => d % 2 + d / 2) 32 x = y at hA hA1 hA2
  have hB := stepB 16 y
  have hB1 := dg_lt 16 (fun d => d % 4 + d / 4) (fun d hd => by show d % 4 + d / 4 < 16; omega) (by decide) 16 y
  have hB2 := sumd_dg 16 (fun d => d % 4 + d / 4) (fun d hd => by show d % 4 + d / 4 < 16; omega) (by decide) 16 y
  have hB3 := sumf_split 4 (by decide) 16 y
  rw [show (4 : Nat) * 4 = 16 by decide] at hB3
  rw [rep3] at hB
  rw [show (16 : Nat) ^ 16 = 18446744073709551616 by decide] at hB1
  have hys : small 4 2 32 y := by rw [← hy]; exact small_dg 4 2 _ (by decide) (fun d hd => by show d % 2 + d / 2 ≤ 2; omega) (by decide) 32 x
  have hzs : ∀ n y, small 4 2 (n + n) y → small 16 4 n (dg 16 (fun d => d % 4 + d / 4) n y) := by
    intro n
    induction n with
    | zero => intro y _; exact rfl
    | succ n ih =>
      intro y h
      rw [show n + 1 + (n + 1) = (n + n) + 1 + 1 by omega] at h
      obtain ⟨h1, h2, h3⟩ := h
      rw [Nat.div_div_eq_div_mul] at h3
      show (y % 16 % 4 + y % 16 / 4 + 16 * dg 16 _ n (y / 16)) % 16 ≤ 4 ∧ small 16 4 n ((y % 16 % 4 + y % 16 / 4 + 16 * dg 16 _ n (y / 16)) / 16)
      have h4 : y % 16 % 4 + y % 16 / 4 ≤ 4 := by have h4 : y / 4 % 4 ≤ 2 := h2; omega
      generalize y % 16 % 4 + y % 16 / 4 = e at h4 ⊢
      rw [Nat.add_mul_mod_self_left, Nat.add_mul_div_left _ _ (by decide), Nat.div_eq_of_lt (by omega), Nat.zero_add]
      exact ⟨by omega, ih _ h3⟩
  have hz0 := hzs 16 y hys
  generalize hz : dg 16 (fun d => d % 4 + d / 4) 16 y = z at hB hB1 hB2 hz0
  have hC := stepC 8 z hz0
  rw [rep15] at hC
  have hu0 : small 256 8 8 (dg 256 (fun d => d % 16 + d / 16) 8 z) := by
    have : ∀ n z, small 16 4 (n + n) z → small 256 8 n (dg 256 (fun d => d % 16 + d / 16) n z) := by
      intro n
      induction n with
      | zero => intro y _; exact rfl
      | succ n ih =>
        intro y h
        rw [show n + 1 + (n + 1) = (n + n) + 1 + 1 by omega] at h
        obtain ⟨h1, h2, h3⟩ := h
        rw [Nat.div_div_eq_div_mul] at h3
        show (y % 256 % 16 + y % 256 / 16 + 256 * dg 256 _ n (y / 256)) % 256 ≤ 8 ∧ small 256 8 n ((y % 256 % 16 + y % 256 / 16 + 256 * dg 256 _ n (y / 256)) / 256)
        have h4 : y % 256 % 16 + y % 256 / 16 ≤ 8 := by have h4 : y / 16 % 16 ≤ 4 := h2; omega
        generalize y % 256 % 16 + y % 256 / 16 = e at h4 ⊢
        rw [Nat.add_mul_mod_self_left, Nat.add_mul_div_left _ _ (by decide), Nat.div_eq_of_lt (by omega), Nat.zero_add]
        exact ⟨by omega, ih _ h3⟩
    exact this 8 z hz0
  have hC2 := sumd_dg 256 (fun d => d % 16 + d / 16) (fun d hd => by show d % 16 + d / 16 < 256; omega) (by decide) 8 z
  have hC3 := sumf_split 16 (by decide) 8 z
  rw [show (16 : Nat) * 16 = 256 by decide] at hC3
  generalize dg 256 (fun d => d % 16 + d / 16) 8 z = u at hC hC2 hu0
  obtain ⟨hD, b1, b2, b3⟩ := last u hu0
  have hcnt : sumd 256 8 u = cnt x := by
    unfold cnt
    rw [hC2, hC3, ← hA3, ← hA2, ← hB3, ← hB2]
  clear hA2 hA3 hB2 hB3 hC2 hC3 hys hzs hu0
  have hz4 := small_lt16 z hz0
  clear hz0 hy hz
  unfold bits_OnesCount64.f
  rw [div_c x 2 2 rfl, and_cast (x / 2) 6148914691236517205 6148914691236517205 rfl (div_lt _ _ hx) (by decide), and_cast x 6148914691236517205 6148914691236517205 rfl hx (by decide), ← Int.natCast_add, hA, w_nat y hA1]
  rw [div_c y 4 4 rfl, and_cast (y / 4) 3689348814741910323 3689348814741910323 rfl (div_lt _ _ hA1) (by decide), and_cast y 3689348814741910323 3689348814741910323 rfl hA1 (by decide), ← Int.natCast_add, hB, w_nat z hB1]
  rw [div_c z 16 16 rfl, ← Int.natCast_add, w_nat _ hz4, and_cast (z / 16 + z) 1085102592571150095 1085102592571150095 rfl hz4 (by decide), hC]
  rw [div_c u 256 256 rfl, ← Int.natCast_add, w_nat _ b1, div_c _ 65536 65536 rfl, ← Int.natCast_add, w_nat _ b2]
  rw [div_c _ 4294967296 4294967296 rfl, ← Int.natCast_add, w_nat _ b3, hand _ b3, hD, hcnt]

/-- Each bit for itself: what is set in the one of two that have nothing in common is counted. -/
theorem sumd_add : ∀ (n x y z : Nat), (∀ i, i < n → (z.testBit i).toNat = (x.testBit i).toNat + (y.testBit i).toNat) → sumd 2 n z = sumd 2 n x + sumd 2 n y
  | 0, _, _, _, _ => rfl
  | n + 1, x, y, z, h => by
    have ih := sumd_add n (x / 2) (y / 2) (z / 2) (fun i hi => by
      have := h (i + 1) (by omega)
      rwa [Nat.testBit_succ, Nat.testBit_succ, Nat.testBit_succ] at this)
    have h0 := h 0 (by omega)
    rw [Nat.testBit_zero, Nat.testBit_zero, Nat.testBit_zero] at h0
    show z % 2 + sumd 2 n (z / 2) = x % 2 + sumd 2 n (x / 2) + (y % 2 + sumd 2 n (y / 2))
    rw [ih]
    have e : ∀ a : Nat, (decide (a % 2 = 1)).toNat = a % 2 := by
      intro a
      rcases Nat.mod_two_eq_zero_or_one a with h | h <;> rw [h] <;> rfl
    rw [e, e, e] at h0
    omega
theorem cnt_or (x y : Nat) : cnt (x ||| y) = cnt x + cnt (minus y x) :=
  sumd_add 64 _ _ _ (fun i hi => by
    rw [Nat.testBit_or, minus_test _ _ _ hi]
    cases x.testBit i <;> cases y.testBit i <;> rfl)
theorem cnt_zero : cnt 0 = 0 := by decide
theorem sumd_le : ∀ n x, sumd 2 n x ≤ n
  | 0, _ => Nat.le_refl _
  | n + 1, x => by have := sumd_le n (x / 2); show x % 2 + sumd 2 n (x / 2) ≤ n + 1; omega
theorem cnt_le (x : Nat) : cnt x ≤ 64 := sumd_le 64 x
theorem sumd_none : ∀ n x, (∀ i, i < n → x.testBit i = false) → sumd 2 n x = 0
  | 0, _, _ => rfl
  | n + 1, x, h => by
    have ih := sumd_none n (x / 2) (fun i hi => by have := h (i + 1) (by omega); rwa [Nat.testBit_succ] at this)
    have h0 := h 0 (by omega)
    rw [Nat.testBit_zero, decide_eq_false_iff_not] at h0
    show x % 2 + sumd 2 n (x / 2) = 0
    omega
theorem cnt_none (x : Nat) (h : ∀ i, i < 64 → x.testBit i = false) : cnt x = 0 := sumd_none 64 x h
end Go.Proofs.Ytffemlfdhkndiaa.Bits
