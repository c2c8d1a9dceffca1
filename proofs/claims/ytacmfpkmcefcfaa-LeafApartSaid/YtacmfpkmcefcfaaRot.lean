/- Bits of 32, turned: as numbers alone, no program. -/
import Derived.Laws.BitsLemmas
import Derived.Test.YtacmfpkmcefcfaaWMore
namespace Go.Proofs.Ytacmfpkmcefcfaa.Rot
open Go.RowKit Go.Proofs.YtacmfpkmcefcfaaW.PrintWords
set_option linter.unusedVariables false

def rot1 (x : Int) : Int := (2 * x) % 4294967296 + x / 2147483648
def rotN : Nat → Int → Int
  | 0, x => x
  | n + 1, x => rotN n (rot1 x)

theorem rot1_in {x : Int} (h0 : 0 ≤ x) (h1 : x < 4294967296) : 0 ≤ rot1 x ∧ rot1 x < 4294967296 := by unfold rot1; omega
theorem rotN_in : ∀ (n : Nat) {x : Int}, 0 ≤ x → x < 4294967296 → 0 ≤ rotN n x ∧ rotN n x < 4294967296
  | 0, _, h0, h1 => ⟨h0, h1⟩
  | n + 1, _, h0, h1 => rotN_in n (rot1_in h0 h1).1 (rot1_in h0 h1).2
theorem rotN_add : ∀ (m n : Nat) (x : Int), rotN (m + n) x = rotN n (rotN m x)
  | 0, n, x => by rw [Nat.zero_add]; rfl
  | m + 1, n, x => by rw [show m + 1 + n = (m + n) + 1 by omega]; exact rotN_add m n (rot1 x)

theorem step (x P Q : Int) (hP : 0 < P) (hQ : 0 < Q) (hPQ : P * Q = 2147483648) (h0 : 0 ≤ x) (h1 : x < 4294967296) :
    rot1 (x % (2 * Q) * P + x / (2 * Q)) = x % Q * (2 * P) + x / Q := by
  have hx := Int.emod_add_mul_ediv x (2 * Q)
  have a0 := Int.emod_nonneg x (b := 2 * Q) (by omega)
  have a1 := Int.emod_lt_of_pos x (b := 2 * Q) (by omega)
  have b0 : 0 ≤ x / (2 * Q) := Int.ediv_nonneg h0 (by omega)
  have b1 : x / (2 * Q) < P := Int.ediv_lt_of_lt_mul (by omega) (by
    have : P * (2 * Q) = 2 * (P * Q) := by rw [Int.mul_left_comm]
    rw [this, hPQ]; omega)
  generalize x % (2 * Q) = a at *
  generalize x / (2 * Q) = b at *
  subst hx
  by_cases ha : a < Q
  · have e1 : (a + 2 * Q * b) % Q = a := by
      rw [show 2 * Q * b = Q * (2 * b) by rw [Int.mul_comm 2 Q, Int.mul_assoc], Int.add_mul_emod_self_left]
      exact Int.emod_eq_of_lt a0 ha
    have e2 : (a + 2 * Q * b) / Q = 2 * b := by
      rw [show 2 * Q * b = Q * (2 * b) by rw [Int.mul_comm 2 Q, Int.mul_assoc], Int.add_mul_ediv_left _ _ (by omega), Int.ediv_eq_zero_of_lt a0 ha]
      omega
    rw [e1, e2]
    have hm : a * P ≤ (Q - 1) * P := Int.mul_le_mul_of_nonneg_right (by omega) (by omega)
    have hn : 0 ≤ a * P := Int.mul_nonneg a0 (by omega)
    have hq : (Q - 1) * P = 2147483648 - P := by rw [Int.sub_mul, Int.mul_comm Q P, hPQ]; omega
    have hp2 : a * (2 * P) = 2 * (a * P) := by rw [Int.mul_left_comm]
    rw [hp2]
    unfold rot1
    generalize a * P = c at *
    omega
  · obtain ⟨d, rfl⟩ : ∃ d, a = d + Q := ⟨a - Q, by omega⟩
    have e0 : d + Q + 2 * Q * b = d + Q * (1 + 2 * b) := by rw [Int.mul_add, Int.mul_one, Int.mul_comm 2 Q, Int.mul_assoc]; omega
    have e1 : (d + Q + 2 * Q * b) % Q = d := by
      rw [e0, Int.add_mul_emod_self_left]
      exact Int.emod_eq_of_lt (by omega) (by omega)
    have e2 : (d + Q + 2 * Q * b) / Q = 1 + 2 * b := by
      rw [e0, Int.add_mul_ediv_left _ _ (by omega), Int.ediv_eq_zero_of_lt (by omega) (by omega)]
      omega
    rw [e1, e2]
    have hm : d * P ≤ (Q - 1) * P := Int.mul_le_mul_of_nonneg_right (by omega) (by omega)
    have hn : 0 ≤ d * P := Int.mul_nonneg (by omega) (by omega)
    have hq : (Q - 1) * P = 2147483648 - P := by rw [Int.sub_mul, Int.mul_comm Q P, hPQ]; omega
    have hp2 : d * (2 * P) = 2 * (d * P) := by rw [Int.mul_left_comm]
    rw [hp2, Int.add_mul, Int.mul_comm Q P, hPQ]
    unfold rot1
    generalize d * P = c at *
    omega

theorem rotN_closed {x : Int} (h0 : 0 ≤ x) (h1 : x < 4294967296) : ∀ (j k : Nat), k + j = 32 → rotN k x = x % 2 ^ j * 2 ^ k + x / 2 ^ j
  | j, 0, h => by
    obtain rfl : j = 32 := by omega
    show x = _
    rw [show (2 : Int) ^ 32 = 4294967296 by decide, show (2 : Int) ^ 0 = 1 by decide]
    omega
  | j, k + 1, h => by
    rw [rotN_add k 1, rotN_closed h0 h1 (j + 1) k (by omega)]
    have hp : (2 : Int) ^ (j + 1) = 2 * 2 ^ j := by rw [Int.pow_succ, Int.mul_comm]
    have hk : (2 : Int) ^ (k + 1) = 2 * 2 ^ k := by rw [Int.pow_succ, Int.mul_comm]
    rw [hp, hk]
    refine step x (2 ^ k) (2 ^ j) (Int.pow_pos (by decide)) (Int.pow_pos (by decide)) ?_ h0 h1
    rw [← Int.pow_add, show k + j = 31 by omega]
    decide

theorem rotN_32 {x : Int} (h0 : 0 ≤ x) (h1 : x < 4294967296) : rotN 32 x = x := by
  rw [rotN_closed h0 h1 0 32 rfl]
  rw [show (2 : Int) ^ 0 = 1 by decide]
  omega

/-- The two halves that a turn lays side by side. -/
theorem halves {x : Int} (h0 : 0 ≤ x) (h1 : x < 4294967296) (j k : Nat) (h : k + j = 32) : x * 2 ^ k % 4294967296 = x % 2 ^ j * 2 ^ k := by
  rw [show (4294967296 : Int) = 2 ^ j * 2 ^ k by rw [← Int.pow_add, show j + k = 32 by omega]; decide]
  rw [Int.mul_comm x, Int.mul_comm (2 ^ j), Int.mul_comm (x % 2 ^ j)]
  exact Int.mul_emod_mul_of_pos x _ (Int.pow_pos (by decide))

theorem wraps_u32 (n : Int) (h₀ : 0 ≤ n) (h₁ : n < 2 ^ 32) : IntKind.u32.wrap n = n := by
  rw [IntKind.wrap_u32]; rw [show (2 : Int) ^ 32 = 4294967296 by decide] at h₁; omega
theorem wrap_u64 (n : Int) : IntKind.u64.wrap n = n % 18446744073709551616 := by simp [IntKind.wrap, IntKind.bits, IntKind.signed]
theorem wraps_u64 (n : Int) (h₀ : 0 ≤ n) (h₁ : n < 2 ^ 64) : IntKind.u64.wrap n = n := by
  rw [wrap_u64]; rw [show (2 : Int) ^ 64 = 18446744073709551616 by decide] at h₁; omega
theorem pow64 : (2 : Int) ^ 64 = 18446744073709551616 := by decide
theorem pow32 : (2 : Int) ^ 32 = 4294967296 := by decide
theorem and31_u64 (x : Int) : Go.bits .and .u64 (IntKind.u64.wrap x) 31 = x % 32 := by
  have h := bits_mask .u64 64 (by decide) wraps_u64 5 (by decide) (IntKind.u64.wrap x) (by rw [wrap_u64]; omega) (by rw [wrap_u64, pow64]; omega)
  rw [show (2 : Int) ^ 5 - 1 = 31 by decide, show (2 : Int) ^ 5 = 32 by decide] at h
  rw [h, wrap_u64]; omega
theorem and31_i64 (x : Int) : Go.bits .and .i64 x 31 = x % 32 := by
  show IntKind.i64.wrap (((BitVec.ofInt 64 x &&& BitVec.ofInt 64 31).toNat : Nat) : Int) = _
  rw [BitVec.toNat_and, show (BitVec.ofInt 64 31).toNat = 2 ^ 5 - 1 by decide, Nat.and_two_pow_sub_one_eq_mod, BitVec.toNat_ofInt, IntKind.wrap_i64]
  have : ((x % ((2 ^ 64 : Nat) : Int)).toNat : Int) = x % 18446744073709551616 := by
    rw [show ((2 ^ 64 : Nat) : Int) = 18446744073709551616 by decide]; omega
  omega

/-- A turn as Go reckons it. -/
theorem turn_bits {x : Int} (h0 : 0 ≤ x) (h1 : x < 4294967296) (k : Int) (hk0 : 0 ≤ k) (hk1 : k < 32) :
    Go.bits .or .u32 (shl .u32 x k) (shr .u32 x (IntKind.u64.wrap (32 - k))) = rotN k.toNat x := by
  obtain ⟨n, rfl⟩ := Int.eq_ofNat_of_zero_le hk0
  have hs : shl .u32 x (n : Int) = x % 2 ^ (32 - n) * 2 ^ n := by
    unfold shl
    rw [IntKind.wrap_u32, Int.toNat_natCast, show min n IntKind.u32.bits = n by simp only [IntKind.bits]; omega]
    exact halves h0 h1 (32 - n) n (by omega)
  have ht : shr .u32 x (IntKind.u64.wrap (32 - (n : Int))) = x / 2 ^ (32 - n) := by
    unfold shr
    rw [wrap_u64, show (32 - (n : Int)) % 18446744073709551616 = ((32 - n : Nat) : Int) by omega, Int.toNat_natCast, show min (32 - n) IntKind.u32.bits = 32 - n by simp only [IntKind.bits]; omega]
  rw [hs, ht, Int.toNat_natCast, rotN_closed h0 h1 (32 - n) n (by omega)]
  have hp : (0 : Int) < 2 ^ (32 - n) := Int.pow_pos (by decide)
  have hq : (0 : Int) < 2 ^ n := Int.pow_pos (by decide)
  have hpq : (2 : Int) ^ (32 - n) * 2 ^ n = 4294967296 := by rw [← Int.pow_add, show 32 - n + n = 32 by omega]; decide
  have ha0 := Int.emod_nonneg x (b := 2 ^ (32 - n)) (by omega)
  have ha1 := Int.emod_lt_of_pos x hp
  have hy1 : x / 2 ^ (32 - n) < 2 ^ n := Int.ediv_lt_of_lt_mul hp (by rw [Int.mul_comm, hpq]; exact h1)
  have hy2 : x / 2 ^ (32 - n) < 2 ^ 32 := by rw [pow32]; have := Int.ediv_le_self (2 ^ (32 - n)) h0; omega
  refine bits_join .u32 32 (by decide) wraps_u32 n _ _ (Int.mul_nonneg ha0 (by omega)) (Int.mul_emod_left _ _) ?_ (Int.ediv_nonneg h0 (by omega)) hy1 hy2
  rw [pow32, ← hpq]
  exact Int.mul_lt_mul_of_pos_right ha1 hq

/-- Mixed, as a number. -/
def mixv (a b : Int) : Int := Go.bits .xor .u32 (rotN 5 a) b * 2654435761 % 4294967296
theorem mixv_in (a b : Int) : 0 ≤ mixv a b ∧ mixv a b < 4294967296 := by unfold mixv; omega

end Go.Proofs.Ytacmfpkmcefcfaa.Rot
