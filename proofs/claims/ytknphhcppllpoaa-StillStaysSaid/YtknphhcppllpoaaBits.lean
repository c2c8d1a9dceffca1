/- Bits of 64 as numbers: and, or, runs of ones, how many are set. No program. -/
import Derived.Laws.BitsLemmas
import Derived.Test.YtknphhcppllpoaaWMore
namespace Go.Proofs.Ytknphhcppllpoaa.Bits
open Go.RowKit Go.Proofs.YtknphhcppllpoaaW.PrintWords
set_option linter.unusedVariables false

theorem wrap_u64 (n : Int) : IntKind.u64.wrap n = n % 18446744073709551616 := by simp [IntKind.wrap, IntKind.bits, IntKind.signed]
theorem p64 : 2 ^ 64 = 18446744073709551616 := by decide
theorem and_u64 (a b : Nat) (ha : a < 18446744073709551616) (hb : b < 18446744073709551616) : Go.bits .and .u64 (a : Int) (b : Int) = ((a &&& b : Nat) : Int) := by
  show IntKind.u64.wrap (((BitVec.ofInt 64 (a : Int) &&& BitVec.ofInt 64 (b : Int)).toNat : Nat) : Int) = _
  rw [BitVec.toNat_and, BitVec.ofInt_natCast, BitVec.ofInt_natCast, BitVec.toNat_ofNat, BitVec.toNat_ofNat, Nat.mod_eq_of_lt (by omega), Nat.mod_eq_of_lt (by omega), wrap_u64]
  have : a &&& b ≤ a := Nat.and_le_left
  omega
theorem or_u64 (a b : Nat) (ha : a < 18446744073709551616) (hb : b < 18446744073709551616) : Go.bits .or .u64 (a : Int) (b : Int) = ((a ||| b : Nat) : Int) := by
  show IntKind.u64.wrap (((BitVec.ofInt 64 (a : Int) ||| BitVec.ofInt 64 (b : Int)).toNat : Nat) : Int) = _
  rw [BitVec.toNat_or, BitVec.ofInt_natCast, BitVec.ofInt_natCast, BitVec.toNat_ofNat, BitVec.toNat_ofNat, Nat.mod_eq_of_lt (by omega), Nat.mod_eq_of_lt (by omega), wrap_u64]
  have : a ||| b < 2 ^ 64 := Nat.or_lt_two_pow (by omega) (by omega)
  omega
/-- What is in the one and not in the other. -/
def minus (a b : Nat) : Nat := a &&& (18446744073709551615 ^^^ b)
theorem minus_le (a b : Nat) : minus a b ≤ a := Nat.and_le_left
theorem andNot_u64 (a b : Nat) (ha : a < 18446744073709551616) (hb : b < 18446744073709551616) : Go.bits .andNot .u64 (a : Int) (b : Int) = ((minus a b : Nat) : Int) := by
  show IntKind.u64.wrap (((BitVec.ofInt 64 (a : Int) &&& ~~~ BitVec.ofInt 64 (b : Int)).toNat : Nat) : Int) = _
  have e : (~~~ BitVec.ofNat 64 b).toNat = 18446744073709551615 ^^^ b := by
    rw [BitVec.toNat_not, BitVec.toNat_ofNat, Nat.mod_eq_of_lt (by omega)]
    apply Nat.eq_of_testBit_eq
    intro i
    rw [show (18446744073709551615 : Nat) = 2 ^ 64 - 1 by decide, show 2 ^ 64 - 1 - b = 2 ^ 64 - (b + 1) by omega, Nat.testBit_two_pow_sub_succ (by omega), Nat.testBit_xor, Nat.testBit_two_pow_sub_one]
    by_cases h : i < 64
    · simp [h]
    · have : b.testBit i = false := Nat.testBit_lt_two_pow (Nat.lt_of_lt_of_le (show b < 2 ^ 64 by omega) (Nat.pow_le_pow_right (by decide) (by omega)))
      simp [h, this]
  rw [BitVec.toNat_and, BitVec.ofInt_natCast, BitVec.ofInt_natCast, e, BitVec.toNat_ofNat, Nat.mod_eq_of_lt (by omega), wrap_u64]
  have : a &&& (18446744073709551615 ^^^ b) ≤ a := Nat.and_le_left
  unfold minus
  omega
theorem minus_test (a b i : Nat) (hi : i < 64) : (minus a b).testBit i = (a.testBit i && !b.testBit i) := by
  unfold minus
  rw [Nat.testBit_and, Nat.testBit_xor, show (18446744073709551615 : Nat) = 2 ^ 64 - 1 by decide, Nat.testBit_two_pow_sub_one]
  simp [hi]

/-! ### runs of ones -/
def ones (f n : Nat) : Nat := (2 ^ n - 1) * 2 ^ f
theorem ones_test (f n i : Nat) : (ones f n).testBit i = (decide (f ≤ i) && decide (i < f + n)) := by
  unfold ones
  rw [Nat.testBit_mul_two_pow, Nat.testBit_two_pow_sub_one]
  by_cases h : f ≤ i
  · simp [h]; omega
  · simp [h]
theorem ones_lt (f n : Nat) (h : f + n ≤ 64) : ones f n < 18446744073709551616 := by
  unfold ones
  have h1 : (2 ^ n - 1) * 2 ^ f < 2 ^ n * 2 ^ f := Nat.mul_lt_mul_of_pos_right (by have := Nat.two_pow_pos n; omega) (Nat.two_pow_pos f)
  rw [← Nat.pow_add] at h1
  have h2 : 2 ^ (n + f) ≤ 2 ^ 64 := Nat.pow_le_pow_right (by decide) (by omega)
  omega

/-! ### how many are set -/
def sumd (b : Nat) : Nat → Nat → Nat
  | 0, _ => 0
  | n + 1, x => x % b + sumd b n (x / b)
def dg (b : Nat) (f : Nat → Nat) : Nat → Nat → Nat
  | 0, _ => 0
  | n + 1, x => f (x % b) + b * dg b f n (x / b)
def sumf (b : Nat) (f : Nat → Nat) : Nat → Nat → Nat
  | 0, _ => 0
  | n + 1, x => f (x % b) + sumf b f n (x / b)
theorem dg_lt (b : Nat) (f : Nat → Nat) (hf : ∀ d, d < b → f d < b) (hb : 0 < b) : ∀ n x, dg b f n x < b ^ n
  | 0, x => by simp [dg]
  | n + 1, x => by
    have h1 := dg_lt b f hf hb n (x / b)
    have h2 := hf (x % b) (Nat.mod_lt _ hb)
    have h3 : b * dg b f n (x / b) + b ≤ b * b ^ n := by rw [← Nat.mul_succ]; exact Nat.mul_le_mul_left _ h1
    rw [Nat.pow_succ, Nat.mul_comm (b ^ n)]
    show f (x % b) + b * dg b f n (x / b) < b * b ^ n
    omega
theorem sumd_dg (b : Nat) (f : Nat → Nat) (hf : ∀ d, d < b → f d < b) (hb : 0 < b) : ∀ n x, sumd b n (dg b f n x) = sumf b f n x
  | 0, x => rfl
  | n + 1, x => by
    have h2 := hf (x % b) (Nat.mod_lt _ hb)
    show (f (x % b) + b * dg b f n (x / b)) % b + sumd b n ((f (x % b) + b * dg b f n (x / b)) / b) = f (x % b) + sumf b f n (x / b)
    rw [Nat.add_mul_mod_self_left, Nat.mod_eq_of_lt h2, Nat.add_mul_div_left _ _ hb, Nat.div_eq_of_lt h2, Nat.zero_add, sumd_dg b f hf hb n]
theorem sumf_split (c : Nat) (hc : 0 < c) : ∀ n x, sumf (c * c) (fun e => e % c + e / c) n x = sumd c (n + n) x
  | 0, x => rfl
  | n + 1, x => by
    rw [show n + 1 + (n + 1) = (n + n) + 1 + 1 by omega]
    show x % (c * c) % c + x % (c * c) / c + sumf (c * c) _ n (x / (c * c)) = x % c + (x / c % c + sumd c (n + n) (x / c / c))
    rw [sumf_split c hc n, Nat.mod_mul_left_mod, Nat.mod_mul_right_div_self, Nat.div_div_eq_div_mul]
    omega
theorem and_split (a b k : Nat) : a &&& b = ((a % 2 ^ k) &&& (b % 2 ^ k)) + 2 ^ k * ((a / 2 ^ k) &&& (b / 2 ^ k)) := by
  rw [← Nat.and_mod_two_pow, ← Nat.and_div_two_pow]
  exact (Nat.mod_add_div _ _).symm
def rep (b m : Nat) : Nat → Nat
  | 0 => 0
  | n + 1 => m + b * rep b m n
theorem rep5 : rep 4 1 32 = 6148914691236517205 := by decide
theorem rep3 : rep 16 3 16 = 3689348814741910323 := by decide
theorem rep15 : rep 256 15 8 = 1085102592571150095 := by decide
theorem stepA : ∀ n x, (x / 2 &&& rep 4 1 n) + (x &&& rep 4 1 n) = dg 4 (fun d => d % 2 + d / 2) n x
  | 0, x => by simp [rep, dg]
  | n + 1, x => by
    have ih := stepA n (x / 4)
    have e1 := and_split (x / 2) (rep 4 1 (n + 1)) 2
    have e2 := and_split x (rep 4 1 (n + 1)) 2
    have r1 : rep 4 1 (n + 1) % 2 ^ 2 = 1 := by show (1 + 4 * rep 4 1 n) % 4 = 1; omega
    have r2 : rep 4 1 (n + 1) / 2 ^ 2 = rep 4 1 n := by show (1 + 4 * rep 4 1 n) / 4 = rep 4 1 n; omega
    rw [r1, r2, Nat.and_one_is_mod] at e1 e2
    rw [show x / 2 / 2 ^ 2 = x / 4 / 2 by rw [Nat.div_div_eq_div_mul, Nat.div_div_eq_div_mul]] at e1
    rw [show x / 2 ^ 2 = x / 4 from rfl] at e2
    show _ = (x % 4 % 2 + x % 4 / 2) + 4 * dg 4 _ n (x / 4)
    rw [e1, e2, ← ih]
    generalize x / 4 / 2 &&& rep 4 1 n = u
    generalize x / 4 &&& rep 4 1 n = v
    show x / 2 % 4 % 2 + 4 * u + (x % 4 % 2 + 4 * v) = _
    omega
theorem and3 (a : Nat) : a % 16 &&& 3 = a % 4 := by
  rw [show (3 : Nat) = 2 ^ 2 - 1 by decide, Nat.and_two_pow_sub_one_eq_mod]; omega
theorem stepB : ∀ n x, (x / 4 &&& rep 16 3 n) + (x &&& rep 16 3 n) = dg 16 (fun d => d % 4 + d / 4) n x
  | 0, x => by simp [rep, dg]
  | n + 1, x => by
    have ih := stepB n (x / 16)
    have e1 := and_split (x / 4) (rep 16 3 (n + 1)) 4
    have e2 := and_split x (rep 16 3 (n + 1)) 4
    have r1 : rep 16 3 (n + 1) % 2 ^ 4 = 3 := by show (3 + 16 * rep 16 3 n) % 16 = 3; omega
    have r2 : rep 16 3 (n + 1) / 2 ^ 4 = rep 16 3 n := by show (3 + 16 * rep 16 3 n) / 16 = rep 16 3 n; omega
    rw [r1, r2, show (2 : Nat) ^ 4 = 16 by decide, and3] at e1 e2
    rw [show x / 4 / 16 = x / 16 / 4 by rw [Nat.div_div_eq_div_mul, Nat.div_div_eq_div_mul]] at e1
    show _ = (x % 16 % 4 + x % 16 / 4) + 16 * dg 16 _ n (x / 16)
    rw [e1, e2, ← ih]
    generalize x / 16 / 4 &&& rep 16 3 n = u
    generalize x / 16 &&& rep 16 3 n = v
    omega
theorem and15 (a : Nat) : a % 256 &&& 15 = a % 16 := by
  rw [show (15 : Nat) = 2 ^ 4 - 1 by decide, Nat.and_two_pow_sub_one_eq_mod]; omega
/-- All digits are small. -/
def small (b m : Nat) : Nat → Nat → Prop
  | 0, x => x = 0
  | n + 1, x => x % b ≤ m ∧ small b m n (x / b)
theorem small_dg (b m : Nat) (f : Nat → Nat) (hb : 0 < b) (hf : ∀ d, d < b → f d ≤ m) (hm : m < b) : ∀ n x, small b m n (dg b f n x)
  | 0, x => rfl
  | n + 1, x => by
    have h2 := hf (x % b) (Nat.mod_lt _ hb)
    have h1 := small_dg b m f hb hf hm n (x / b)
    show (f (x % b) + b * dg b f n (x / b)) % b ≤ m ∧ small b m n ((f (x % b) + b * dg b f n (x / b)) / b)
    rw [Nat.add_mul_mod_self_left, Nat.mod_eq_of_lt (by omega), Nat.add_mul_div_left _ _ hb, Nat.div_eq_of_lt (by omega), Nat.zero_add]
    exact ⟨h2, h1⟩
theorem stepC : ∀ n x, small 16 4 (n + n) x → (x / 16 + x) &&& rep 256 15 n = dg 256 (fun d => d % 16 + d / 16) n x
  | 0, x, h => by simp [rep, dg]
  | n + 1, x, h => by
    rw [show n + 1 + (n + 1) = (n + n) + 1 + 1 by omega] at h
    obtain ⟨h1, h2, h3⟩ := h
    rw [Nat.div_div_eq_div_mul] at h3
    have ih := stepC n (x / 256) h3
    have h4 : x / 256 % 16 ≤ 4 := by
      cases n with
      | zero => have h5 : x / 256 = 0 := h3; omega
      | succ n => rw [show n + 1 + (n + 1) = (n + n + 1) + 1 by omega] at h3; exact h3.1
    have e1 := and_split (x / 16 + x) (rep 256 15 (n + 1)) 8
    have r1 : rep 256 15 (n + 1) % 2 ^ 8 = 15 := by show (15 + 256 * rep 256 15 n) % 256 = 15; omega
    have r2 : rep 256 15 (n + 1) / 2 ^ 8 = rep 256 15 n := by show (15 + 256 * rep 256 15 n) / 256 = rep 256 15 n; omega
    rw [r1, r2, show (2 : Nat) ^ 8 = 256 by decide, and15] at e1
    obtain ⟨a, b, s, r, ha, hb, hs, rfl⟩ : ∃ a b s r : Nat, a ≤ 4 ∧ b ≤ 4 ∧ s ≤ 4 ∧ x = a + 16 * b + 256 * (s + 16 * r) := ⟨x % 16, x / 16 % 16, x / 256 % 16, x / 256 / 16, h1, h2, h4, by omega⟩
    clear h1 h2 h4 h3 r1 r2
    have q1 : (a + 16 * b + 256 * (s + 16 * r)) / 256 = s + 16 * r := by omega
    have q2 : (a + 16 * b + 256 * (s + 16 * r)) / 16 = b + 16 * (s + 16 * r) := by omega
    have q3 : (b + 16 * (s + 16 * r) + (a + 16 * b + 256 * (s + 16 * r))) / 256 = (s + 16 * r) / 16 + (s + 16 * r) := by
      rw [show (s + 16 * r) / 16 = r by omega, show b + 16 * (s + 16 * r) + (a + 16 * b + 256 * (s + 16 * r)) = (a + 17 * b + 16 * s) + 256 * (s + 17 * r) by omega, Nat.add_mul_div_left _ _ (by decide), Nat.div_eq_of_lt (by omega)]; omega
    have q4 : (b + 16 * (s + 16 * r) + (a + 16 * b + 256 * (s + 16 * r))) % 16 = a + b := by omega
    have q5 : (a + 16 * b + 256 * (s + 16 * r)) % 256 = a + 16 * b := by omega
    rw [q1] at ih
    rw [q2, q3, ih, q4] at e1
    rw [q2, e1]
    show _ = ((a + 16 * b + 256 * (s + 16 * r)) % 256 % 16 + (a + 16 * b + 256 * (s + 16 * r)) % 256 / 16) + 256 * dg 256 _ n ((a + 16 * b + 256 * (s + 16 * r)) / 256)
    rw [q5, q1]
    omega
/-- How many bits are set. -/
def cnt (x : Nat) : Nat := sumd 2 64 x
theorem small_cons (n x : Nat) (h : small 256 8 (n + 1) x) : ∃ b y, x = b + 256 * y ∧ b ≤ 8 ∧ small 256 8 n y ∧ sumd 256 (n + 1) x = b + sumd 256 n y :=
  ⟨x % 256, x / 256, by omega, h.1, h.2, rfl⟩
theorem last (u : Nat) (h : small 256 8 8 u) :
    (((u + u / 256) + (u + u / 256) / 65536) + ((u + u / 256) + (u + u / 256) / 65536) / 4294967296) % 128 = sumd 256 8 u ∧ u + u / 256 < 18446744073709551616 ∧ (u + u / 256) + (u + u / 256) / 65536 < 18446744073709551616 ∧
      ((u + u / 256) + (u + u / 256) / 65536) + ((u + u / 256) + (u + u / 256) / 65536) / 4294967296 < 18446744073709551616 := by
  obtain ⟨b0, u1, e0, l0, h, s0⟩ := small_cons _ _ h
  obtain ⟨b1, u2, e1, l1, h, s1⟩ := small_cons _ _ h
  obtain ⟨b2, u3, e2, l2, h, s2⟩ := small_cons _ _ h
  obtain ⟨b3, u4, e3, l3, h, s3⟩ := small_cons _ _ h
  obtain ⟨b4, u5, e4, l4, h, s4⟩ := small_cons _ _ h
  obtain ⟨b5, u6, e5, l5, h, s5⟩ := small_cons _ _ h
  obtain ⟨b6, u7, e6, l6, h, s6⟩ := small_cons _ _ h
  obtain ⟨b7, u8, e7, l7, h, s7⟩ := small_cons _ _ h
  have e8 : u8 = 0 := h
  rw [s0, s1, s2, s3, s4, s5, s6, s7, show sumd 256 0 u8 = 0 from rfl]
  clear s0 s1 s2 s3 s4 s5 s6 s7 h
  have m7 : u7 ≤ 8 := by clear e0 e1 e2 e3 e4 e5 e6; omega
  have m6 : u6 ≤ 2056 := by clear e0 e1 e2 e3 e4 e5 e7; omega
  have m5 : u5 ≤ 526344 := by clear e0 e1 e2 e3 e4 e6 e7 m7; omega
  have m4 : u4 ≤ 134744072 := by clear e0 e1 e2 e3 e5 e6 e7 m6 m7; omega
  have m3 : u3 ≤ 34494482440 := by clear e0 e1 e2 e4 e5 e6 e7 m5 m6 m7; omega
  have m2 : u2 ≤ 8830587504648 := by clear e0 e1 e3 e4 e5 e6 e7 m4 m5 m6 m7; omega
  have m1 : u1 ≤ 2260630401189896 := by clear e0 e2 e3 e4 e5 e6 e7 m3 m4 m5 m6 m7; omega
  have m0 : u ≤ 578721382704613384 := by clear e1 e2 e3 e4 e5 e6 e7 m2 m3 m4 m5 m6 m7; omega
  have d1 : u / 256 = u1 := by clear e1 e2 e3 e4 e5 e6 e7 e8 m0 m1 m2 m3 m4 m5 m6 m7; omega
  rw [d1]
  have d2 : (u + u1) / 65536 = u2 + u3 := by
    rw [show u + u1 = (b0 + b1 + 256 * (b1 + b2)) + 65536 * (u2 + u3) by clear e3 e4 e5 e6 e7 e8 m0 m1 m2 m3 m4 m5 m6 m7; omega, Nat.add_mul_div_left _ _ (by decide), Nat.div_eq_of_lt (by clear e0 e1 e2 e3 e4 e5 e6 e7 e8 m0 m1 m2 m3 m4 m5 m6 m7 d1; omega), Nat.zero_add]
  rw [d2]
  have d3 : (u + u1 + (u2 + u3)) / 4294967296 = u4 + u5 + u6 + u7 := by
    have f0 : u = b0 + 256 * (b1 + 256 * (b2 + 256 * (b3 + 256 * u4))) := by clear e4 e5 e6 e7 e8 m0 m1 m2 m3 m4 m5 m6 m7 d1 d2; omega
    have f1 : u1 = b1 + 256 * (b2 + 256 * (b3 + 256 * (b4 + 256 * u5))) := by clear e0 e5 e6 e7 e8 m0 m1 m2 m3 m4 m5 m6 m7 d1 d2 f0; omega
    have f2 : u2 = b2 + 256 * (b3 + 256 * (b4 + 256 * (b5 + 256 * u6))) := by clear e0 e1 e6 e7 e8 m0 m1 m2 m3 m4 m5 m6 m7 d1 d2 f0 f1; omega
    have f3 : u3 = b3 + 256 * (b4 + 256 * (b5 + 256 * (b6 + 256 * u7))) := by clear e0 e1 e2 e7 e8 m0 m1 m2 m3 m4 m5 m6 m7 d1 d2 f0 f1 f2; omega
    clear e0 e1 e2 e3 e4 e5 e6 e7 e8 m0 m1 m2 m3 m4 m5 m6 m7 d1 d2
    rw [f0, f1, f2, f3, show b0 + 256 * (b1 + 256 * (b2 + 256 * (b3 + 256 * u4))) + (b1 + 256 * (b2 + 256 * (b3 + 256 * (b4 + 256 * u5)))) + (b2 + 256 * (b3 + 256 * (b4 + 256 * (b5 + 256 * u6))) + (b3 + 256 * (b4 + 256 * (b5 + 256 * (b6 + 256 * u7))))) = (b0 + b1 + b2 + b3 + 256 * (b1 + b2 + b3 + b4) + 65536 * (b2 + b3 + b4 + b5) + 16777216 * (b3 + b4 + b5 + b6)) + 4294967296 * (u4 + u5 + u6 + u7) by clear f0 f1 f2 f3; omega,
      Nat.add_mul_div_left _ _ (by decide), Nat.div_eq_of_lt (by clear f0 f1 f2 f3; omega), Nat.zero_add]
  rw [d3]
  clear d1 d2 d3
  refine ⟨?_, by clear e0 e1 e2 e3 e4 e5 e6 e7 e8; omega, by clear e0 e1 e2 e3 e4 e5 e6 e7 e8; omega, by clear e0 e1 e2 e3 e4 e5 e6 e7 e8; omega⟩
  clear m0 m1 m2 m3 m4 m5 m6 m7
  rw [show u + u1 + (u2 + u3) + (u4 + u5 + u6 + u7) = (b0 + (b1 + (b2 + (b3 + (b4 + (b5 + (b6 + (b7 + 0)))))))) + 128 * (2 * (u1 + u2 + u3 + u4 + u5 + u6 + u7 + u8)) by omega, Nat.add_mul_mod_self_left]
  exact Nat.mod_eq_of_lt (by clear e0 e1 e2 e3 e4 e5 e6 e7 e8; omega)
end Go.Proofs.Ytknphhcppllpoaa.Bits
