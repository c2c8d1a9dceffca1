/- Proved here: two numbers mixed into the same one with a third are the same, on either side; no condition. -/
import Derived.Test.YthlegbnbefmfkaaPPrintMixesx1
import Derived.Test.YthlegbnbefmfkaaRot
namespace Go.Proofs.Ythlegbnbefmfkaa.Pure
open Go.RowKit Go.Proofs.Ythlegbnbefmfkaa.PPrintMixes Go.Proofs.YthlegbnbefmfkaaW.PrintWords Go.Proofs.YthlegbnbefmfkaaW.PrintLast Go.Proofs.Ythlegbnbefmfkaa.Rot
set_option linter.unusedVariables false
set_option linter.unusedSimpArgs false

theorem wf32 {x : Int} (h : (Lit.int .u32 x).wf = true) : 0 ≤ x ∧ x < 4294967296 := by
  simp [Lit.wf, IntKind.min, IntKind.max, IntKind.signed, IntKind.bits] at h; omega
theorem wf64 {x : Int} (h : (Lit.int .i64 x).wf = true) : -9223372036854775808 ≤ x ∧ x ≤ 9223372036854775807 := by
  simp [Lit.wf, IntKind.min, IntKind.max, IntKind.signed, IntKind.bits] at h; omega
theorem turn_eq {x : Int} (h0 : 0 ≤ x) (h1 : x < 4294967296) (n : Int) : print_Turn.f x n = some (rotN (n % 32).toNat x) := by
  unfold print_Turn.f
  rw [and31_u64, if_pos (by omega), if_pos (by rw [wrap_u64]; omega), turn_bits h0 h1 (n % 32) (by omega) (by omega)]
theorem mix_eq {x : Int} (h0 : 0 ≤ x) (h1 : x < 4294967296) (b : Int) : print_Mix.f x b = some (mixv x b) := by
  unfold print_Mix.f mixv
  rw [turn_eq h0 h1]; rfl
theorem rturn_l {x : Int} (h0 : 0 ≤ x) (h1 : x < 4294967296) (n : Nat) (hn : n < 32) (k : Nat) (hk : n < k) : emulsionref1_Turn.l0 k x (n : Int) = some (rotN n x) := by
  induction n generalizing k x with
  | zero =>
    obtain ⟨k, rfl⟩ : ∃ m, k = m + 1 := ⟨k - 1, by omega⟩
    simp only [emulsionref1_Turn.l0]; rw [if_neg (by omega)]; rfl
  | succ n ih =>
    obtain ⟨k, rfl⟩ : ∃ m, k = m + 1 := ⟨k - 1, by omega⟩
    simp only [emulsionref1_Turn.l0]; rw [if_pos (by omega)]
    have e1 : (2 * x % 4294967296 + Int.tdiv x 2147483648 % 4294967296) % 4294967296 = rot1 x := by
      rw [Int.tdiv_eq_ediv_of_nonneg h0]; unfold rot1; omega
    have e2 : wrap64 (((n + 1 : Nat) : Int) - 1) = (n : Int) := by unfold wrap64; omega
    rw [e1, e2, ih (rot1_in h0 h1).1 (rot1_in h0 h1).2 (by omega) k (by omega)]; rfl
theorem rturn_eq {x : Int} (h0 : 0 ≤ x) (h1 : x < 4294967296) (n : Int) (k : Nat) (hk : 32 ≤ k) : emulsionref1_Turn.f k x n = some (rotN (n % 32).toNat x) := by
  unfold emulsionref1_Turn.f
  rw [and31_i64]
  have := rturn_l h0 h1 (n % 32).toNat (by omega) k (by omega)
  rwa [Int.toNat_of_nonneg (by omega)] at this
theorem rmix_eq {x : Int} (h0 : 0 ≤ x) (h1 : x < 4294967296) (b : Int) (k : Nat) (hk : 32 ≤ k) : emulsionref1_Mix.f k x b = some (mixv x b) := by
  unfold emulsionref1_Mix.f mixv
  rw [rturn_eq h0 h1 5 k hk]; rfl
/-- A fingerprint from a byte on, so many left. -/
def fp (s : ByteArray) : Nat → Int → Int → Int
  | 0, x, _ => mixv x ((s.size : Int) % 4294967296)
  | d + 1, x, i => fp s d (mixv x (bt s i % 4294967296)) (i + 1)
theorem of_l (s : ByteArray) (hs : s.size ≤ 140737488351232) (d : Nat) : ∀ (k : Nat) (x i : Int), 0 ≤ x → x < 4294967296 → 0 ≤ i → (s.size : Int) - i = d → d < k → print_Of.l0 k s x (s.size : Int) i = some (fp s d x i) := by
  induction d with
  | zero =>
    intro k x i h0 h1 hi hd hk
    obtain ⟨k, rfl⟩ : ∃ m, k = m + 1 := ⟨k - 1, by omega⟩
    simp only [print_Of.l0]; rw [if_neg (by omega), wrap_u64, show ((s.size : Int) % 18446744073709551616) = s.size by omega, mix_eq h0 h1]; rfl
  | succ d ih =>
    intro k x i h0 h1 hi hd hk
    obtain ⟨k, rfl⟩ : ∃ m, k = m + 1 := ⟨k - 1, by omega⟩
    simp only [print_Of.l0]; rw [if_pos (by omega), if_pos hi, if_pos (by omega), mix_eq h0 h1]; simp only [Option.bind_some]
    rw [show wrap64 (i + 1) = i + 1 by unfold wrap64; omega]
    exact ih k _ _ (mixv_in _ _).1 (mixv_in _ _).2 (by omega) (by omega) (by omega)
theorem rof_l (s : ByteArray) (hs : s.size ≤ 140737488351232) (d : Nat) : ∀ (k : Nat) (x i : Int), 0 ≤ x → x < 4294967296 → 0 ≤ i → (s.size : Int) - i = d → d + 32 < k → emulsionref1_Print.l0 k s x i = some (fp s d x i) := by
  induction d with
  | zero =>
    intro k x i h0 h1 hi hd hk
    obtain ⟨k, rfl⟩ : ∃ m, k = m + 1 := ⟨k - 1, by omega⟩
    simp only [emulsionref1_Print.l0]; rw [if_neg (by omega), rmix_eq h0 h1 _ k (by omega)]; rfl
  | succ d ih =>
    intro k x i h0 h1 hi hd hk
    obtain ⟨k, rfl⟩ : ∃ m, k = m + 1 := ⟨k - 1, by omega⟩
    simp only [emulsionref1_Print.l0]; rw [if_pos (by omega), if_pos hi, rmix_eq h0 h1 _ k (by omega)]; simp only [Option.bind_some]
    rw [show wrap64 (i + 1) = i + 1 by unfold wrap64; omega]
    exact ih k _ _ (mixv_in _ _).1 (mixv_in _ _).2 (by omega) (by omega) (by omega)
def fpr (s : ByteArray) : Int := fp s s.size 2166136261 0
theorem of_eq (s : ByteArray) (hs : s.size ≤ 140737488351232) (k : Nat) (hk : s.size < k) : print_Of.f k s = some (fpr s) :=
  of_l s hs s.size k 2166136261 0 (by omega) (by omega) (by omega) (by omega) hk
theorem rof_eq (s : ByteArray) (hs : s.size ≤ 140737488351232) (k : Nat) (hk : s.size + 32 < k) : emulsionref1_Print.f k s = some (fpr s) :=
  rof_l s hs s.size k 2166136261 0 (by omega) (by omega) (by omega) (by omega) hk
theorem alive_eq (k : Nat) (hk : 40 ≤ k) : emulsionlaw7_alive.f k = some true := by
  unfold emulsionlaw7_alive.f
  have hz : (⟨#[]⟩ : ByteArray).size = 0 := rfl
  rw [turn_eq (by omega) (by omega), of_eq ⟨#[]⟩ (by rw [hz]; omega) k (by rw [hz]; omega), rof_eq ⟨#[]⟩ (by rw [hz]; omega) k (by rw [hz]; omega)]
  simp only [Option.bind_some]
  rw [if_pos (by decide), if_pos trivial]
  rw [show print_Bucket.f 9 4 = some 1 by unfold print_Bucket.f; rw [if_neg (by decide), if_neg (by rw [wrap_u64]; decide), wrap_u64, wrap_u64]; simp [Int.tmod, wrap64]]
  rfl
theorem rot_mod {x : Int} (h0 : 0 ≤ x) (h1 : x < 4294967296) (a : Nat) (ha : a < 64) : rotN a x = rotN (a % 32) x := by
  by_cases h : a < 32
  · rw [Nat.mod_eq_of_lt h]
  · obtain ⟨r, rfl⟩ : ∃ r, a = 32 + r := ⟨a - 32, by omega⟩
    rw [rotN_add, rotN_32 h0 h1, show (32 + r) % 32 = r by omega]

theorem mul_cancel {u v : Int} (u0 : 0 ≤ u) (u1 : u < 4294967296) (v0 : 0 ≤ v) (v1 : v < 4294967296) (h : u * 2654435761 % 4294967296 = v * 2654435761 % 4294967296) : u = v := by
  have e : ∀ z : Int, 0 ≤ z → z < 4294967296 → (z * 2654435761 % 4294967296) * 244002641 % 4294967296 = z := by intro z h0 h1; omega
  rw [← e u u0 u1, ← e v v0 v1, h]
theorem xor_nat (a b : Nat) (ha : a < 4294967296) (hb : b < 4294967296) : Go.bits .xor .u32 (a : Int) (b : Int) = ((a ^^^ b : Nat) : Int) := by
  show IntKind.u32.wrap (((BitVec.ofInt 32 (a : Int) ^^^ BitVec.ofInt 32 (b : Int)).toNat : Nat) : Int) = _
  rw [BitVec.toNat_xor, BitVec.ofInt_natCast, BitVec.ofInt_natCast, BitVec.toNat_ofNat, BitVec.toNat_ofNat, Nat.mod_eq_of_lt (by omega), Nat.mod_eq_of_lt (by omega), IntKind.wrap_u32]
  have : a ^^^ b < 2 ^ 32 := Nat.xor_lt_two_pow (by omega) (by omega)
  omega
theorem xor_in {a b : Int} (a0 : 0 ≤ a) (a1 : a < 4294967296) (b0 : 0 ≤ b) (b1 : b < 4294967296) : 0 ≤ Go.bits .xor .u32 a b ∧ Go.bits .xor .u32 a b < 4294967296 := by
  obtain ⟨a, rfl⟩ := Int.eq_ofNat_of_zero_le a0
  obtain ⟨b, rfl⟩ := Int.eq_ofNat_of_zero_le b0
  rw [xor_nat a b (by omega) (by omega)]
  have : a ^^^ b < 2 ^ 32 := Nat.xor_lt_two_pow (by omega) (by omega)
  omega
theorem xor_right {a b c : Int} (a0 : 0 ≤ a) (a1 : a < 4294967296) (b0 : 0 ≤ b) (b1 : b < 4294967296) (c0 : 0 ≤ c) (c1 : c < 4294967296) (h : Go.bits .xor .u32 a b = Go.bits .xor .u32 a c) : b = c := by
  obtain ⟨a, rfl⟩ := Int.eq_ofNat_of_zero_le a0
  obtain ⟨b, rfl⟩ := Int.eq_ofNat_of_zero_le b0
  obtain ⟨c, rfl⟩ := Int.eq_ofNat_of_zero_le c0
  rw [xor_nat a b (by omega) (by omega), xor_nat a c (by omega) (by omega)] at h
  have h' : a ^^^ b = a ^^^ c := by omega
  have : a ^^^ (a ^^^ b) = a ^^^ (a ^^^ c) := by rw [h']
  rw [← Nat.xor_assoc, ← Nat.xor_assoc, Nat.xor_self, Nat.zero_xor, Nat.zero_xor] at this
  rw [this]
theorem xor_left {a b c : Int} (a0 : 0 ≤ a) (a1 : a < 4294967296) (b0 : 0 ≤ b) (b1 : b < 4294967296) (c0 : 0 ≤ c) (c1 : c < 4294967296) (h : Go.bits .xor .u32 b a = Go.bits .xor .u32 c a) : b = c := by
  obtain ⟨a, rfl⟩ := Int.eq_ofNat_of_zero_le a0
  obtain ⟨b, rfl⟩ := Int.eq_ofNat_of_zero_le b0
  obtain ⟨c, rfl⟩ := Int.eq_ofNat_of_zero_le c0
  rw [xor_nat b a (by omega) (by omega), xor_nat c a (by omega) (by omega)] at h
  have h' : b ^^^ a = c ^^^ a := by omega
  have : (b ^^^ a) ^^^ a = (c ^^^ a) ^^^ a := by rw [h']
  rw [Nat.xor_assoc, Nat.xor_assoc, Nat.xor_self, Nat.xor_zero, Nat.xor_zero] at this
  rw [this]
theorem rot_cancel {a b : Int} (a0 : 0 ≤ a) (a1 : a < 4294967296) (b0 : 0 ≤ b) (b1 : b < 4294967296) (h : rotN 5 a = rotN 5 b) : a = b := by
  have : rotN 27 (rotN 5 a) = rotN 27 (rotN 5 b) := by rw [h]
  rwa [← rotN_add, ← rotN_add, rotN_32 a0 a1, rotN_32 b0 b1] at this
theorem mix_right {a b c : Int} (a0 : 0 ≤ a) (a1 : a < 4294967296) (b0 : 0 ≤ b) (b1 : b < 4294967296) (c0 : 0 ≤ c) (c1 : c < 4294967296) : (mixv a b == mixv a c) = (b == c) := by
  obtain ⟨r0, r1⟩ := rotN_in 5 a0 a1
  rw [Bool.eq_iff_iff, beq_iff_eq, beq_iff_eq]
  refine ⟨fun h => ?_, fun h => by rw [h]⟩
  exact xor_right r0 r1 b0 b1 c0 c1 (mul_cancel (xor_in r0 r1 b0 b1).1 (xor_in r0 r1 b0 b1).2 (xor_in r0 r1 c0 c1).1 (xor_in r0 r1 c0 c1).2 h)
theorem mix_left {a b c : Int} (a0 : 0 ≤ a) (a1 : a < 4294967296) (b0 : 0 ≤ b) (b1 : b < 4294967296) (c0 : 0 ≤ c) (c1 : c < 4294967296) : (mixv b a == mixv c a) = (b == c) := by
  obtain ⟨r0, r1⟩ := rotN_in 5 b0 b1
  obtain ⟨s0, s1⟩ := rotN_in 5 c0 c1
  rw [Bool.eq_iff_iff, beq_iff_eq, beq_iff_eq]
  refine ⟨fun h => ?_, fun h => by rw [h]⟩
  exact rot_cancel b0 b1 c0 c1 (xor_left a0 a1 r0 r1 s0 s1 (mul_cancel (xor_in r0 r1 a0 a1).1 (xor_in r0 r1 a0 a1).2 (xor_in s0 s1 a0 a1).1 (xor_in s0 s1 a0 a1).2 h))
theorem PrintMixes : emulsionlaw7_PrintMixes.Pure := by
  intro a b c wa wb wc
  obtain ⟨a0, a1⟩ := wf32 wa
  obtain ⟨b0, b1⟩ := wf32 wb
  obtain ⟨c0, c1⟩ := wf32 wc
  obtain ⟨k, hk⟩ : ∃ k : Nat, 40 ≤ k := ⟨40, Nat.le_refl _⟩
  refine ⟨k, ?_⟩
  unfold emulsionlaw7_PrintMixes.f
  rw [alive_eq k hk, mix_eq a0 a1, mix_eq a0 a1, mix_eq b0 b1, mix_eq c0 c1]
  have e1 := mix_right a0 a1 b0 b1 c0 c1
  have e2 := mix_left a0 a1 b0 b1 c0 c1
  rw [Option.bind_some, if_pos rfl, Option.bind_some, Option.bind_some, e1, if_pos (beq_self_eq_true _), Option.bind_some, Option.bind_some, e2, beq_self_eq_true]

end Go.Proofs.Ythlegbnbefmfkaa.Pure
