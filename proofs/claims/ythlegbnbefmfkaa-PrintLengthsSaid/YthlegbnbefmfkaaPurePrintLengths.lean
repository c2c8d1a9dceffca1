/- Proved here: a fingerprint of at most 500 bytes counts their number, and so does that of the same bytes with a zero behind them; no condition. -/
import Derived.Test.YthlegbnbefmfkaaEPrintLengthsx1
import Derived.Test.YthlegbnbefmfkaaRot
namespace Go.Proofs.Ythlegbnbefmfkaa.Pure
open Go.RowKit Go.Proofs.Ythlegbnbefmfkaa.EPrintLengths Go.Proofs.YthlegbnbefmfkaaW.PrintWords Go.Proofs.YthlegbnbefmfkaaW.PrintLast Go.Proofs.Ythlegbnbefmfkaa.Rot
set_option linter.unusedVariables false
set_option linter.unusedSimpArgs false

theorem wf32 {x : Int} (h : (Lit.int .u32 x).wf = true) : 0 ≤ x ∧ x < 4294967296 := by
  simp [Lit.wf, IntKind.min, IntKind.max, IntKind.signed, IntKind.bits] at h; omega
theorem wf64 {x : Int} (h : (Lit.int .i64 x).wf = true) : -9223372036854775808 ≤ x ∧ x ≤ 9223372036854775807 := by
  simp [Lit.wf, IntKind.min, IntKind.max, IntKind.signed, IntKind.bits] at h; omega
theorem turn_eq {x : Int} (h0 : 0 ≤ x) (h1 : x < 4294967296) (n : Int) : print_Turn.f x n = some (rotN (n % 32).toNat x) := by
  unfold print_Turn.f
  rw [and31_u64, if_pos (by omega), if_pos (by rw [wrap_u64]; omega), turn_bits h0 h1 (n % 32) (by omega) (by omega)]
theorem mix_eq {x : Int} (h0 : 0 ≤ x) (h1 : x < 4294967296) (b : Int) : print_Mix.f x b = some (mixv x b) := by
  unfold print_Mix.f mixv
  rw [turn_eq h0 h1]; rfl
theorem rturn_l {x : Int} (h0 : 0 ≤ x) (h1 : x < 4294967296) (n : Nat) (hn : n < 32) (k : Nat) (hk : n < k) : emulsionref1_Turn.l0 k x (n : Int) = some (rotN n x) := by
  induction n generalizing k x with
  | zero =>
    obtain ⟨k, rfl⟩ : ∃ m, k = m + 1 := ⟨k - 1, by omega⟩
    simp only [emulsionref1_Turn.l0]; rw [if_neg (by omega)]; rfl
  | succ n ih =>
    obtain ⟨k, rfl⟩ : ∃ m, k = m + 1 := ⟨k - 1, by omega⟩
    simp only [emulsionref1_Turn.l0]; rw [if_pos (by omega)]
    have e1 : (2 * x % 4294967296 + Int.tdiv x 2147483648 % 4294967296) % 4294967296 = rot1 x := by
      rw [Int.tdiv_eq_ediv_of_nonneg h0]; unfold rot1; omega
    have e2 : wrap64 (((n + 1 : Nat) : Int) - 1) = (n : Int) := by unfold wrap64; omega
    rw [e1, e2, ih (rot1_in h0 h1).1 (rot1_in h0 h1).2 (by omega) k (by omega)]; rfl
theorem rturn_eq {x : Int} (h0 : 0 ≤ x) (h1 : x < 4294967296) (n : Int) (k : Nat) (hk : 32 ≤ k) : emulsionref1_Turn.f k x n = some (rotN (n % 32).toNat x) := by
  unfold emulsionref1_Turn.f
  rw [and31_i64]
  have := rturn_l h0 h1 (n % 32).toNat (by omega) k (by omega)
  rwa [Int.toNat_of_nonneg (by omega)] at this
theorem rmix_eq {x : Int} (h0 : 0 ≤ x) (h1 : x < 4294967296) (b : Int) (k : Nat) (hk : 32 ≤ k) : emulsionref1_Mix.f k x b = some (mixv x b) := by
  unfold emulsionref1_Mix.f mixv
  rw [rturn_eq h0 h1 5 k hk]; rfl
/-- A fingerprint from a byte on, so many left. -/
def fp (s : ByteArray) : Nat → Int → Int → Int
  | 0, x, _ => mixv x ((s.size : Int) % 4294967296)
  | d + 1, x, i => fp s d (mixv x (bt s i % 4294967296)) (i + 1)
theorem of_l (s : ByteArray) (hs : s.size ≤ 140737488351232) (d : Nat) : ∀ (k : Nat) (x i : Int), 0 ≤ x → x < 4294967296 → 0 ≤ i → (s.size : Int) - i = d → d < k → print_Of.l0 k s x (s.size : Int) i = some (fp s d x i) := by
  induction d with
  | zero =>
    intro k x i h0 h1 hi hd hk
    obtain ⟨k, rfl⟩ : ∃ m, k = m + 1 := ⟨k - 1, by omega⟩
    simp only [print_Of.l0]; rw [if_neg (by omega), wrap_u64, show ((s.size : Int) % 18446744073709551616) = s.size by omega, mix_eq h0 h1]; rfl
  | succ d ih =>
    intro k x i h0 h1 hi hd hk
    obtain ⟨k, rfl⟩ : ∃ m, k = m + 1 := ⟨k - 1, by omega⟩
    simp only [print_Of.l0]; rw [if_pos (by omega), if_pos hi, if_pos (by omega), mix_eq h0 h1]; simp only [Option.bind_some]
    rw [show wrap64 (i + 1) = i + 1 by unfold wrap64; omega]
    exact ih k _ _ (mixv_in _ _).1 (mixv_in _ _).2 (by omega) (by omega) (by omega)
theorem rof_l (s : ByteArray) (hs : s.size ≤ 140737488351232) (d : Nat) : ∀ (k : Nat) (x i : Int), 0 ≤ x → x < 4294967296 → 0 ≤ i → (s.size : Int) - i = d → d + 32 < k → emulsionref1_Print.l0 k s x i = some (fp s d x i) := by
  induction d with
  | zero =>
    intro k x i h0 h1 hi hd hk
    obtain ⟨k, rfl⟩ : ∃ m, k = m + 1 := ⟨k - 1, by omega⟩
    simp only [emulsionref1_Print.l0]; rw [if_neg (by omega), rmix_eq h0 h1 _ k (by omega)]; rfl
  | succ d ih =>
    intro k x i h0 h1 hi hd hk
    obtain ⟨k, rfl⟩ : ∃ m, k = m + 1 := ⟨k - 1, by omega⟩
    simp only [emulsionref1_Print.l0]; rw [if_pos (by omega), if_pos hi, rmix_eq h0 h1 _ k (by omega)]; simp only [Option.bind_some]
    rw [show wrap64 (i + 1) = i + 1 by unfold wrap64; omega]
    exact ih k _ _ (mixv_in _ _).1 (mixv_in _ _).2 (by omega) (by omega) (by omega)
def fpr (s : ByteArray) : Int := fp s s.size 2166136261 0
theorem of_eq (s : ByteArray) (hs : s.size ≤ 140737488351232) (k : Nat) (hk : s.size < k) : print_Of.f k s = some (fpr s) :=
  of_l s hs s.size k 2166136261 0 (by omega) (by omega) (by omega) (by omega) hk
theorem rof_eq (s : ByteArray) (hs : s.size ≤ 140737488351232) (k : Nat) (hk : s.size + 32 < k) : emulsionref1_Print.f k s = some (fpr s) :=
  rof_l s hs s.size k 2166136261 0 (by omega) (by omega) (by omega) (by omega) hk
theorem alive_eq (k : Nat) (hk : 40 ≤ k) : emulsionlaw7_alive.f k = some true := by
  unfold emulsionlaw7_alive.f
  have hz : (⟨#[]⟩ : ByteArray).size = 0 := rfl
  rw [turn_eq (by omega) (by omega), of_eq ⟨#[]⟩ (by rw [hz]; omega) k (by rw [hz]; omega), rof_eq ⟨#[]⟩ (by rw [hz]; omega) k (by rw [hz]; omega)]
  simp only [Option.bind_some]
  rw [if_pos (by decide), if_pos trivial]
  rw [show print_Bucket.f 9 4 = some 1 by unfold print_Bucket.f; rw [if_neg (by decide), if_neg (by rw [wrap_u64]; decide), wrap_u64, wrap_u64]; simp [Int.tmod, wrap64]]
  rfl
theorem rot_mod {x : Int} (h0 : 0 ≤ x) (h1 : x < 4294967296) (a : Nat) (ha : a < 64) : rotN a x = rotN (a % 32) x := by
  by_cases h : a < 32
  · rw [Nat.mod_eq_of_lt h]
  · obtain ⟨r, rfl⟩ : ∃ r, a = 32 + r := ⟨a - 32, by omega⟩
    rw [rotN_add, rotN_32 h0 h1, show (32 + r) % 32 = r by omega]

theorem bt_front (s t : ByteArray) (i : Int) (h0 : 0 ≤ i) (h : i < (s.size : Int)) : bt (s ++ t) i = bt s i := by
  unfold bt
  rw [dif_pos (by rw [ByteArray.size_append]; omega), dif_pos (by omega), ByteArray.getElem_append_left (by omega)]
theorem bt_last (s : ByteArray) : bt (s ++ ⟨#[0]⟩) (s.size : Int) = 0 := by
  unfold bt
  have hz : (⟨#[0]⟩ : ByteArray).size = 1 := rfl
  rw [dif_pos (by rw [ByteArray.size_append, hz]; omega), ByteArray.getElem_append_right (by omega)]
  have e : (s.size : Int).toNat - s.size = 0 := by omega
  simp only [e]
  rfl
theorem lens (s : ByteArray) (hs : s.size ≤ 500) (d : Nat) : ∀ (k : Nat) (x i : Int), 0 ≤ x → x < 4294967296 → 0 ≤ i → (s.size : Int) - i = d → d + s.size + 10 < k →
    fp s d x i = fpr s → fp (s ++ ⟨#[0]⟩) (d + 1) x i = fpr (s ++ ⟨#[0]⟩) → emulsionlaw7_PrintLengths.l0 k s x i = some true := by
  have hz : (⟨#[0]⟩ : ByteArray).size = 1 := rfl
  have hz2 : (s ++ ⟨#[0]⟩).size = s.size + 1 := by rw [ByteArray.size_append, hz]
  induction d with
  | zero =>
    intro k x i h0 h1 hi hd hk e1 e2
    obtain ⟨k, rfl⟩ : ∃ m, k = m + 1 := ⟨k - 1, by omega⟩
    obtain rfl : i = (s.size : Int) := by omega
    have e3 : fpr s = mixv x ((s.size : Int) % 4294967296) := e1.symm
    have e4 : fpr (s ++ ⟨#[0]⟩) = mixv (mixv x 0) (((s.size : Int) + 1) % 4294967296) := by
      rw [← e2]
      show mixv (mixv x (bt (s ++ ⟨#[0]⟩) (s.size : Int) % 4294967296)) (((s ++ ⟨#[0]⟩).size : Int) % 4294967296) = _
      rw [bt_last, hz2, show (0 : Int) % 4294967296 = 0 by omega, show ((s.size + 1 : Nat) : Int) = (s.size : Int) + 1 by omega]
    simp only [emulsionlaw7_PrintLengths.l0]
    rw [if_neg (by omega), of_eq s (by omega) k (by omega), Option.bind_some, mix_eq h0 h1, Option.bind_some, if_pos e3, if_pos (by omega), of_eq _ (by rw [hz2]; omega) k (by rw [hz2]; omega), Option.bind_some, mix_eq h0 h1, Option.bind_some, mix_eq (mixv_in _ _).1 (mixv_in _ _).2, Option.bind_some, e4, show wrap64 ((s.size : Int) + 1) = (s.size : Int) + 1 by unfold wrap64; omega, beq_self_eq_true]
  | succ d ih =>
    intro k x i h0 h1 hi hd hk e1 e2
    obtain ⟨k, rfl⟩ : ∃ m, k = m + 1 := ⟨k - 1, by omega⟩
    simp only [emulsionlaw7_PrintLengths.l0]
    rw [if_pos (by omega), if_pos hi, mix_eq h0 h1, Option.bind_some, show wrap64 (i + 1) = i + 1 by unfold wrap64; omega]
    refine ih k _ _ (mixv_in _ _).1 (mixv_in _ _).2 (by omega) (by omega) (by omega) e1 ?_
    rw [← bt_front s ⟨#[0]⟩ i hi (by omega)]
    exact e2
theorem PrintLengths : emulsionlaw7_PrintLengths.Pure := by
  intro s hs
  refine ⟨2 * s.size + 98 + 1, ?_⟩
  unfold emulsionlaw7_PrintLengths.f
  by_cases hg : (s.size : Int) > 500
  · rw [if_pos hg]
    simp only [emulsionlaw7_PrintLengths.j0]
    rw [if_pos trivial, alive_eq _ (by omega)]; rfl
  have hz2 : (s ++ ⟨#[0]⟩).size = s.size + 1 := by rw [ByteArray.size_append]; rfl
  rw [if_neg hg, alive_eq _ (by omega), Option.bind_some]
  simp only [emulsionlaw7_PrintLengths.j0, Bool.not_true]
  rw [if_neg (by decide)]
  exact lens s (by omega) s.size _ 2166136261 0 (by omega) (by omega) (by omega) (by omega) (by omega) rfl (by unfold fpr; rw [hz2])

end Go.Proofs.Ythlegbnbefmfkaa.Pure
