/- Sums of bytes, as numbers and lists alone, no program. -/
import Derived.Test.YtacmfpkmcefcfaaRot
namespace Go.Proofs.Ytacmfpkmcefcfaa.Fold
open Go.RowKit Go.Proofs.YtacmfpkmcefcfaaW.PrintWords Go.Proofs.Ytacmfpkmcefcfaa.Rot
set_option linter.unusedVariables false

def stp (p : Int × Int) (c : Int) : Int × Int := ((p.1 + c) % 65521, (p.2 + (p.1 + c) % 65521) % 65521)
def fd (p : Int × Int) (l : List Int) : Int × Int := l.foldl stp p
def ok (p : Int × Int) : Prop := 0 ≤ p.1 ∧ p.1 < 65536 ∧ 0 ≤ p.2 ∧ p.2 < 65536
def tv (p : Int × Int) : Int := p.2 * 65536 + p.1
theorem fd_append (p : Int × Int) (l m : List Int) : fd p (l ++ m) = fd (fd p l) m := by unfold fd; rw [List.foldl_append]
theorem stp_lt (p : Int × Int) (c : Int) : 0 ≤ (stp p c).1 ∧ (stp p c).1 < 65521 ∧ 0 ≤ (stp p c).2 ∧ (stp p c).2 < 65521 := by unfold stp; omega
theorem fd_lt : ∀ (l : List Int) (p : Int × Int), (0 ≤ p.1 ∧ p.1 < 65521 ∧ 0 ≤ p.2 ∧ p.2 < 65521) → 0 ≤ (fd p l).1 ∧ (fd p l).1 < 65521 ∧ 0 ≤ (fd p l).2 ∧ (fd p l).2 < 65521
  | [], _, h => h
  | c :: l, p, _ => fd_lt l (stp p c) (stp_lt p c)
theorem fd_ok (l : List Int) (p : Int × Int) (h : ok p) : ok (fd p l) := by
  cases l with
  | nil => exact h
  | cons c l => have := fd_lt l (stp p c) (stp_lt p c); show ok (fd (stp p c) l); unfold ok; omega
theorem tv_in {p : Int × Int} (h : ok p) : 0 ≤ tv p ∧ tv p < 4294967296 := by unfold ok at h; unfold tv; omega
theorem tv_low {p : Int × Int} (h : ok p) : tv p % 65536 = p.1 := by unfold ok at h; unfold tv; omega
theorem tv_high {p : Int × Int} (h : ok p) : tv p / 65536 = p.2 := by unfold ok at h; unfold tv; omega
def p0 : Int × Int := (44257, 0)
theorem p0_lt : 0 ≤ p0.1 ∧ p0.1 < 65521 ∧ 0 ≤ p0.2 ∧ p0.2 < 65521 := by unfold p0; omega
theorem p0_ok : ok p0 := by unfold ok p0; omega
/-- A sum. -/
def sm (s : ByteArray) : Int × Int := fd p0 (bytesOf s)
theorem sm_ok (s : ByteArray) : ok (sm s) := fd_ok _ _ p0_ok

theorem bt_in (s : ByteArray) (i : Int) : 0 ≤ bt s i ∧ bt s i < 256 := by
  unfold bt
  split
  · rename_i h; have := (s[i.toNat]'h).toNat_lt; omega
  · omega
theorem bytes_drop (s : ByteArray) (i : Nat) (h : i < s.size) : (bytesOf s).drop i = bt s i :: (bytesOf s).drop (i + 1) := by
  have hl : i < (bytesOf s).length := by rw [bytesOf_length]; exact h
  rw [List.drop_eq_getElem_cons hl, ← rd_bytesOf]
  unfold rd
  rw [Int.toNat_natCast, List.getD_eq_getElem?_getD, List.getElem?_eq_getElem hl]; rfl
theorem bytes_app (s t : ByteArray) : bytesOf (s ++ t) = bytesOf s ++ bytesOf t := by
  unfold bytesOf; rw [ByteArray.data_append, Array.toList_append, List.map_append]
theorem bytes_cut (s : ByteArray) (a b : Nat) : bytesOf (s.extract a b) = ((bytesOf s).drop a).take (b - a) := by
  unfold bytesOf; rw [ByteArray.data_extract, Array.toList_extract, List.extract_eq_take_drop, List.map_take, List.map_drop]
theorem bytes_size (s : ByteArray) : (bytesOf s).length = s.size := bytesOf_length s

theorem or_join {x y : Int} (x0 : 0 ≤ x) (x1 : x < 65536) (y0 : 0 ≤ y) (y1 : y < 65536) : Go.bits .or .u32 (y * 65536 % 4294967296) x = y * 65536 + x := by
  rw [show y * 65536 % 4294967296 = y * 65536 by omega]
  refine bits_join .u32 32 (by decide) wraps_u32 16 _ _ (by omega) ?_ (by rw [pow32]; omega) x0 ?_ (by rw [pow32]; omega)
  · rw [show (2 : Int) ^ 16 = 65536 by decide]; omega
  · rw [show (2 : Int) ^ 16 = 65536 by decide]; omega
theorem and_low {t : Int} (t0 : 0 ≤ t) (t1 : t < 4294967296) : Go.bits .and .u32 t 65535 = t % 65536 := by
  have h := bits_mask .u32 32 (by decide) wraps_u32 16 (by decide) t t0 (by rw [pow32]; omega)
  rwa [show (2 : Int) ^ 16 - 1 = 65535 by decide, show (2 : Int) ^ 16 = 65536 by decide] at h
theorem wraps_i64 (n : Int) (h₀ : 0 ≤ n) (h₁ : n < 2 ^ 63) : IntKind.i64.wrap n = n := by
  rw [IntKind.wrap_i64]; rw [show (2 : Int) ^ 63 = 9223372036854775808 by decide] at h₁; omega
theorem and_255 {t : Int} (t0 : 0 ≤ t) (t1 : t < 4294967296) : Go.bits .and .i64 t 255 = t % 256 := by
  have h := bits_mask .i64 63 (by decide) wraps_i64 8 (by decide) t t0 (by rw [show (2 : Int) ^ 63 = 9223372036854775808 by decide]; omega)
  rwa [show (2 : Int) ^ 8 - 1 = 255 by decide, show (2 : Int) ^ 8 = 256 by decide] at h
/-- The four bytes of a number. -/
def four (t : Int) : ByteArray := strOfNums [t % 256, t / 256 % 256, t / 65536 % 256, t / 16777216 % 256]
theorem four_size (t : Int) : (four t).size = 4 := by
  unfold four strOfNums
  rfl
end Go.Proofs.Ytacmfpkmcefcfaa.Fold
