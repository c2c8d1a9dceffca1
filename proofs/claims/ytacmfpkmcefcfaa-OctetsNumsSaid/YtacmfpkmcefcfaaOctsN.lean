/- Numbers that are read back. No walk. -/
import Derived.Test.YtacmfpkmcefcfaaOctsT
import Derived.Laws.BitsAllLaws
import Derived.Lib.SlBytesRow
import Derived.Test.YtacmfpkmcefcfaaAx5
import Derived.Test.YtacmfpkmcefcfaaAx6
namespace Go.Proofs.Ytacmfpkmcefcfaa.Hand
open Go.RowKit Go.Proofs.YtacmfpkmcefcfaaW.PrintWords Go.Proofs.YtacmfpkmcefcfaaW.PrintLast Go.Proofs.YtacmfpkmcefcfaaW.PrintMore Go.Proofs.Ytacmfpkmcefcfaa.A
set_option linter.unusedVariables false
set_option linter.unusedSimpArgs false
theorem ex_all (s : ByteArray) (n : Nat) (h : s.size = n) : s.extract 0 n = s := by
  subst h
  apply ByteArray.ext
  apply Array.toList_inj.1
  rw [Lib.extract_data]
  simp only [List.drop_zero, Nat.sub_zero]
  exact List.take_of_length_le (by rw [← Lib.size_eq]; exact Nat.le_refl _)
theorem ex_none (s : ByteArray) (n : Nat) (h : s.size = n) : s.extract n n = ⟨#[]⟩ := by
  apply ByteArray.ext
  apply Array.toList_inj.1
  rw [Lib.extract_data]
  simp
/-- A number above others' bits. -/
theorem or_up (i : Nat) (a b : Int) (ha : 0 ≤ a) (hb : 0 ≤ b) (hb2 : b < ((2 ^ i : Nat) : Int)) (h : a * ((2 ^ i : Nat) : Int) + b < 4294967296) : Go.bits .or .u32 (a * ((2 ^ i : Nat) : Int)) b = a * ((2 ^ i : Nat) : Int) + b := by
  obtain ⟨x, rfl⟩ := Int.eq_ofNat_of_zero_le ha
  obtain ⟨y, rfl⟩ := Int.eq_ofNat_of_zero_le hb
  have hy : y < 2 ^ i := Int.ofNat_lt.1 hb2
  have hh : x * 2 ^ i + y < 4294967296 := by
    rw [← Int.natCast_mul, ← Int.natCast_add] at h
    exact Int.ofNat_lt.1 h
  have := u32_or_nat (x * 2 ^ i) y (by omega) (by omega)
  rw [show ((x : Int) * ((2 ^ i : Nat) : Int)) = ((x * 2 ^ i : Nat) : Int) by rw [Int.natCast_mul], this, ← Int.natCast_add, Nat.mul_comm x, Nat.two_pow_add_eq_or_of_lt hy]
theorem or_none (b : Int) (hb : 0 ≤ b) (h : b < 4294967296) : Go.bits .or .u32 0 b = b := by
  obtain ⟨y, rfl⟩ := Int.eq_ofNat_of_zero_le hb
  have := u32_or_nat 0 y (by decide) (by omega)
  rw [Nat.zero_or] at this
  exact this
theorem or_8 (a b : Int) (ha : 0 ≤ a) (ha2 : a < 16777216) (hb : 0 ≤ b) (hb2 : b < 256) : Go.bits .or .u32 (a * 256) b = a * 256 + b := or_up 8 a b ha hb hb2 (by show a * 256 + b < _; omega)
theorem or_16 (a b : Int) (ha : 0 ≤ a) (ha2 : a < 65536) (hb : 0 ≤ b) (hb2 : b < 65536) : Go.bits .or .u32 (a * 65536) b = a * 65536 + b := or_up 16 a b ha hb hb2 (by show a * 65536 + b < _; omega)
theorem or_24 (a b : Int) (ha : 0 ≤ a) (ha2 : a < 256) (hb : 0 ≤ b) (hb2 : b < 16777216) : Go.bits .or .u32 (a * 16777216) b = a * 16777216 + b := or_up 24 a b ha hb hb2 (by show a * 16777216 + b < _; omega)
theorem in_num_1 (s : ByteArray) (h : s.size = 1) : octets_In_Num.f 2 s false 1 = some (bt s 0, ⟨#[]⟩, false) := by
  obtain ⟨p0, q0⟩ := bt_range s 0
  simp [octets_In_Num.f, octets_In_Num.j0, octets_In_Num.j1, octets_In_take.f, h, ex_all s 1 h, ex_none s 1 h]
  generalize bt s 0 = b0 at *
  rw [Int.emod_eq_of_lt (by omega) (by omega), or_none _ (by omega) (by omega)]
  exact ⟨by unfold wrap64; omega, rfl⟩
theorem in_num_2 (s : ByteArray) (h : s.size = 2) : octets_In_Num.f 2 s false 2 = some (bt s 0 + 256 * bt s 1, ⟨#[]⟩, false) := by
  obtain ⟨p0, q0⟩ := bt_range s 0
  obtain ⟨p1, q1⟩ := bt_range s 1
  simp [octets_In_Num.f, octets_In_Num.j0, octets_In_Num.j1, octets_In_take.f, h, ex_all s 2 h, ex_none s 2 h]
  generalize bt s 0 = b0 at *
  generalize bt s 1 = b1 at *
  have e0 : b0 % 4294967296 = b0 := by omega
  have e1 : b1 % 4294967296 = b1 := by omega
  have e2 : b1 * 256 % 4294967296 = b1 * 256 := by omega
  simp only [e0, e1, e2]
  rw [or_none _ (by omega) (by omega), or_8 _ _ p1 (by omega) p0 (by omega)]
  exact ⟨by unfold wrap64; omega, rfl⟩
theorem in_num_3 (s : ByteArray) (h : s.size = 3) : octets_In_Num.f 2 s false 3 = some (bt s 0 + 256 * bt s 1 + 65536 * bt s 2, ⟨#[]⟩, false) := by
  obtain ⟨p0, q0⟩ := bt_range s 0
  obtain ⟨p1, q1⟩ := bt_range s 1
  obtain ⟨p2, q2⟩ := bt_range s 2
  simp [octets_In_Num.f, octets_In_Num.j0, octets_In_Num.j1, octets_In_take.f, h, ex_all s 3 h, ex_none s 3 h]
  generalize bt s 0 = b0 at *
  generalize bt s 1 = b1 at *
  generalize bt s 2 = b2 at *
  have e0 : b0 % 4294967296 = b0 := by omega
  have e1 : b1 % 4294967296 = b1 := by omega
  have e2 : b1 * 256 % 4294967296 = b1 * 256 := by omega
  have e3 : b2 % 4294967296 = b2 := by omega
  have e4 : b2 * 65536 % 4294967296 = b2 * 65536 := by omega
  simp only [e0, e1, e2, e3, e4]
  rw [or_none _ (by omega) (by omega), or_16 _ _ p2 (by omega) (by omega) (by omega), show b2 * 65536 + b1 * 256 = (b2 * 256 + b1) * 256 by omega, or_8 _ _ (by omega) (by omega) p0 (by omega)]
  exact ⟨by unfold wrap64; omega, rfl⟩
theorem in_num_4 (s : ByteArray) (h : s.size = 4) : octets_In_Num.f 2 s false 4 = some (bt s 0 + 256 * bt s 1 + 65536 * bt s 2 + 16777216 * bt s 3, ⟨#[]⟩, false) := by
  obtain ⟨p0, q0⟩ := bt_range s 0
  obtain ⟨p1, q1⟩ := bt_range s 1
  obtain ⟨p2, q2⟩ := bt_range s 2
  obtain ⟨p3, q3⟩ := bt_range s 3
  simp [octets_In_Num.f, octets_In_Num.j0, octets_In_Num.j1, octets_In_take.f, h, ex_all s 4 h, ex_none s 4 h]
  generalize bt s 0 = b0 at *
  generalize bt s 1 = b1 at *
  generalize bt s 2 = b2 at *
  generalize bt s 3 = b3 at *
  have e0 : b0 % 4294967296 = b0 := by omega
  have e1 : b1 % 4294967296 = b1 := by omega
  have e2 : b1 * 256 % 4294967296 = b1 * 256 := by omega
  have e3 : b2 % 4294967296 = b2 := by omega
  have e4 : b2 * 65536 % 4294967296 = b2 * 65536 := by omega
  have e5 : b3 % 4294967296 = b3 := by omega
  have e6 : b3 * 16777216 % 4294967296 = b3 * 16777216 := by omega
  simp only [e0, e1, e2, e3, e4, e5, e6]
  rw [or_none _ (by omega) (by omega), or_24 _ _ p3 (by omega) (by omega) (by omega), show b3 * 16777216 + b2 * 65536 = (b3 * 256 + b2) * 65536 by omega, or_16 _ _ (by omega) (by omega) (by omega) (by omega), show (b3 * 256 + b2) * 65536 + b1 * 256 = (b3 * 65536 + b2 * 256 + b1) * 256 by omega, or_8 _ _ (by omega) (by omega) p0 (by omega)]
  exact ⟨by unfold wrap64; omega, rfl⟩
end Go.Proofs.Ytacmfpkmcefcfaa.Hand
