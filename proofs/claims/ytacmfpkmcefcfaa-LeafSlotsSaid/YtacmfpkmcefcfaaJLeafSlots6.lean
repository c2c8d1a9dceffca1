/- Parts of the proof for LeafSlots: OctsN, InP, In, InE, Al13. -/
import Derived.Laws.BitsAllLaws
import Derived.Lib.SlBytesRow
import Derived.Test.YtacmfpkmcefcfaaJLeafSlots4
section
namespace Go.Proofs.Ytacmfpkmcefcfaa.Hand
open Go.RowKit Go.Proofs.YtacmfpkmcefcfaaW.PrintWords Go.Proofs.YtacmfpkmcefcfaaW.PrintLast Go.Proofs.YtacmfpkmcefcfaaW.PrintMore Go.Proofs.Ytacmfpkmcefcfaa.A
set_option linter.unusedVariables false
set_option linter.unusedSimpArgs false
theorem ex_all (s : ByteArray) (n : Nat) (h : s.size = n) : s.extract 0 n = s := by
  subst h
  apply ByteArray.ext
  apply Array.toList_inj.1
  rw [Lib.extract_data]
  simp only [List.drop_zero, Nat.sub_zero]
  exact List.take_of_length_le (by rw [← Lib.size_eq]; exact Nat.le_refl _)
theorem ex_none (s : ByteArray) (n : Nat) (h : s.size = n) : s.extract n n = ⟨#[]⟩ := by
  apply ByteArray.ext
  apply Array.toList_inj.1
  rw [Lib.extract_data]
  simp
/-- A number above others' bits. -/
theorem or_up (i : Nat) (a b : Int) (ha : 0 ≤ a) (hb : 0 ≤ b) (hb2 : b < ((2 ^ i : Nat) : Int)) (h : a * ((2 ^ i : Nat) : Int) + b < 4294967296) : Go.bits .or .u32 (a * ((2 ^ i : Nat) : Int)) b = a * ((2 ^ i : Nat) : Int) + b := by
  obtain ⟨x, rfl⟩ := Int.eq_ofNat_of_zero_le ha
  obtain ⟨y, rfl⟩ := Int.eq_ofNat_of_zero_le hb
  have hy : y < 2 ^ i := Int.ofNat_lt.1 hb2
  have hh : x * 2 ^ i + y < 4294967296 := by
    rw [← Int.natCast_mul, ← Int.natCast_add] at h
    exact Int.ofNat_lt.1 h
  have := u32_or_nat (x * 2 ^ i) y (by omega) (by omega)
  rw [show ((x : Int) * ((2 ^ i : Nat) : Int)) = ((x * 2 ^ i : Nat) : Int) by rw [Int.natCast_mul], this, ← Int.natCast_add, Nat.mul_comm x, Nat.two_pow_add_eq_or_of_lt hy]
theorem or_none (b : Int) (hb : 0 ≤ b) (h : b < 4294967296) : Go.bits .or .u32 0 b = b := by
  obtain ⟨y, rfl⟩ := Int.eq_ofNat_of_zero_le hb
  have := u32_or_nat 0 y (by decide) (by omega)
  rw [Nat.zero_or] at this
  exact this
theorem or_8 (a b : Int) (ha : 0 ≤ a) (ha2 : a < 16777216) (hb : 0 ≤ b) (hb2 : b < 256) : Go.bits .or .u32 (a * 256) b = a * 256 + b := or_up 8 a b ha hb hb2 (by show a * 256 + b < _; omega)
theorem or_16 (a b : Int) (ha : 0 ≤ a) (ha2 : a < 65536) (hb : 0 ≤ b) (hb2 : b < 65536) : Go.bits .or .u32 (a * 65536) b = a * 65536 + b := or_up 16 a b ha hb hb2 (by show a * 65536 + b < _; omega)
theorem or_24 (a b : Int) (ha : 0 ≤ a) (ha2 : a < 256) (hb : 0 ≤ b) (hb2 : b < 16777216) : Go.bits .or .u32 (a * 16777216) b = a * 16777216 + b := or_up 24 a b ha hb hb2 (by show a * 16777216 + b < _; omega)
theorem in_num_1 (s : ByteArray) (h : s.size = 1) : octets_In_Num.f 2 s false 1 = some (bt s 0, ⟨#[]⟩, false) := by
  obtain ⟨p0, q0⟩ := bt_range s 0
  simp [octets_In_Num.f, octets_In_Num.j0, octets_In_Num.j1, octets_In_take.f, h, ex_all s 1 h, ex_none s 1 h]
  generalize bt s 0 = b0 at *
  rw [Int.emod_eq_of_lt (by omega) (by omega), or_none _ (by omega) (by omega)]
  exact ⟨by unfold wrap64; omega, rfl⟩
theorem in_num_2 (s : ByteArray) (h : s.size = 2) : octets_In_Num.f 2 s false 2 = some (bt s 0 + 256 * bt s 1, ⟨#[]⟩, false) := by
  obtain ⟨p0, q0⟩ := bt_range s 0
  obtain ⟨p1, q1⟩ := bt_range s 1
  simp [octets_In_Num.f, octets_In_Num.j0, octets_In_Num.j1, octets_In_take.f, h, ex_all s 2 h, ex_none s 2 h]
  generalize bt s 0 = b0 at *
  generalize bt s 1 = b1 at *
  have e0 : b0 % 4294967296 = b0 := by omega
  have e1 : b1 % 4294967296 = b1 := by omega
  have e2 : b1 * 256 % 4294967296 = b1 * 256 := by omega
  simp only [e0, e1, e2]
  rw [or_none _ (by omega) (by omega), or_8 _ _ p1 (by omega) p0 (by omega)]
  exact ⟨by unfold wrap64; omega, rfl⟩
theorem in_num_3 (s : ByteArray) (h : s.size = 3) : octets_In_Num.f 2 s false 3 = some (bt s 0 + 256 * bt s 1 + 65536 * bt s 2, ⟨#[]⟩, false) := by
  obtain ⟨p0, q0⟩ := bt_range s 0
  obtain ⟨p1, q1⟩ := bt_range s 1
  obtain ⟨p2, q2⟩ := bt_range s 2
  simp [octets_In_Num.f, octets_In_Num.j0, octets_In_Num.j1, octets_In_take.f, h, ex_all s 3 h, ex_none s 3 h]
  generalize bt s 0 = b0 at *
  generalize bt s 1 = b1 at *
  generalize bt s 2 = b2 at *
  have e0 : b0 % 4294967296 = b0 := by omega
  have e1 : b1 % 4294967296 = b1 := by omega
  have e2 : b1 * 256 % 4294967296 = b1 * 256 := by omega
  have e3 : b2 % 4294967296 = b2 := by omega
  have e4 : b2 * 65536 % 4294967296 = b2 * 65536 := by omega
  simp only [e0, e1, e2, e3, e4]
  rw [or_none _ (by omega) (by omega), or_16 _ _ p2 (by omega) (by omega) (by omega), show b2 * 65536 + b1 * 256 = (b2 * 256 + b1) * 256 by omega, or_8 _ _ (by omega) (by omega) p0 (by omega)]
  exact ⟨by unfold wrap64; omega, rfl⟩
theorem in_num_4 (s : ByteArray) (h : s.size = 4) : octets_In_Num.f 2 s false 4 = some (bt s 0 + 256 * bt s 1 + 65536 * bt s 2 + 16777216 * bt s 3, ⟨#[]⟩, false) := by
  obtain ⟨p0, q0⟩ := bt_range s 0
  obtain ⟨p1, q1⟩ := bt_range s 1
  obtain ⟨p2, q2⟩ := bt_range s 2
  obtain ⟨p3, q3⟩ := bt_range s 3
  simp [octets_In_Num.f, octets_In_Num.j0, octets_In_Num.j1, octets_In_take.f, h, ex_all s 4 h, ex_none s 4 h]
  generalize bt s 0 = b0 at *
  generalize bt s 1 = b1 at *
  generalize bt s 2 = b2 at *
  generalize bt s 3 = b3 at *
  have e0 : b0 % 4294967296 = b0 := by omega
  have e1 : b1 % 4294967296 = b1 := by omega
  have e2 : b1 * 256 % 4294967296 = b1 * 256 := by omega
  have e3 : b2 % 4294967296 = b2 := by omega
  have e4 : b2 * 65536 % 4294967296 = b2 * 65536 := by omega
  have e5 : b3 % 4294967296 = b3 := by omega
  have e6 : b3 * 16777216 % 4294967296 = b3 * 16777216 := by omega
  simp only [e0, e1, e2, e3, e4, e5, e6]
  rw [or_none _ (by omega) (by omega), or_24 _ _ p3 (by omega) (by omega) (by omega), show b3 * 16777216 + b2 * 65536 = (b3 * 256 + b2) * 65536 by omega, or_16 _ _ (by omega) (by omega) (by omega) (by omega), show (b3 * 256 + b2) * 65536 + b1 * 256 = (b3 * 65536 + b2 * 256 + b1) * 256 by omega, or_8 _ _ (by omega) (by omega) p0 (by omega)]
  exact ⟨by unfold wrap64; omega, rfl⟩
end Go.Proofs.Ytacmfpkmcefcfaa.Hand
end
section
namespace Go.Proofs.Ytacmfpkmcefcfaa.Hand
open Go.RowKit Go.Proofs.YtacmfpkmcefcfaaW.PrintWords Go.Proofs.YtacmfpkmcefcfaaW.PrintLast Go.Proofs.YtacmfpkmcefcfaaW.PrintMore Go.Proofs.Ytacmfpkmcefcfaa.A
set_option linter.unusedVariables false
set_option linter.unusedSimpArgs false
abbrev nix : ByteArray := ⟨#[]⟩
/-- A number of bytes, the lowest first. -/
def leV : List Int → Int
  | [] => 0
  | x :: l => x + 256 * leV l
theorem bytes_get (s : ByteArray) (i : Nat) (h : i < (bytesOf s).length) : (bytesOf s)[i] = bt s (i : Int) := by
  rw [← rd_bytesOf]
  unfold rd
  rw [Int.toNat_natCast, List.getD_eq_getElem?_getD, List.getElem?_eq_getElem h]
  rfl
theorem bytes_1 (s : ByteArray) (h : s.size = 1) : bytesOf s = [bt s 0] := by
  have hl := bytesOf_length s
  refine List.ext_getElem (by rw [hl, h]; rfl) (fun i h1 h2 => ?_)
  rw [bytes_get]
  match i, h2 with
  | 0, _ => rfl
theorem bytes_2 (s : ByteArray) (h : s.size = 2) : bytesOf s = [bt s 0, bt s 1] := by
  have hl := bytesOf_length s
  refine List.ext_getElem (by rw [hl, h]; rfl) (fun i h1 h2 => ?_)
  rw [bytes_get]
  match i, h2 with
  | 0, _ => rfl
  | 1, _ => rfl
theorem bytes_3 (s : ByteArray) (h : s.size = 3) : bytesOf s = [bt s 0, bt s 1, bt s 2] := by
  have hl := bytesOf_length s
  refine List.ext_getElem (by rw [hl, h]; rfl) (fun i h1 h2 => ?_)
  rw [bytes_get]
  match i, h2 with
  | 0, _ => rfl
  | 1, _ => rfl
  | 2, _ => rfl
theorem bytes_4 (s : ByteArray) (h : s.size = 4) : bytesOf s = [bt s 0, bt s 1, bt s 2, bt s 3] := by
  have hl := bytesOf_length s
  refine List.ext_getElem (by rw [hl, h]; rfl) (fun i h1 h2 => ?_)
  rw [bytes_get]
  match i, h2 with
  | 0, _ => rfl
  | 1, _ => rfl
  | 2, _ => rfl
  | 3, _ => rfl
/-- Bytes are taken. -/
def rdTake (n : Int) (s : ByteArray) (b : Bool) : ByteArray × Bool × ByteArray × Bool :=
  if b = true then (nix, false, nix, true) else if (s.size : Int) < n then (nix, false, nix, true) else (s.extract 0 n.toNat, true, s.extract n.toNat s.size, false)
/-- A number is read. -/
def rdNum (n : Int) (s : ByteArray) (b : Bool) : Int × ByteArray × Bool :=
  if b = true then (0, nix, true) else if n < 1 then (0, nix, true) else if 4 < n then (0, nix, true) else if (s.size : Int) < n then (0, nix, true)
  else (leV (bytesOf (s.extract 0 n.toNat)), s.extract n.toNat s.size, false)
theorem take_rd (n : Int) (s : ByteArray) (b : Bool) (h0 : 0 ≤ n) (hb : b = true → s = nix) : octets_In_take.f s b n = some (rdTake n s b) := by
  unfold octets_In_take.f rdTake
  by_cases h1 : b = true
  · rw [if_pos h1, if_pos h1, hb h1, h1]
  rw [if_neg h1, if_neg h1]
  by_cases h2 : (s.size : Int) < n
  · rw [if_pos h2, if_pos h2]; rfl
  · rw [if_neg h2, if_neg h2, if_pos h0, if_pos (by omega)]
    have : b = false := by simpa using h1
    rw [this]
theorem ex_size (s : ByteArray) (n : Nat) (h : n ≤ s.size) : (s.extract 0 n).size = n := by rw [ByteArray.size_extract]; omega
theorem num_rd (n : Int) (s : ByteArray) (b : Bool) (hb : b = true → s = nix) : octets_In_Num.f 2 s b n = some (rdNum n s b) := by
  unfold octets_In_Num.f rdNum
  by_cases h1 : n < 1
  · rw [if_pos h1]
    cases b
    · rw [if_neg Bool.false_ne_true, if_pos h1]; rfl
    · rw [if_pos rfl]; rfl
  rw [if_neg h1, if_neg h1]
  by_cases h4 : 4 < n
  · rw [decide_eq_true (show n > 4 from h4), if_pos h4]
    cases b
    · rw [if_neg Bool.false_ne_true]; rfl
    · rw [if_pos rfl]; rfl
  rw [decide_eq_false (show ¬ n > 4 from h4), if_neg h4]
  simp only [octets_In_Num.j0, octets_In_Num.j1]
  rw [if_neg Bool.false_ne_true]
  rw [take_rd n s b (by omega) hb, Option.bind_some]
  unfold rdTake
  by_cases h5 : b = true
  · rw [if_pos h5, if_pos h5]; rfl
  rw [if_neg h5, if_neg h5]
  by_cases h6 : (s.size : Int) < n
  · rw [if_pos h6, if_pos h6]; rfl
  rw [if_neg h6, if_neg h6]
  obtain ⟨m, rfl⟩ : ∃ m : Nat, n = (m : Int) := ⟨n.toNat, by omega⟩
  rw [Int.toNat_natCast]
  have hz := ex_size s m (by omega)
  generalize s.extract 0 m = e at *
  generalize s.extract m s.size = r at *
  have key := hz
  rcases (show m = 1 ∨ m = 2 ∨ m = 3 ∨ m = 4 by omega) with rfl | rfl | rfl | rfl
  · have h := in_num_1 e hz
    simp [octets_In_Num.f, octets_In_Num.j0, octets_In_Num.j1, octets_In_take.f, hz, ex_all e _ hz, ex_none e _ hz] at h ⊢
    rw [h.1, bytes_1 e hz]
    simp [leV]
  · have h := in_num_2 e hz
    simp [octets_In_Num.f, octets_In_Num.j0, octets_In_Num.j1, octets_In_take.f, hz, ex_all e _ hz, ex_none e _ hz] at h ⊢
    rw [h.1, bytes_2 e hz]
    simp [leV]
  · have h := in_num_3 e hz
    simp [octets_In_Num.f, octets_In_Num.j0, octets_In_Num.j1, octets_In_take.f, hz, ex_all e _ hz, ex_none e _ hz] at h ⊢
    rw [h.1, bytes_3 e hz]
    simp [leV]
    omega
  · have h := in_num_4 e hz
    simp [octets_In_Num.f, octets_In_Num.j0, octets_In_Num.j1, octets_In_take.f, hz, ex_all e _ hz, ex_none e _ hz] at h ⊢
    rw [h.1, bytes_4 e hz]
    simp [leV]
    omega
end Go.Proofs.Ytacmfpkmcefcfaa.Hand
end
section
namespace Go.Proofs.Ytacmfpkmcefcfaa.Hand
open Go.RowKit Go.Proofs.YtacmfpkmcefcfaaW.PrintWords Go.Proofs.YtacmfpkmcefcfaaW.PrintLast Go.Proofs.YtacmfpkmcefcfaaW.PrintMore Go.Proofs.Ytacmfpkmcefcfaa.A
set_option linter.unusedVariables false
set_option linter.unusedSimpArgs false
attribute [local go_sem] max2_int min2_int max_two min_two max_three min_three max_four min_four
/-- An In: the bytes that are left, and whether they were too few. -/
def InAt (w : World) (base g : Nat) (s : ByteArray) (b : Bool) : Prop := Blk w g 93 #[.string s, .bool b] ∧ base ≤ g ∧ (b = true → s = nix)
theorem InAt.keep {w w1 : World} {base g : Nat} {s : ByteArray} {b : Bool} (h : InAt w base g s b) (hb : Below w.heap.size w w1) : InAt w1 base g s b := ⟨h.1.keep hb, h.2⟩
theorem InAt.lt {w : World} {base g : Nat} {s : ByteArray} {b : Bool} (h : InAt w base g s b) : g < w.heap.size := h.1.lt
theorem leV_in : ∀ l : List Int, (∀ x ∈ l, 0 ≤ x ∧ x < 256) → 0 ≤ leV l
  | [], _ => by simp [leV]
  | x :: l, h => by
    have h1 := h x (by simp)
    have h2 := leV_in l (fun y hy => h y (by simp [hy]))
    unfold leV
    omega
theorem bytes_in (s : ByteArray) : ∀ x ∈ bytesOf s, 0 ≤ x ∧ x < 256 := by
  unfold bytesOf
  intro x hx
  obtain ⟨b, _, rfl⟩ := List.mem_map.1 hx
  have := b.toNat_lt
  omega
end Go.Proofs.Ytacmfpkmcefcfaa.Hand
end
section
namespace Go.Proofs.Ytacmfpkmcefcfaa.Hand
open Go.RowKit Go.Proofs.YtacmfpkmcefcfaaW.PrintWords Go.Proofs.YtacmfpkmcefcfaaW.PrintLast Go.Proofs.YtacmfpkmcefcfaaW.PrintMore Go.Proofs.Ytacmfpkmcefcfaa.A
set_option linter.unusedVariables false
set_option linter.unusedSimpArgs false
attribute [local go_sem] max2_int min2_int max_two min_two max_three min_three max_four min_four
theorem bel2 {B : Nat} {w w1 w2 : World} (h : Below B w w1) (k : Below B w1 w2) : Below B w w2 :=
  ⟨k.os.trans h.os, k.tape.trans h.tape, k.output.trans h.output, Nat.le_trans h.size k.size, fun i hi => (k.block i hi).trans (h.block i hi)⟩
theorem sz_list (s : ByteArray) : s.data.toList.length = s.size := by rw [Array.length_toList]; rfl
theorem ba_ext {a b : ByteArray} (h : a.data.toList = b.data.toList) : a = b := by
  cases a; cases b
  simp only at h
  congr 1
  exact Array.toList_inj.1 h
theorem bytes_str (l : List Int) (h : ∀ x ∈ l, 0 ≤ x ∧ x < 256) : bytesOf (strOfNums l) = l := by
  unfold bytesOf strOfNums
  simp only [List.map_map]
  conv => rhs; rw [← List.map_id l]
  apply List.map_congr_left
  intro x hx
  have := h x hx
  show (((UInt8.ofNat x.toNat).toNat : Nat) : Int) = x
  rw [UInt8.toNat_ofNat']
  omega
theorem bytes_cut (s : ByteArray) (a b : Nat) : bytesOf (s.extract a b) = ((bytesOf s).drop a).take (b - a) := by
  unfold bytesOf; rw [ByteArray.data_extract, Array.toList_extract, List.extract_eq_take_drop, List.map_take, List.map_drop]
theorem bytes_size (s : ByteArray) : (bytesOf s).length = s.size := bytesOf_length s
theorem leB_in : ∀ (n : Nat) (v : Int), ∀ x ∈ leB n v, 0 ≤ x ∧ x < 256
  | 0, _, x, h => by simp [leB] at h
  | n + 1, v, x, h => by
    unfold leB at h
    rcases List.mem_cons.1 h with rfl | h
    · omega
    · exact leB_in n _ x h
theorem leV_leB : ∀ (n : Nat) (v : Int), 0 ≤ v → v < 256 ^ n → leV (leB n v) = v
  | 0, v, h0, h1 => by unfold leB leV; omega
  | n + 1, v, h0, h1 => by
    unfold leB leV
    rw [leV_leB n (v / 256) (by omega) (by rw [Int.pow_succ] at h1; omega)]
    omega
end Go.Proofs.Ytacmfpkmcefcfaa.Hand
end
