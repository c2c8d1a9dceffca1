/- Parts of the proof for OctetsRead: OctsN, InP, In, InE, Al13. -/
import Derived.Laws.BitsAllLaws
import Derived.Lib.SlBytesRow
import Derived.Test.YtacmfpkmcefcfaaJOctetsRead4
import Derived.Test.YtacmfpkmcefcfaaJOctetsRead5
section
namespace Go.Proofs.Ytacmfpkmcefcfaa.Hand
open Go.RowKit Go.Proofs.YtacmfpkmcefcfaaW.PrintWords Go.Proofs.YtacmfpkmcefcfaaW.PrintLast Go.Proofs.YtacmfpkmcefcfaaW.PrintMore Go.Proofs.Ytacmfpkmcefcfaa.A
set_option linter.unusedVariables false
set_option linter.unusedSimpArgs false
theorem ex_all (s : ByteArray) (n : Nat) (h : s.size = n) : s.extract 0 n = s := by
  subst h
  apply ByteArray.ext
  apply Array.toList_inj.1
  rw [Lib.extract_data]
  simp only [List.drop_zero, Nat.sub_zero]
  exact List.take_of_length_le (by rw [← Lib.size_eq]; exact Nat.le_refl _)
theorem ex_none (s : ByteArray) (n : Nat) (h : s.size = n) : s.extract n n = ⟨#[]⟩ := by
  apply ByteArray.ext
  apply Array.toList_inj.1
  rw [Lib.extract_data]
  simp
/-- A number above others' bits. -/
theorem or_up (i : Nat) (a b : Int) (ha : 0 ≤ a) (hb : 0 ≤ b) (hb2 : b < ((2 ^ i : Nat) : Int)) (h : a * ((2 ^ i : Nat) : Int) + b < 4294967296) : Go.bits .or .u32 (a * ((2 ^ i : Nat) : Int)) b = a * ((2 ^ i : Nat) : Int) + b := by
  obtain ⟨x, rfl⟩ := Int.eq_ofNat_of_zero_le ha
  obtain ⟨y, rfl⟩ := Int.eq_ofNat_of_zero_le hb
  have hy : y < 2 ^ i := Int.ofNat_lt.1 hb2
  have hh : x * 2 ^ i + y < 4294967296 := by
    rw [← Int.natCast_mul, ← Int.natCast_add] at h
    exact Int.ofNat_lt.1 h
  have := u32_or_nat (x * 2 ^ i) y (by omega) (by omega)
  rw [show ((x : Int) * ((2 ^ i : Nat) : Int)) = ((x * 2 ^ i : Nat) : Int) by rw [Int.natCast_mul], this, ← Int.natCast_add, Nat.mul_comm x, Nat.two_pow_add_eq_or_of_lt hy]
theorem or_none (b : Int) (hb : 0 ≤ b) (h : b < 4294967296) : Go.bits .or .u32 0 b = b := by
  obtain ⟨y, rfl⟩ := Int.eq_ofNat_of_zero_le hb
  have := u32_or_nat 0 y (by decide) (by omega)
  rw [Nat.zero_or] at this
  exact this
theorem or_8 (a b : Int) (ha : 0 ≤ a) (ha2 : a < 16777216) (hb : 0 ≤ b) (hb2 : b < 256) : Go.bits .or .u32 (a * 256) b = a * 256 + b := or_up 8 a b ha hb hb2 (by show a * 256 + b < _; omega)
theorem or_16 (a b : Int) (ha : 0 ≤ a) (ha2 : a < 65536) (hb : 0 ≤ b) (hb2 : b < 65536) : Go.bits .or .u32 (a * 65536) b = a * 65536 + b := or_up 16 a b ha hb hb2 (by show a * 65536 + b < _; omega)
theorem or_24 (a b : Int) (ha : 0 ≤ a) (ha2 : a < 256) (hb : 0 ≤ b) (hb2 : b < 16777216) : Go.bits .or .u32 (a * 16777216) b = a * 16777216 + b := or_up 24 a b ha hb hb2 (by show a * 16777216 + b < _; omega)
theorem in_num_1 (s : ByteArray) (h : s.size = 1) : octets_In_Num.f 2 s false 1 = some (bt s 0, ⟨#[]⟩, false) := by
  obtain ⟨p0, q0⟩ := bt_range s 0
  simp [octets_In_Num.f, octets_In_Num.j0, octets_In_Num.j1, octets_In_take.f, h, ex_all s 1 h, ex_none s 1 h]
  generalize bt s 0 = b0 at *
  rw [Int.emod_eq_of_lt (by omega) (by omega), or_none _ (by omega) (by omega)]
  exact ⟨by unfold wrap64; omega, rfl⟩
theorem in_num_2 (s : ByteArray) (h : s.size = 2) : octets_In_Num.f 2 s false 2 = some (bt s 0 + 256 * bt s 1, ⟨#[]⟩, false) := by
  obtain ⟨p0, q0⟩ := bt_range s 0
  obtain ⟨p1, q1⟩ := bt_range s 1
  simp [octets_In_Num.f, octets_In_Num.j0, octets_In_Num.j1, octets_In_take.f, h, ex_all s 2 h, ex_none s 2 h]
  generalize bt s 0 = b0 at *
  generalize bt s 1 = b1 at *
  have e0 : b0 % 4294967296 = b0 := by omega
  have e1 : b1 % 4294967296 = b1 := by omega
  have e2 : b1 * 256 % 4294967296 = b1 * 256 := by omega
  simp only [e0, e1, e2]
  rw [or_none _ (by omega) (by omega), or_8 _ _ p1 (by omega) p0 (by omega)]
  exact ⟨by unfold wrap64; omega, rfl⟩
theorem in_num_3 (s : ByteArray) (h : s.size = 3) : octets_In_Num.f 2 s false 3 = some (bt s 0 + 256 * bt s 1 + 65536 * bt s 2, ⟨#[]⟩, false) := by
  obtain ⟨p0, q0⟩ := bt_range s 0
  obtain ⟨p1, q1⟩ := bt_range s 1
  obtain ⟨p2, q2⟩ := bt_range s 2
  simp [octets_In_Num.f, octets_In_Num.j0, octets_In_Num.j1, octets_In_take.f, h, ex_all s 3 h, ex_none s 3 h]
  generalize bt s 0 = b0 at *
  generalize bt s 1 = b1 at *
  generalize bt s 2 = b2 at *
  have e0 : b0 % 4294967296 = b0 := by omega
  have e1 : b1 % 4294967296 = b1 := by omega
  have e2 : b1 * 256 % 4294967296 = b1 * 256 := by omega
  have e3 : b2 % 4294967296 = b2 := by omega
  have e4 : b2 * 65536 % 4294967296 = b2 * 65536 := by omega
  simp only [e0, e1, e2, e3, e4]
  rw [or_none _ (by omega) (by omega), or_16 _ _ p2 (by omega) (by omega) (by omega), show b2 * 65536 + b1 * 256 = (b2 * 256 + b1) * 256 by omega, or_8 _ _ (by omega) (by omega) p0 (by omega)]
  exact ⟨by unfold wrap64; omega, rfl⟩
theorem in_num_4 (s : ByteArray) (h : s.size = 4) : octets_In_Num.f 2 s false 4 = some (bt s 0 + 256 * bt s 1 + 65536 * bt s 2 + 16777216 * bt s 3, ⟨#[]⟩, false) := by
  obtain ⟨p0, q0⟩ := bt_range s 0
  obtain ⟨p1, q1⟩ := bt_range s 1
  obtain ⟨p2, q2⟩ := bt_range s 2
  obtain ⟨p3, q3⟩ := bt_range s 3
  simp [octets_In_Num.f, octets_In_Num.j0, octets_In_Num.j1, octets_In_take.f, h, ex_all s 4 h, ex_none s 4 h]
  generalize bt s 0 = b0 at *
  generalize bt s 1 = b1 at *
  generalize bt s 2 = b2 at *
  generalize bt s 3 = b3 at *
  have e0 : b0 % 4294967296 = b0 := by omega
  have e1 : b1 % 4294967296 = b1 := by omega
  have e2 : b1 * 256 % 4294967296 = b1 * 256 := by omega
  have e3 : b2 % 4294967296 = b2 := by omega
  have e4 : b2 * 65536 % 4294967296 = b2 * 65536 := by omega
  have e5 : b3 % 4294967296 = b3 := by omega
  have e6 : b3 * 16777216 % 4294967296 = b3 * 16777216 := by omega
  simp only [e0, e1, e2, e3, e4, e5, e6]
  rw [or_none _ (by omega) (by omega), or_24 _ _ p3 (by omega) (by omega) (by omega), show b3 * 16777216 + b2 * 65536 = (b3 * 256 + b2) * 65536 by omega, or_16 _ _ (by omega) (by omega) (by omega) (by omega), show (b3 * 256 + b2) * 65536 + b1 * 256 = (b3 * 65536 + b2 * 256 + b1) * 256 by omega, or_8 _ _ (by omega) (by omega) p0 (by omega)]
  exact ⟨by unfold wrap64; omega, rfl⟩
end Go.Proofs.Ytacmfpkmcefcfaa.Hand
end
section
namespace Go.Proofs.Ytacmfpkmcefcfaa.Hand
open Go.RowKit Go.Proofs.YtacmfpkmcefcfaaW.PrintWords Go.Proofs.YtacmfpkmcefcfaaW.PrintLast Go.Proofs.YtacmfpkmcefcfaaW.PrintMore Go.Proofs.Ytacmfpkmcefcfaa.A
set_option linter.unusedVariables false
set_option linter.unusedSimpArgs false
abbrev nix : ByteArray := ⟨#[]⟩
/-- A number of bytes, the lowest first. -/
def leV : List Int → Int
  | [] => 0
  | x :: l => x + 256 * leV l
theorem bytes_get (s : ByteArray) (i : Nat) (h : i < (bytesOf s).length) : (bytesOf s)[i] = bt s (i : Int) := by
  rw [← rd_bytesOf]
  unfold rd
  rw [Int.toNat_natCast, List.getD_eq_getElem?_getD, List.getElem?_eq_getElem h]
  rfl
theorem bytes_1 (s : ByteArray) (h : s.size = 1) : bytesOf s = [bt s 0] := by
  have hl := bytesOf_length s
  refine List.ext_getElem (by rw [hl, h]; rfl) (fun i h1 h2 => ?_)
  rw [bytes_get]
  match i, h2 with
  | 0, _ => rfl
theorem bytes_2 (s : ByteArray) (h : s.size = 2) : bytesOf s = [bt s 0, bt s 1] := by
  have hl := bytesOf_length s
  refine List.ext_getElem (by rw [hl, h]; rfl) (fun i h1 h2 => ?_)
  rw [bytes_get]
  match i, h2 with
  | 0, _ => rfl
  | 1, _ => rfl
theorem bytes_3 (s : ByteArray) (h : s.size = 3) : bytesOf s = [bt s 0, bt s 1, bt s 2] := by
  have hl := bytesOf_length s
  refine List.ext_getElem (by rw [hl, h]; rfl) (fun i h1 h2 => ?_)
  rw [bytes_get]
  match i, h2 with
  | 0, _ => rfl
  | 1, _ => rfl
  | 2, _ => rfl
theorem bytes_4 (s : ByteArray) (h : s.size = 4) : bytesOf s = [bt s 0, bt s 1, bt s 2, bt s 3] := by
  have hl := bytesOf_length s
  refine List.ext_getElem (by rw [hl, h]; rfl) (fun i h1 h2 => ?_)
  rw [bytes_get]
  match i, h2 with
  | 0, _ => rfl
  | 1, _ => rfl
  | 2, _ => rfl
  | 3, _ => rfl
/-- Bytes are taken. -/
def rdTake (n : Int) (s : ByteArray) (b : Bool) : ByteArray × Bool × ByteArray × Bool :=
  if b = true then (nix, false, nix, true) else if (s.size : Int) < n then (nix, false, nix, true) else (s.extract 0 n.toNat, true, s.extract n.toNat s.size, false)
/-- A number is read. -/
def rdNum (n : Int) (s : ByteArray) (b : Bool) : Int × ByteArray × Bool :=
  if b = true then (0, nix, true) else if n < 1 then (0, nix, true) else if 4 < n then (0, nix, true) else if (s.size : Int) < n then (0, nix, true)
  else (leV (bytesOf (s.extract 0 n.toNat)), s.extract n.toNat s.size, false)
theorem take_rd (n : Int) (s : ByteArray) (b : Bool) (h0 : 0 ≤ n) (hb : b = true → s = nix) : octets_In_take.f s b n = some (rdTake n s b) := by
  unfold octets_In_take.f rdTake
  by_cases h1 : b = true
  · rw [if_pos h1, if_pos h1, hb h1, h1]
  rw [if_neg h1, if_neg h1]
  by_cases h2 : (s.size : Int) < n
  · rw [if_pos h2, if_pos h2]; rfl
  · rw [if_neg h2, if_neg h2, if_pos h0, if_pos (by omega)]
    have : b = false := by simpa using h1
    rw [this]
theorem ex_size (s : ByteArray) (n : Nat) (h : n ≤ s.size) : (s.extract 0 n).size = n := by rw [ByteArray.size_extract]; omega
theorem num_rd (n : Int) (s : ByteArray) (b : Bool) (hb : b = true → s = nix) : octets_In_Num.f 2 s b n = some (rdNum n s b) := by
  unfold octets_In_Num.f rdNum
  by_cases h1 : n < 1
  · rw [if_pos h1]
    cases b
    · rw [if_neg Bool.false_ne_true, if_pos h1]; rfl
    · rw [if_pos rfl]; rfl
  rw [if_neg h1, if_neg h1]
  by_cases h4 : 4 < n
  · rw [decide_eq_true (show n > 4 from h4), if_pos h4]
    cases b
    · rw [if_neg Bool.false_ne_true]; rfl
    · rw [if_pos rfl]; rfl
  rw [decide_eq_false (show ¬ n > 4 from h4), if_neg h4]
  simp only [octets_In_Num.j0, octets_In_Num.j1]
  rw [if_neg Bool.false_ne_true]
  rw [take_rd n s b (by omega) hb, Option.bind_some]
  unfold rdTake
  by_cases h5 : b = true
  · rw [if_pos h5, if_pos h5]; rfl
  rw [if_neg h5, if_neg h5]
  by_cases h6 : (s.size : Int) < n
  · rw [if_pos h6, if_pos h6]; rfl
  rw [if_neg h6, if_neg h6]
  obtain ⟨m, rfl⟩ : ∃ m : Nat, n = (m : Int) := ⟨n.toNat, by omega⟩
  rw [Int.toNat_natCast]
  have hz := ex_size s m (by omega)
  generalize s.extract 0 m = e at *
  generalize s.extract m s.size = r at *
  have key := hz
  rcases (show m = 1 ∨ m = 2 ∨ m = 3 ∨ m = 4 by omega) with rfl | rfl | rfl | rfl
  · have h := in_num_1 e hz
    simp [octets_In_Num.f, octets_In_Num.j0, octets_In_Num.j1, octets_In_take.f, hz, ex_all e _ hz, ex_none e _ hz] at h ⊢
    rw [h.1, bytes_1 e hz]
    simp [leV]
  · have h := in_num_2 e hz
    simp [octets_In_Num.f, octets_In_Num.j0, octets_In_Num.j1, octets_In_take.f, hz, ex_all e _ hz, ex_none e _ hz] at h ⊢
    rw [h.1, bytes_2 e hz]
    simp [leV]
  · have h := in_num_3 e hz
    simp [octets_In_Num.f, octets_In_Num.j0, octets_In_Num.j1, octets_In_take.f, hz, ex_all e _ hz, ex_none e _ hz] at h ⊢
    rw [h.1, bytes_3 e hz]
    simp [leV]
    omega
  · have h := in_num_4 e hz
    simp [octets_In_Num.f, octets_In_Num.j0, octets_In_Num.j1, octets_In_take.f, hz, ex_all e _ hz, ex_none e _ hz] at h ⊢
    rw [h.1, bytes_4 e hz]
    simp [leV]
    omega
end Go.Proofs.Ytacmfpkmcefcfaa.Hand
end
section
namespace Go.Proofs.Ytacmfpkmcefcfaa.Hand
open Go.RowKit Go.Proofs.YtacmfpkmcefcfaaW.PrintWords Go.Proofs.YtacmfpkmcefcfaaW.PrintLast Go.Proofs.YtacmfpkmcefcfaaW.PrintMore Go.Proofs.Ytacmfpkmcefcfaa.A
set_option linter.unusedVariables false
set_option linter.unusedSimpArgs false
attribute [local go_sem] max2_int min2_int max_two min_two max_three min_three max_four min_four
/-- An In: the bytes that are left, and whether they were too few. -/
def InAt (w : World) (base g : Nat) (s : ByteArray) (b : Bool) : Prop := Blk w g 93 #[.string s, .bool b] ∧ base ≤ g ∧ (b = true → s = nix)
theorem InAt.keep {w w1 : World} {base g : Nat} {s : ByteArray} {b : Bool} (h : InAt w base g s b) (hb : Below w.heap.size w w1) : InAt w1 base g s b := ⟨h.1.keep hb, h.2⟩
theorem InAt.lt {w : World} {base g : Nat} {s : ByteArray} {b : Bool} (h : InAt w base g s b) : g < w.heap.size := h.1.lt
theorem only_of {w0 w w' : World} {g : Nat} (h1 : Below w0.heap.size w0 w) (h2 : Below w0.heap.size w0 w') (k : KeepBut w w' g none) : Only w w' g :=
  ⟨h2.os.trans h1.os.symm, h2.tape.trans h1.tape.symm, h2.output.trans h1.output.symm, k.1, fun i hi hne => k.2 i hi (fun e => hne (by rw [e])) (by simp)⟩
theorem rdTake_inv (n : Int) (s : ByteArray) (b : Bool) : (rdTake n s b).2.2.2 = true → (rdTake n s b).2.2.1 = nix := by
  unfold rdTake
  intro h
  repeat' split
  all_goals first
    | rfl
    | (exfalso; simp_all)
theorem rdNum_inv (n : Int) (s : ByteArray) (b : Bool) : (rdNum n s b).2.2 = true → (rdNum n s b).2.1 = nix := by
  unfold rdNum
  intro h
  repeat' split
  all_goals first
    | rfl
    | (exfalso; simp_all)
theorem leV_in : ∀ l : List Int, (∀ x ∈ l, 0 ≤ x ∧ x < 256) → 0 ≤ leV l
  | [], _ => by simp [leV]
  | x :: l, h => by
    have h1 := h x (by simp)
    have h2 := leV_in l (fun y hy => h y (by simp [hy]))
    unfold leV
    omega
theorem bytes_in (s : ByteArray) : ∀ x ∈ bytesOf s, 0 ≤ x ∧ x < 256 := by
  unfold bytesOf
  intro x hx
  obtain ⟨b, _, rfl⟩ := List.mem_map.1 hx
  have := b.toNat_lt
  omega
theorem rdNum_nonneg (n : Int) (s : ByteArray) (b : Bool) : 0 ≤ (rdNum n s b).1 := by
  unfold rdNum
  repeat' split
  all_goals first
    | exact Int.le_refl _
    | exact leV_in _ (bytes_in _)
theorem rdNum1_lt (s : ByteArray) (b : Bool) : (rdNum 1 s b).1 < 256 := by
  unfold rdNum
  repeat' split
  all_goals first
    | exact (by decide : (0 : Int) < 256)
    | skip
  rename_i h1 h2 h3 h4
  have hz : (s.extract 0 (1 : Int).toNat).size = 1 := by rw [ByteArray.size_extract]; simp at h4 ⊢; omega
  rw [bytes_1 _ hz]
  have := bt_range (s.extract 0 (1 : Int).toNat) 0
  simp only [leV]
  omega
/-- A text is read. -/
def rdText (s : ByteArray) (b : Bool) : ByteArray × ByteArray × Bool :=
  ((rdTake (rdNum 1 s b).1 (rdNum 1 s b).2.1 (rdNum 1 s b).2.2).1, (rdTake (rdNum 1 s b).1 (rdNum 1 s b).2.1 (rdNum 1 s b).2.2).2.2)
theorem in_from (w0 : World) (s : ByteArray) (w : World) (hB : Below w0.heap.size w0 w) : Calls Try.prog 18 #[.string s] w fun e w' => ∃ g, e = .returned (.pointer (some ⟨g, 0, none⟩)) ∧ InAt w' w0.heap.size g s false ∧ w.heap.size ≤ g ∧ Below w.heap.size w w' :=
  (octets_From.calls s _ _ w w (Below.refl _ _) rfl).mono fun e w' ⟨g, h1, h2, _, h4⟩ => ⟨g, h1, ⟨h2.1, Nat.le_trans hB.size h2.2, fun h => by cases h⟩, h2.2, h4⟩
theorem in_num (n : Int) (w0 : World) (g : Nat) (s : ByteArray) (b : Bool) (w : World) (hB : Below w0.heap.size w0 w) (h : InAt w w0.heap.size g s b) :
    Calls Try.prog 19 #[.pointer (some ⟨g, 0, none⟩), .int .i64 n] w fun e w' => e = .returned (.int .i64 (rdNum n s b).1) ∧ InAt w' w0.heap.size g (rdNum n s b).2.1 (rdNum n s b).2.2 ∧ Only w w' g :=
  (octets_In_Num.calls 2 g s b n _ _ _ w0 w ⟨h.1, h.2.1⟩ hB (num_rd n s b h.2.2)).mono fun e w' ⟨h1, h2, h3, h4⟩ => ⟨h1, ⟨h2.1, h2.2, rdNum_inv n s b⟩, only_of hB h3 h4⟩
theorem in_take (n : Int) (h0 : 0 ≤ n) (w0 : World) (g : Nat) (s : ByteArray) (b : Bool) (w : World) (hB : Below w0.heap.size w0 w) (h : InAt w w0.heap.size g s b) :
    Calls Try.prog 58 #[.pointer (some ⟨g, 0, none⟩), .int .i64 n] w fun e w' => e = .returned (.tuple #[.string (rdTake n s b).1, .bool (rdTake n s b).2.1]) ∧ InAt w' w0.heap.size g (rdTake n s b).2.2.1 (rdTake n s b).2.2.2 ∧ Only w w' g :=
  (octets_In_take.calls g s b n _ _ _ _ w0 w ⟨h.1, h.2.1⟩ hB (take_rd n s b h0 h.2.2)).mono fun e w' ⟨h1, h2, h3, h4⟩ => ⟨h1, ⟨h2.1, h2.2, rdTake_inv n s b⟩, only_of hB h3 h4⟩
theorem in_fails (w0 : World) (g : Nat) (s : ByteArray) (b : Bool) (w : World) (hB : Below w0.heap.size w0 w) (h : InAt w w0.heap.size g s b) :
    Calls Try.prog 57 #[.pointer (some ⟨g, 0, none⟩)] w fun e w' => e = .returned (.tuple #[]) ∧ InAt w' w0.heap.size g nix true ∧ Only w w' g :=
  (octets_In_fails.calls g s b _ _ w0 w ⟨h.1, h.2.1⟩ hB rfl).mono fun e w' ⟨h1, h2, h3, h4⟩ => ⟨h1, ⟨h2.1, h2.2, fun _ => rfl⟩, only_of hB h3 h4⟩
set_option maxRecDepth 100000 in
set_option maxHeartbeats 800000 in
theorem in_text' (w0 : World) (g : Nat) (s : ByteArray) (b : Bool) (n : Int) (s1 : ByteArray) (b1 : Bool) (t : ByteArray) (is : Bool) (s2 : ByteArray) (b2 : Bool) (w : World) (hB : Below w0.heap.size w0 w) (h : InAt w w0.heap.size g s b) (hX : rdNum 1 s b = (n, s1, b1)) (hY : rdTake n s1 b1 = (t, is, s2, b2)) :
    Calls Try.prog 30 #[.pointer (some ⟨g, 0, none⟩)] w fun e w' => e = .returned (.string t) ∧ InAt w' w0.heap.size g s2 b2 ∧ Only w w' g := by
  have HB := Aside0.mk hB
  have HI := Aside0.mk h
  have HN := Aside0.mk (rdNum_nonneg 1 s b)
  rw [hX] at HN
  have HX := Aside0.mk hX
  have HY := Aside0.mk hY
  clear hB h hX hY
  go_enter Try.func30, Try.ntmps30
  go_wp2_with fail
  refine (in_num 1 w0 g s b w HB.out HI.out).mono ?_
  rw [HX.out]
  rintro e w1 ⟨rfl, hi, ho⟩
  replace HB := Aside0.mk (below_only HB.out ho HI.out.2.1)
  replace HI := Aside0.mk hi
  have HO := Aside0.mk ho
  clear hi ho
  go_wp2_with fail
  refine (in_take n HN.out w0 g s1 b1 w1 HB.out HI.out).mono ?_
  rw [HY.out]
  rintro e w2 ⟨rfl, hi, ho⟩
  have HI2 := Aside0.mk hi
  have HO2 := Aside0.mk (only_trans HO.out ho)
  clear hi ho HI HO HB
  go_wp2_with fail
  go_ret
  exact ⟨rfl, HI2.out, HO2.out⟩
theorem in_text (w0 : World) (g : Nat) (s : ByteArray) (b : Bool) (w : World) (hB : Below w0.heap.size w0 w) (h : InAt w w0.heap.size g s b) :
    Calls Try.prog 30 #[.pointer (some ⟨g, 0, none⟩)] w fun e w' => e = .returned (.string (rdText s b).1) ∧ InAt w' w0.heap.size g (rdText s b).2.1 (rdText s b).2.2 ∧ Only w w' g :=
  in_text' w0 g s b _ _ _ _ _ _ _ w hB h rfl rfl
set_option maxRecDepth 100000 in
set_option maxHeartbeats 800000 in
theorem in_left (base g : Nat) (s : ByteArray) (b : Bool) (w : World) (h : InAt w base g s b) :
    Calls Try.prog 36 #[.pointer (some ⟨g, 0, none⟩)] w fun e w' => e = .returned (.int .i64 s.size) ∧ w' = w := by
  have c0 := h.1.cell (i := 0) rfl
  clear h
  go_enter Try.func36, Try.ntmps36
  go_wp2_with fail
  go_ret
  exact ⟨rfl, rfl⟩
theorem nix_iff (s : ByteArray) : (s.toList.isEmpty = true) ↔ s = nix := by
  rw [ByteArray.toList_eq]
  constructor
  · intro h
    cases s with
    | mk d =>
      have : d = #[] := by simpa using h
      rw [this]
  · rintro rfl; rfl
/-- What Done tells. -/
def doneV (s : ByteArray) (b : Bool) : Int := if b = true then 8 else if s.toList.isEmpty = true then 0 else 8
theorem in_done (base g : Nat) (s : ByteArray) (b : Bool) (w : World) (h : InAt w base g s b) :
    Calls Try.prog 20 #[.pointer (some ⟨g, 0, none⟩)] w fun e w' => e = .returned (.int .i64 (doneV s b)) ∧ w' = w := by
  unfold doneV
  by_cases hb : b = true
  · rw [if_pos hb]
    exact in_done_no g s b w h.1 (Or.inl hb)
  · rw [if_neg hb]
    have hb' : b = false := by simpa using hb
    subst hb'
    by_cases hs : s.toList.isEmpty = true
    · rw [if_pos hs]
      obtain rfl := (nix_iff s).1 hs
      exact in_done_ok g w h.1
    · rw [if_neg hs]
      exact in_done_no g s false w h.1 (Or.inr (by simpa using hs))
end Go.Proofs.Ytacmfpkmcefcfaa.Hand
end
section
namespace Go.Proofs.Ytacmfpkmcefcfaa.Hand
open Go.RowKit Go.Proofs.YtacmfpkmcefcfaaW.PrintWords Go.Proofs.YtacmfpkmcefcfaaW.PrintLast Go.Proofs.YtacmfpkmcefcfaaW.PrintMore Go.Proofs.Ytacmfpkmcefcfaa.A
set_option linter.unusedVariables false
set_option linter.unusedSimpArgs false
attribute [local go_sem] max2_int min2_int max_two min_two max_three min_three max_four min_four
/-- An extent is read. -/
def rdE (s : ByteArray) (b : Bool) : S96 × ByteArray × Bool :=
  (⟨(rdNum 1 s b).1, (rdNum 1 (rdNum 1 s b).2.1 (rdNum 1 s b).2.2).1, (rdNum 1 (rdNum 1 (rdNum 1 s b).2.1 (rdNum 1 s b).2.2).2.1 (rdNum 1 (rdNum 1 s b).2.1 (rdNum 1 s b).2.2).2.2).1⟩,
    (rdNum 1 (rdNum 1 (rdNum 1 s b).2.1 (rdNum 1 s b).2.2).2.1 (rdNum 1 (rdNum 1 s b).2.1 (rdNum 1 s b).2.2).2.2).2)
theorem rdE_of {s : ByteArray} {b : Bool} {n1 n2 n3 : Int} {s1 s2 s3 : ByteArray} {b1 b2 b3 : Bool} (h1 : rdNum 1 s b = (n1, s1, b1)) (h2 : rdNum 1 s1 b1 = (n2, s2, b2)) (h3 : rdNum 1 s2 b2 = (n3, s3, b3)) : rdE s b = (⟨n1, n2, n3⟩, s3, b3) := by
  unfold rdE
  rw [h1]
  simp only
  rw [h2]
  simp only
  rw [h3]
/-- So many extents are read. -/
def rdEs : Nat → ByteArray → Bool → List S96 × ByteArray × Bool
  | 0, s, b => ([], s, b)
  | k + 1, s, b => ((rdEs k s b).1 ++ [(rdE (rdEs k s b).2.1 (rdEs k s b).2.2).1], (rdE (rdEs k s b).2.1 (rdEs k s b).2.2).2)
theorem rdEs_succ {k : Nat} {s s1 s2 : ByteArray} {b b1 b2 : Bool} {l : List S96} {x : S96} (h : rdEs k s b = (l, s1, b1)) (h2 : rdE s1 b1 = (x, s2, b2)) : rdEs (k + 1) s b = (l ++ [x], s2, b2) := by
  unfold rdEs
  rw [h]
  simp only
  rw [h2]
theorem rdEs_length : ∀ (k : Nat) (s : ByteArray) (b : Bool), (rdEs k s b).1.length = k
  | 0, _, _ => rfl
  | k + 1, s, b => by unfold rdEs; rw [List.length_append, rdEs_length k, List.length_singleton]
/-- A map is read; v: whether what was read may be one. -/
def rdExt (v : Bool) (s : ByteArray) (b : Bool) : List S96 × ByteArray × Bool :=
  if (rdEs (rdNum 1 s b).1.toNat (rdNum 1 s b).2.1 (rdNum 1 s b).2.2).2.2 = true then ([], nix, true) else if v = true then ((rdEs (rdNum 1 s b).1.toNat (rdNum 1 s b).2.1 (rdNum 1 s b).2.2).1, (rdEs (rdNum 1 s b).1.toNat (rdNum 1 s b).2.1 (rdNum 1 s b).2.2).2.1, false) else ([], nix, true)
theorem infoEx : (Try.prog.info? 96).map (fun i => (i.zero, i.size, i.bytes)) = some (some (.agg #[.int .i64 0, .int .i64 0, .int .i64 0]), k96.sz, 24) := by kernel_rfl
abbrev ERow (w : World) (base : Nat) (v : Value) (l : List S96) : Prop := Kd.R k96 96 w base (fun _ => True) v l
theorem R_onlyI {w w1 : World} {base b0 g : Nat} {ok : Nat → Prop} {v : Value} {l : List S96} {s : ByteArray} {b : Bool} (hv : Kd.R k96 96 w base ok v l) (ho : Only w w1 g) (hi : InAt w b0 g s b) : Kd.R k96 96 w1 base ok v l :=
  Kd.R_mono (Kd.R_grown (Kd.R_types hv hi.1.hd (by decide)) ho (fun k hk => by intro e; injection e with e; exact hk.2 e)) (fun _ hk => hk.1)
theorem only_base {w w1 w2 : World} {g : Nat} (ho : Only w w1 g) (hb : Below w.heap.size w1 w2) : Only w w2 g :=
  ⟨hb.os.trans ho.os, hb.tape.trans ho.tape, hb.output.trans ho.output, Nat.le_trans ho.size hb.size, fun i hi hne => (hb.block i hi).trans (ho.block i hi hne)⟩
theorem Blk.onlyI {w w1 : World} {b0 g g' t : Nat} {cs : Array Value} {s : ByteArray} {b : Bool} (hv : Blk w g' t cs) (ho : Only w w1 g) (hi : InAt w b0 g s b) (ht : t ≠ 93) : Blk w1 g' t cs :=
  hv.only ho (fun e => by
    subst e
    have h1 := hv.hd
    rw [hi.1.hd] at h1
    injection h1 with h1
    injection h1 with _ h1
    exact ht h1.symm)
set_option maxRecDepth 100000 in
set_option maxHeartbeats 1600000 in
theorem in_extents' (K : Nat) (v : Bool) (lo : List S96) (so : ByteArray) (bo : Bool) (w0 : World) (g : Nat) (s : ByteArray) (b : Bool) (w : World) (hR : rdExt v s b = (lo, so, bo)) (hB : Below w0.heap.size w0 w) (h : InAt w w0.heap.size g s b) (hV : (rdEs (rdNum 1 s b).1.toNat (rdNum 1 s b).2.1 (rdNum 1 s b).2.2).2.2 = false → extent_Valid.f K (rdEs (rdNum 1 s b).1.toNat (rdNum 1 s b).2.1 (rdNum 1 s b).2.2).1 64 = some v) :
    Calls Try.prog 32 #[.pointer (some ⟨g, 0, none⟩)] w fun e w' => ∃ u, e = .returned u ∧ ERow w' w.heap.size u lo ∧ InAt w' w0.heap.size g so bo ∧ Only w w' g := by
  have HW0 := Aside0.mk hB.size
  have HB := Aside0.mk hB
  have HI := Aside0.mk h
  have HN := Aside0.mk (rdNum_nonneg 1 s b)
  have HN2 := Aside0.mk (rdNum1_lt s b)
  have HV := Aside0.mk hV
  have HRE := Aside0.mk hR
  unfold rdExt at HRE
  obtain ⟨⟨n, s1, b1⟩, hX⟩ : ∃ X : Int × ByteArray × Bool, rdNum 1 s b = X := ⟨_, rfl⟩
  rw [hX] at HN HN2 HV HRE
  simp only at HN HN2 HV HRE
  have HX := Aside0.mk hX
  obtain ⟨N, hNn⟩ : ∃ N : Nat, n = (N : Int) := ⟨n.toNat, by have := HN.out; omega⟩
  subst hNn
  rw [Int.toNat_natCast] at HV HRE
  have hN255 : (N : Int) < 256 := HN2.out
  clear hB h hV hX hR
  go_enter Try.func32, Try.ntmps32
  go_wp2_with fail
  refine (in_num 1 w0 g s b w HB.out HI.out).mono ?_
  rw [HX.out]
  rintro e w1 ⟨rfl, hi, ho⟩
  replace HB := Aside0.mk (below_only HB.out ho HI.out.2.1)
  replace HI := Aside0.mk hi
  have HO := Aside0.mk ho
  clear hi ho HN HN2
  go_wp2_with fail
  go_loopg [3, 7] N (fun kq v3 v7 wz => ∃ (i : Nat) (A : Option Addr) (c : Nat) (l : List S96) (si : ByteArray) (bi : Bool), i + kq = N ∧ v7 = .int .i64 (i : Int) ∧ v3 = .slice A i c ∧ Aside0 (l.length = i) ∧ Aside0 (rdEs i s1 b1 = (l, si, bi)) ∧ Aside0 (ERow wz w.heap.size (.slice A i c) l) ∧ Aside0 (InAt wz w0.heap.size g si bi) ∧ Aside0 (Below w0.heap.size w0 wz) ∧ Aside0 (Only w wz g))
  case atStart => exact ⟨0, none, 0, [], s1, b1, by omega, rfl, rfl, ⟨rfl⟩, ⟨rfl⟩, ⟨Kd.R_nil _ _ _ _ _⟩, HI, HB, HO⟩
  case round =>
    clear HB HI HO
    obtain ⟨i, A, c, l, si, bi, hi, rfl, rfl, HL, HES, HR, HI, HB, HO⟩ := hrel
    by_cases hlt : i < N
    · obtain ⟨kk, rfl⟩ : ∃ z, gk = z + 1 := ⟨gk - 1, by omega⟩
      have hlt' : (i : Int) < (N : Int) := by omega
      go_wp2_with fail
      obtain ⟨⟨n1, s2, b2⟩, hx2⟩ : ∃ X : Int × ByteArray × Bool, rdNum 1 si bi = X := ⟨_, rfl⟩
      have HX2 := Aside0.mk hx2
      clear hx2
      refine (in_num 1 w0 g si bi _ HB.out HI.out).mono ?_
      rw [HX2.out]
      rintro e w2 ⟨rfl, hi, ho⟩
      replace HR := Aside0.mk (R_onlyI HR.out ho HI.out)
      replace HB := Aside0.mk (below_only HB.out ho HI.out.2.1)
      replace HO := Aside0.mk (only_trans HO.out ho)
      replace HI := Aside0.mk hi
      clear hi ho
      go_wp2_with fail
      have hsz := HO.out.size
      refine calls_abs (fun X => InAt X w0.heap.size g s2 b2 ∧ Below w0.heap.size w0 X ∧ Only w X g ∧ Kd.R k96 96 X w.heap.size (fun k => True ∧ k ≠ w2.heap.size) (.slice A i c) l ∧ Blk X w2.heap.size 96 #[.int .i64 n1, .int .i64 0, .int .i64 0]) ⟨?_, ?_, ?_, ?_, ?_⟩ ?_
      · exact HI.out.keep (below_alloc (Below.refl _ _) _)
      · exact below_alloc HB.out _
      · exact only_alloc HO.out _
      · exact Kd.R_alloc (Kd.R_elderB HR.out w2.heap.size (Nat.le_refl _)) _
      · exact Blk.new _ _ _
      rintro w3 ⟨q1, q2, q3, q4, q5⟩
      have HG : Aside0 (w.heap.size ≤ w2.heap.size ∧ w0.heap.size ≤ w2.heap.size) := ⟨⟨hsz, HB.out.size⟩⟩
      have HL2 := Aside0.mk (show w2.heap.size < w3.heap.size from q5.lt)
      replace HI := Aside0.mk q1
      replace HB := Aside0.mk q2
      replace HO := Aside0.mk q3
      have HR2 := Aside0.mk q4
      have BX := Aside0.mk q5
      clear q1 q2 q3 q4 q5 hsz
      have hgx : Aside0 (g ≠ w2.heap.size) := ⟨by
        have h1 := HI.out.1
        rintro rfl
        have h2 := BX.out.hd
        rw [h1.hd] at h2
        injection h2 with h2
        injection h2 with _ h2
        exact absurd h2 (by decide)⟩
      replace HR : Aside0 (Kd.R k96 96 w3 w.heap.size (fun k => k ≠ w2.heap.size) (.slice A i c) l) := ⟨Kd.R_mono HR2.out (fun _ hk => hk.2)⟩
      clear HR2
      generalize w2.heap.size = gx at *
      obtain ⟨⟨n2, s3, b3⟩, hx3⟩ : ∃ X : Int × ByteArray × Bool, rdNum 1 s2 b2 = X := ⟨_, rfl⟩
      have HX3 := Aside0.mk hx3
      clear hx3
      refine (in_num 1 w0 g s2 b2 _ HB.out HI.out).mono ?_
      rw [HX3.out]
      rintro e w4 ⟨rfl, hi, ho⟩
      replace HR := Aside0.mk (R_onlyI HR.out ho HI.out)
      replace HB := Aside0.mk (below_only HB.out ho HI.out.2.1)
      replace HO := Aside0.mk (only_trans HO.out ho)
      replace BX := Aside0.mk (Blk.onlyI BX.out ho HI.out (by decide))
      replace HI := Aside0.mk hi
      clear hi ho
      have c1 : w4.cell? ⟨gx, 1, none⟩ = some (.int .i64 0) := BX.out.cell (i := 1) rfl
      have f1 : w4.frozen? ⟨gx, 1, none⟩ = false := BX.out.frozen 1
      go_wp2_with fail
      refine calls_abs (fun X => InAt X w0.heap.size g s3 b3 ∧ Below w0.heap.size w0 X ∧ Only w X g ∧ Kd.R k96 96 X w.heap.size (fun k => k ≠ gx) (.slice A i c) l ∧ Blk X gx 96 #[.int .i64 n1, .int .i64 n2, .int .i64 0]) ⟨⟨HI.out.1.far (p := ⟨gx, 1, none⟩) hgx.out _, HI.out.2⟩, HB.out.setCell (p := ⟨gx, 1, none⟩) HG.out.2 _, only_setNew HO.out HG.out.1 1 _, Kd.R_far (p := ⟨gx, 1, none⟩) HR.out (fun _ hk => hk) _, BX.out.set_ 1 _⟩ ?_
      rintro w5 ⟨q1, q2, q3, q4, q5⟩
      clear c1 f1
      replace HI := Aside0.mk q1
      replace HB := Aside0.mk q2
      replace HO := Aside0.mk q3
      replace HR := Aside0.mk q4
      replace BX := Aside0.mk q5
      clear q1 q2 q3 q4 q5
      obtain ⟨⟨n3, s4, b4⟩, hx4⟩ : ∃ X : Int × ByteArray × Bool, rdNum 1 s3 b3 = X := ⟨_, rfl⟩
      have HX4 := Aside0.mk hx4
      clear hx4
      refine (in_num 1 w0 g s3 b3 _ HB.out HI.out).mono ?_
      rw [HX4.out]
      rintro e w6 ⟨rfl, hi, ho⟩
      replace HR := Aside0.mk (R_onlyI HR.out ho HI.out)
      replace HB := Aside0.mk (below_only HB.out ho HI.out.2.1)
      replace HO := Aside0.mk (only_trans HO.out ho)
      replace BX := Aside0.mk (Blk.onlyI BX.out ho HI.out (by decide))
      replace HI := Aside0.mk hi
      clear hi ho
      have c2 : w6.cell? ⟨gx, 2, none⟩ = some (.int .i64 0) := BX.out.cell (i := 2) rfl
      have f2 : w6.frozen? ⟨gx, 2, none⟩ = false := BX.out.frozen 2
      go_upto_region 7 with fail
      refine code_abs (fun X => InAt X w0.heap.size g s4 b4 ∧ Below w0.heap.size w0 X ∧ Only w X g ∧ Kd.R k96 96 X w.heap.size (fun k => k ≠ gx) (.slice A i c) l ∧ Blk X gx 96 #[.int .i64 n1, .int .i64 n2, .int .i64 n3]) ⟨⟨HI.out.1.far (p := ⟨gx, 2, none⟩) hgx.out _, HI.out.2⟩, HB.out.setCell (p := ⟨gx, 2, none⟩) HG.out.2 _, only_setNew HO.out HG.out.1 2 _, Kd.R_far (p := ⟨gx, 2, none⟩) HR.out (fun _ hk => hk) _, BX.out.set_ 2 _⟩ ?_
      rintro w7 ⟨q1, q2, q3, q4, q5⟩
      clear c2 f2
      replace HI := Aside0.mk q1
      replace HB := Aside0.mk q2
      replace HO := Aside0.mk q3
      replace HR := Aside0.mk q4
      have e0 := q5.cell (i := 0) rfl
      have e1 := q5.cell (i := 1) rfl
      have e2 := q5.cell (i := 2) rfl
      clear q1 q2 q3 q4 q5 BX
      have hln := HL.out
      have HS := Aside0.mk HO.out.size
      go_wp2_with (at_builtin; refine Kd.R_append k96 (w0 := w7) w.heap.size rfl (.tmp 18) (.tmp 20) 38 96 (.agg #[.int .i64 0, .int .i64 0, .int .i64 0]) 24 rfl Try.underlying38 infoEx rfl (by decide) (by decide) (.slice A i c) l ⟨n1, n2, n3⟩ [.int .i64 n1, .int .i64 n2, .int .i64 n3] (fun _ => True) (fun _ => False) rfl (by first | (go_simp; done) | (go_simp; rfl)) (k96_mkM _ _ _ (⟨n1, n2, n3⟩ : S96)) (fun _ hk => hk.elim) (fun _ _ => trivial) (Kd.R_mono HR.out (fun _ _ => trivial)) (Below.refl _ _) HS.out (by omega) ?_; intro v9 w9 hr9 hb9 hg9 hat9)
      obtain ⟨A9, c9, he9, hc9, _⟩ := Kd.R_reads hr9
      rw [List.length_append, List.length_singleton, HL.out] at he9
      subst he9
      have hne : some g ≠ (Value.slice A i c).ownBlock := Kd.R_ne HR.out HI.out.1.hd (by decide)
      have HI9 := Aside0.mk (show InAt w9 w0.heap.size g s4 b4 from ⟨(hg9.block g HI.out.lt hne).trans HI.out.1, HI.out.2⟩)
      have HO9 := Aside0.mk (only_base HO.out hb9)
      have HW := Aside0.mk (show w0.heap.size ≤ w.heap.size from HW0.out)
      have HB9 := Aside0.mk (below_weaken HB.out HW.out hb9)
      have HR9 := Aside0.mk hr9
      have HE9 := Aside0.mk (rdEs_succ HES.out (rdE_of HX2.out HX3.out HX4.out))
      have HL9 : Aside0 ((l ++ [(⟨n1, n2, n3⟩ : S96)]).length = i + 1) := ⟨by rw [List.length_append, List.length_singleton, HL.out]⟩
      clear hr9 hb9 hg9 hat9 hc9 HI HB HO HR HES HL hne hln
      go_roundg kk
      case measure => omega
      case rel => exact ⟨i + 1, A9, c9, _, s4, b4, by omega, by go_num, rfl, HL9, HE9, HR9, HI9, HB9, HO9⟩
    · obtain rfl : i = N := by omega
      have hlt' : ¬ (i : Int) < (i : Int) := by omega
      have hln := HL.out
      subst hln
      obtain ⟨A', c', he', hc', hC'⟩ := Kd.R_reads HR.out
      injection he' with h1 h2 h3
      subst h1
      subst h3
      have HC := Aside0.mk hC'
      have Hc := Aside0.mk hc'
      clear h2 hc' hC'
      have HW := Aside0.mk (show w0.heap.size ≤ w.heap.size from HW0.out)
      have c1 : wr.cell? ⟨g, 1, none⟩ = some (.bool bi) := HI.out.1.cell (i := 1) rfl
      have HEL := Aside0.mk HES.out
      rw [HEL.out] at HRE
      simp only at HRE
      cases hbi : bi
      · subst hbi
        have hval := HV.out (by rw [HEL.out])
        rw [HEL.out] at hval
        have Hval := Aside0.mk hval
        clear hval
        go_wp2_with fail
        refine (extent_Valid.calls K A c l 64 v _ HC.out Hc.out Hval.out).mono ?_
        rintro e w8 ⟨rfl, hB8⟩
        replace HR := Aside0.mk (Kd.R_below HR.out hB8)
        replace HI := Aside0.mk (HI.out.keep hB8)
        replace HB := Aside0.mk (below_step HB.out hB8)
        replace HO := Aside0.mk (only_below HO.out hB8)
        clear hB8 c1
        cases v
        · go_wp2_with fail
          refine (in_fails w0 g _ _ _ HB.out HI.out).mono ?_
          rintro e w9 ⟨rfl, hi, ho⟩
          have HI9 := Aside0.mk hi
          have HO9 := Aside0.mk (only_trans HO.out ho)
          clear hi ho HI HO
          go_wp2_with fail
          go_ret
          have he := HRE.out
          simp only [if_true, if_false, Bool.false_eq_true, Prod.mk.injEq] at he
          obtain ⟨rfl, rfl, rfl⟩ := he
          exact ⟨_, rfl, Kd.R_nil _ _ _ _ _, HI9.out, HO9.out⟩
        · go_wp2_with fail
          go_ret
          have he := HRE.out
          simp only [if_true, if_false, Bool.false_eq_true, Prod.mk.injEq] at he
          obtain ⟨rfl, rfl, rfl⟩ := he
          exact ⟨_, rfl, HR.out, HI.out, HO.out⟩
      · subst hbi
        go_wp2_with fail
        go_ret
        have hs := HI.out.2.2 rfl
        subst hs
        have he := HRE.out
        simp only [if_true, if_false, Bool.false_eq_true, Prod.mk.injEq] at he
        obtain ⟨rfl, rfl, rfl⟩ := he
        exact ⟨_, rfl, Kd.R_nil _ _ _ _ _, HI.out, HO.out⟩
end Go.Proofs.Ytacmfpkmcefcfaa.Hand
end
section
namespace Go.Proofs.Ytacmfpkmcefcfaa.Hand
open Go.RowKit Go.Proofs.YtacmfpkmcefcfaaW.PrintWords Go.Proofs.YtacmfpkmcefcfaaW.PrintLast Go.Proofs.YtacmfpkmcefcfaaW.PrintMore Go.Proofs.Ytacmfpkmcefcfaa.A
set_option linter.unusedVariables false
set_option linter.unusedSimpArgs false
attribute [local go_sem] max2_int min2_int max_two min_two max_three min_three max_four min_four
theorem belW {w w3 w4 w5 : World} (h : Below w.heap.size w w4) (k : Below w3.heap.size w3 w4) (m : Below w3.heap.size w3 w5) (h3 : Below w.heap.size w w3) : Below w.heap.size w w5 := below_step h3 m
theorem bel2 {B : Nat} {w w1 w2 : World} (h : Below B w w1) (k : Below B w1 w2) : Below B w w2 :=
  ⟨k.os.trans h.os, k.tape.trans h.tape, k.output.trans h.output, Nat.le_trans h.size k.size, fun i hi => (k.block i hi).trans (h.block i hi)⟩
set_option maxRecDepth 100000 in
set_option maxHeartbeats 800000 in
theorem alive13 (w : World) : Calls Try.prog 14 #[] w fun e w' => e = .returned (.bool true) ∧ Below w.heap.size w w' := by
  go_enter Try.func14, Try.ntmps14
  go_wp2_with fail
  refine (out_num2 w.heap.size _ [] 0 258 _ (OutAt.new w _ (Nat.le_refl _)) (by simp) (by decide) (by decide) (by decide)).mono ?_
  rintro r w1 ⟨rfl, ho, hB⟩
  have HO := Aside0.mk ho
  have HB := Aside0.mk (bel2 (below_alloc (Below.refl w.heap.size w) _) hB)
  clear ho hB
  go_wp2_with fail
  refine (out_text w.heap.size _ _ 0 _ _ HO.out HB.out.size (by decide) (by decide)).mono ?_
  rintro r w2 ⟨rfl, ho, hB⟩
  have HO2 := Aside0.mk ho
  have HB2 := Aside0.mk (bel2 HB.out hB)
  clear ho hB HO HB
  go_wp2_with fail
  refine (out_done w.heap.size _ _ _ HO2.out).mono ?_
  rintro r w3 ⟨rfl, rfl⟩
  rw [show strOfNums ([] ++ leB 2 258 ++ leB 1 ((⟨#[97]⟩ : ByteArray).size : Int) ++ bytesOf ⟨#[97]⟩) = ⟨#[2, 1, 1, 97]⟩ by decide]
  go_wp2_with fail
  refine (octets_From.calls _ _ _ w3 w3 (Below.refl _ _) rfl).mono ?_
  rintro r w4 ⟨gi, rfl, hi, _, hB⟩
  have HI := Aside0.mk hi
  have HB4 := Aside0.mk (below_step HB2.out hB)
  have HW := Aside0.mk hB
  clear hi hB HO2
  go_wp2_with fail
  refine (octets_In_Num.calls 2 gi _ false 2 258 ⟨#[1, 97]⟩ false w3 w4 HI.out HW.out (by kernel_rfl)).mono ?_
  rintro r w5 ⟨rfl, _, hB, hK⟩
  have HB5 := Aside0.mk (belW HB4.out HW.out hB HB2.out)
  go_wp2_with fail
  go_ret
  exact ⟨rfl, HB5.out⟩
end Go.Proofs.Ytacmfpkmcefcfaa.Hand
end
