/- Volumes: what a write leaves, block by block. -/
import Derived.Test.YtknphhcppllpoaaDoorFilm
import Derived.Test.YtknphhcppllpoaaDoorAx7
namespace Go.Proofs.YtknphhcppllpoaaDoor.Hand
open Go.RowKit Go.Proofs.YtknphhcppllpoaaDoorW.PrintWords Go.Proofs.YtknphhcppllpoaaDoorW.PrintLast Go.Proofs.YtknphhcppllpoaaDoorW.PrintMore Go.Proofs.YtknphhcppllpoaaDoor.A
set_option linter.unusedVariables false
set_option linter.unusedSimpArgs false
attribute [local go_sem] max2_int min2_int max_two min_two max_three min_three max_four min_four
theorem blkS_size (l : List UInt8) (b k : Nat) (hl : l.length = 8 * b) (h : k < b) : (blkS l k).size = 8 := by
  unfold blkS ByteArray.size
  simp only [List.size_toArray, List.length_take, List.length_drop]
  omega
/-- A block that is not touched is as it was. -/
theorem blkS_spl (l : List UInt8) (a : Nat) (s : List UInt8) (k : Nat) (hf : a + s.length ≤ l.length) (h : 8 * k + 8 ≤ a ∨ a + s.length ≤ 8 * k) : blkS (spl l a s) k = blkS l k := by
  unfold blkS
  congr 2
  apply List.ext_getElem?
  intro j
  rw [List.getElem?_take, List.getElem?_take]
  split
  · rw [List.getElem?_drop, List.getElem?_drop, spl_get l a s hf, if_neg (by omega)]
  · rfl
theorem take_blk (l : List UInt8) (b k : Nat) (hl : l.length = 8 * b) (h : k < b) : (⟨(l.take (8 * k)).toArray⟩ : ByteArray) ++ blkS l k = ⟨(l.take (8 * (k + 1))).toArray⟩ := by
  unfold blkS
  apply ByteArray.ext
  rw [ByteArray.data_append, List.append_toArray]
  congr 1
  rw [show 8 * (k + 1) = 8 * k + 8 by omega, List.take_add]
def Zs (n : Nat) : ByteArray := ⟨(List.replicate n (0 : UInt8)).toArray⟩
theorem zeros_eq (n : Nat) (h : n ≤ 1000) : emulsionref1_Zeros.f (n : Int) = some (Zs n) := by
  unfold emulsionref1_Zeros.f
  rw [if_pos (by omega), Int.toNat_natCast, if_pos (by omega)]
  unfold Zs strOfNums
  simp
def wrV (l : List UInt8) (n : Int) (s : ByteArray) : List UInt8 := if mayB l.length n s.size then spl l n.toNat s.data.toList else l
theorem dlen (s : ByteArray) : s.data.toList.length = s.size := by rw [Array.length_toList]; rfl
theorem wrV_length (l : List UInt8) (n : Int) (s : ByteArray) : (wrV l n s).length = l.length := by
  unfold wrV
  split
  · rename_i h
    obtain ⟨h1, h2, h3, h4⟩ := h
    exact spl_length _ _ _ (by rw [dlen]; omega)
  · rfl
theorem film_write_any (g q : Nat) (l : List UInt8) (n : Int) (s : ByteArray) (w : World) (hf : FilmAt w g q l) (hl : l.length ≤ 512) :
    Calls Tryd.prog 10 #[.pointer (some ⟨g, 0, none⟩), .int .i64 n, .string s] w fun e w' => ∃ c, e = .returned (.int .i64 c) ∧ FilmAt w' g q (wrV l n s) ∧ Only w w' q := by
  unfold wrV
  by_cases h : mayB l.length n s.size
  · rw [if_pos h]
    obtain ⟨m1, m2, m3, m4⟩ := h
    obtain ⟨a, rfl⟩ := Int.eq_ofNat_of_zero_le m1
    rw [Int.toNat_natCast]
    exact (film_write g q l a s w hf hl (by omega)).mono fun e w' ⟨h1, h2, h3⟩ => ⟨0, h1, h2, h3⟩
  · rw [if_neg h]
    exact (film_write_no g q l n s w hf hl h).mono fun e w' ⟨h1, h2⟩ => ⟨1, h1, by rw [h2]; exact hf, by rw [h2]; exact only_refl _ _⟩
end Go.Proofs.YtknphhcppllpoaaDoor.Hand
