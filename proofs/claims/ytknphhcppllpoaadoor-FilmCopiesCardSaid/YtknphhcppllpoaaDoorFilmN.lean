/- Volumes: bytes in parts, bytes elsewhere, the same on both sides. -/
import Derived.Test.YtknphhcppllpoaaDoorAlive4
import Derived.Test.YtknphhcppllpoaaDoorUnl
import Derived.Test.YtknphhcppllpoaaDoorAx0
namespace Go.Proofs.YtknphhcppllpoaaDoor.Hand
open Go.RowKit Go.Proofs.YtknphhcppllpoaaDoorW.PrintWords Go.Proofs.YtknphhcppllpoaaDoorW.PrintLast Go.Proofs.YtknphhcppllpoaaDoorW.PrintMore Go.Proofs.YtknphhcppllpoaaDoor.A
set_option linter.unusedVariables false
set_option linter.unusedSimpArgs false
theorem unlV_same (x : Nat → ByteArray × Int) : ∀ n, unlV x x n = []
  | 0 => rfl
  | n + 1 => by unfold unlV; rw [if_pos rfl]; exact unlV_same x n
theorem spl_parts (l s : List UInt8) (a k : Nat) (h : a + s.length ≤ l.length) (hk : k ≤ s.length) : spl (spl l (a + k) (s.drop k)) a (s.take k) = spl l a s := by
  have h1 : (s.drop k).length = s.length - k := List.length_drop
  have h2 : (s.take k).length = k := by rw [List.length_take]; omega
  apply List.ext_getElem?
  intro j
  rw [spl_get _ _ _ (by rw [spl_length _ _ _ (by omega)]; omega), spl_get l _ _ (by omega), spl_get l a s h, h1, h2]
  by_cases c1 : a ≤ j ∧ j < a + k
  · rw [if_pos c1, if_pos (by omega), List.getElem?_take, if_pos (by omega)]
  · rw [if_neg c1]
    by_cases c2 : a + k ≤ j ∧ j < a + k + (s.length - k)
    · rw [if_pos c2, if_pos (by omega), List.getElem?_drop]
      congr 1; omega
    · rw [if_neg c2, if_neg (by omega)]
theorem ba_ext' {a b : ByteArray} (h : a.data.toList = b.data.toList) : a = b := by
  cases a; cases b; congr; exact Array.toList_inj.1 h
theorem spl_mid (l : List UInt8) (s : ByteArray) (a : Nat) (h : a + s.size ≤ l.length) : (⟨(spl l a s.data.toList).toArray⟩ : ByteArray).extract a (a + s.size) = s := by
  have hs : s.data.toList.length = s.size := dlen s
  apply ba_ext'
  rw [Lib.extract_data]
  unfold spl
  rw [show a + s.size - a = s.data.toList.length by omega]
  show (List.drop a (l.take a ++ (s.data.toList ++ l.drop (a + s.data.toList.length)))).take _ = _
  rw [List.drop_append_of_le_length (by rw [List.length_take]; omega), List.drop_of_length_le (by rw [List.length_take]; omega), List.nil_append, List.take_left]
/-- Bytes of a list, as the kit reads them. -/
theorem bt_list (l : List UInt8) (i : Nat) (h : i < l.length) : bt ⟨l.toArray⟩ (i : Int) = (l[i].toNat : Int) := by
  unfold bt
  rw [dif_pos (by rw [Int.toNat_natCast]; show i < l.toArray.size; simpa using h)]
  simp only [Int.toNat_natCast]
  rfl
theorem zero_left (n : Nat) (s : ByteArray) (a : Nat) (h : a + s.size ≤ n) : zeroB ((⟨(spl (List.replicate n (0 : UInt8)) a s.data.toList).toArray⟩ : ByteArray).extract 0 a) = true := by
  have hs : s.data.toList.length = s.size := dlen s
  have hl : (List.replicate n (0 : UInt8)).length = n := List.length_replicate
  have hsl := spl_length (List.replicate n (0 : UInt8)) a s.data.toList (by omega)
  have hsz : (⟨(spl (List.replicate n (0 : UInt8)) a s.data.toList).toArray⟩ : ByteArray).size = n := by show (spl _ _ _).toArray.size = n; simp [hsl]
  refine decide_eq_true (fun i hi => ?_)
  rw [ByteArray.size_extract, hsz] at hi
  rw [bt_take _ a i (by omega) (by rw [hsz]; omega), bt_list _ _ (by omega)]
  have hg := spl_get (List.replicate n (0 : UInt8)) a s.data.toList (by omega) i
  rw [if_neg (by omega), List.getElem?_eq_getElem (by omega), List.getElem?_eq_getElem (by omega)] at hg
  injection hg with hg
  rw [hg, List.getElem_replicate]; rfl
theorem bt_drop (s : ByteArray) (a i : Nat) (h : a + i < s.size) : bt (s.extract a s.size) (i : Int) = bt s ((a + i : Nat) : Int) := by
  have hs : (s.extract a s.size).size = s.size - a := by rw [ByteArray.size_extract]; omega
  unfold bt
  rw [dif_pos (by rw [hs, Int.toNat_natCast]; omega), dif_pos (by rw [Int.toNat_natCast]; omega)]
  simp only [Int.toNat_natCast, ByteArray.getElem_extract]
theorem zero_right (n : Nat) (s : ByteArray) (a : Nat) (h : a + s.size ≤ n) (R : ByteArray) (hR : R = ⟨(spl (List.replicate n (0 : UInt8)) a s.data.toList).toArray⟩) : zeroB (R.extract (a + s.size) R.size) = true := by
  have hs : s.data.toList.length = s.size := dlen s
  have hl : (List.replicate n (0 : UInt8)).length = n := List.length_replicate
  have hsl := spl_length (List.replicate n (0 : UInt8)) a s.data.toList (by omega)
  have hsz : R.size = n := by rw [hR]; show (spl _ _ _).toArray.size = n; simp [hsl]
  refine decide_eq_true (fun i hi => ?_)
  rw [ByteArray.size_extract] at hi
  rw [bt_drop _ _ _ (by omega), hR, bt_list _ _ (by omega)]
  have hg := spl_get (List.replicate n (0 : UInt8)) a s.data.toList (by omega) (a + s.size + i)
  rw [if_neg (by omega), List.getElem?_eq_getElem (by omega), List.getElem?_eq_getElem (by omega)] at hg
  injection hg with hg
  rw [hg, List.getElem_replicate]; rfl
theorem ex_drop (s : ByteArray) (k : Nat) : (s.extract k s.size).data.toList = s.data.toList.drop k := by
  rw [Lib.extract_data, List.take_of_length_le (by rw [List.length_drop, dlen]; omega)]
theorem ex_take (s : ByteArray) (k : Nat) : (s.extract 0 k).data.toList = s.data.toList.take k := by
  rw [Lib.extract_data, List.drop_zero, Nat.sub_zero]
end Go.Proofs.YtknphhcppllpoaaDoor.Hand
