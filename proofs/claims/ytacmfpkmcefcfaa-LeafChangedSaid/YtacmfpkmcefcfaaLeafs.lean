/- Pages of bytes, and bytes in parts, as lists of numbers alone; no program but what was proved of two of its functions. -/
import Derived.Test.YtacmfpkmcefcfaaFold
import Derived.Test.YtacmfpkmcefcfaaTb
import Derived.Test.YtacmfpkmcefcfaaRep
namespace Go.Proofs.Ytacmfpkmcefcfaa.Leafs
open Go.RowKit Go.Proofs.Ytacmfpkmcefcfaa Go.Proofs.YtacmfpkmcefcfaaW.PrintWords Go.Proofs.YtacmfpkmcefcfaaW.PrintLast Go.Proofs.Ytacmfpkmcefcfaa.Rot Go.Proofs.Ytacmfpkmcefcfaa.Fold
set_option linter.unusedVariables false
set_option linter.unusedSimpArgs false
theorem wf64 {x : Int} (h : (Lit.int .i64 x).wf = true) : -9223372036854775808 ≤ x ∧ x ≤ 9223372036854775807 := by
  simp [Lit.wf, IntKind.min, IntKind.max, IntKind.signed, IntKind.bits] at h; omega
def seal_ (s : ByteArray) : ByteArray := s ++ four (tv (sm s))
theorem seal_size (s : ByteArray) : (seal_ s).size = s.size + 4 := by unfold seal_; rw [ByteArray.size_append, four_size]
/-- So many zeros. -/
def zs (n : Nat) : ByteArray := strOfNums (List.replicate n 0)
theorem zs_size (n : Nat) : (zs n).size = n := by unfold zs; rw [strOfNums_size, List.length_replicate]
theorem repeatL_zero : ∀ n, Lib.repeatL [0] n = List.replicate n (0 : UInt8)
  | 0 => rfl
  | n + 1 => by
    show [0] ++ Lib.repeatL [0] n = _
    rw [repeatL_zero n]; rfl
theorem repeat_zero (n : Int) (h0 : 0 ≤ n) (h1 : n ≤ 1000000) : Rep.repeat_.f ⟨#[0]⟩ n = some (zs n.toNat) := by
  unfold Rep.repeat_.f
  rw [if_pos ⟨h0, h1, by show 1 ≤ 1000000; decide⟩]
  congr 1
  show (⟨(Lib.repeatL [0] n.toNat).toArray⟩ : ByteArray) = _
  rw [repeatL_zero]
  unfold zs strOfNums
  rw [List.map_replicate]
  rfl
theorem sz_list (s : ByteArray) : s.data.toList.length = s.size := by rw [Array.length_toList]; rfl
theorem ba_ext {a b : ByteArray} (h : a.data.toList = b.data.toList) : a = b := by
  cases a; cases b
  simp only at h
  congr 1
  exact Array.toList_inj.1 h
theorem cut_join (s : ByteArray) (m : Nat) : s.extract 0 m ++ s.extract m s.size = s := by
  apply ba_ext
  rw [ByteArray.data_append, Array.toList_append, ByteArray.data_extract, ByteArray.data_extract, Array.toList_extract, Array.toList_extract, List.extract_eq_take_drop, List.extract_eq_take_drop, Nat.sub_zero, List.drop_zero]
  have : (s.data.toList.drop m).take (s.size - m) = s.data.toList.drop m := List.take_of_length_le (by rw [List.length_drop, sz_list]; exact Nat.le_refl _)
  rw [this, List.take_append_drop]
theorem toList_inj {a b : ByteArray} (h : a.toList = b.toList) : a = b := by
  rw [ByteArray.toList_eq, ByteArray.toList_eq] at h
  exact ba_ext h
theorem bt_cut (s : ByteArray) (a b i : Nat) (h : i < b - a) (hb : b ≤ s.size) : bt (s.extract a b) (i : Int) = bt s ((a + i : Nat) : Int) := by
  rw [← rd_bytesOf, ← rd_bytesOf, bytes_cut]
  unfold rd
  rw [Int.toNat_natCast, Int.toNat_natCast, List.getD_eq_getElem?_getD, List.getD_eq_getElem?_getD, List.getElem?_take_of_lt h, List.getElem?_drop]
theorem cut_cut (s : ByteArray) (a b c : Nat) (h : b ≤ c) : (s.extract 0 c).extract a b = s.extract a b := by
  apply ba_ext
  simp only [ByteArray.data_extract, Array.toList_extract, List.extract_eq_take_drop, Nat.sub_zero, List.drop_zero]
  rw [List.drop_take, List.take_take]
  congr 1
  omega
/-- A page of bytes. -/
def pg (b : ByteArray) : ByteArray := seal_ (strOfNums [(b.size : Int) % 256] ++ b ++ zs (27 - b.size))
theorem body_size (b : ByteArray) (h : b.size ≤ 27) : (strOfNums [(b.size : Int) % 256] ++ b ++ zs (27 - b.size)).size = 28 := by
  rw [ByteArray.size_append, ByteArray.size_append, strOfNums_size, zs_size]
  simp only [List.length_cons, List.length_nil]
  omega
theorem pg_size (b : ByteArray) (h : b.size ≤ 27) : (pg b).size = 32 := by unfold pg; rw [seal_size, body_size b h]
theorem one_size (x : Int) : (strOfNums [x]).size = 1 := by rw [strOfNums_size]; rfl
theorem body_cut (b : ByteArray) (h : b.size ≤ 27) : (strOfNums [(b.size : Int) % 256] ++ b ++ zs (27 - b.size)).extract 1 (1 + b.size) = b := by
  apply ba_ext
  have h1 : (strOfNums [(b.size : Int) % 256]).data.toList.length = 1 := by rw [sz_list, one_size]
  rw [ByteArray.data_extract, Array.toList_extract, List.extract_eq_take_drop, ByteArray.data_append, ByteArray.data_append, Array.toList_append, Array.toList_append, List.append_assoc]
  rw [show (1 : Nat) = (strOfNums [(b.size : Int) % 256]).data.toList.length from h1.symm, List.drop_left, h1, Nat.add_sub_cancel_left]
  rw [← sz_list b, List.take_left]
theorem body_first (b : ByteArray) (h : b.size ≤ 27) : bt (strOfNums [(b.size : Int) % 256] ++ b ++ zs (27 - b.size)) 0 = b.size := by
  have e : bytesOf (strOfNums [(b.size : Int) % 256] ++ b ++ zs (27 - b.size)) = ((b.size : Int) % 256 % 256) :: (bytesOf b ++ bytesOf (zs (27 - b.size))) := by
    rw [bytes_app, bytes_app, List.append_assoc]
    have : bytesOf (strOfNums [(b.size : Int) % 256]) = [(b.size : Int) % 256 % 256] := by
      unfold bytesOf strOfNums
      simp
      omega
    rw [this]; rfl
  rw [← rd_bytesOf, e]
  unfold rd
  show (b.size : Int) % 256 % 256 = _
  omega
theorem pg_body (b : ByteArray) : (pg b).extract 0 ((pg b).size - 4) = strOfNums [(b.size : Int) % 256] ++ b ++ zs (27 - b.size) := by
  unfold pg
  rw [seal_size]
  unfold seal_
  exact ByteArray.extract_append_eq_left (by omega)
/-- Bytes in parts. -/
def pts : Nat → ByteArray → List ByteArray
  | 0, _ => []
  | n + 1, s => if s.size = 0 then [] else s.extract 0 (min s.size 27) :: pts n (s.extract (min s.size 27) s.size)
def cat : List ByteArray → ByteArray
  | [] => ⟨#[]⟩
  | x :: l => x ++ cat l
theorem empty_app (s : ByteArray) : (⟨#[]⟩ : ByteArray) ++ s = s := by
  apply ba_ext; rw [ByteArray.data_append, Array.toList_append]; rfl
theorem app_empty (s : ByteArray) : s ++ (⟨#[]⟩ : ByteArray) = s := by
  apply ba_ext; rw [ByteArray.data_append, Array.toList_append]; simp
theorem app_assoc (a b c : ByteArray) : a ++ b ++ c = a ++ (b ++ c) := by
  apply ba_ext; simp only [ByteArray.data_append, Array.toList_append, List.append_assoc]
theorem size0 {s : ByteArray} (h : s.size = 0) : s = ⟨#[]⟩ := by
  apply ba_ext
  have : s.data.toList.length = 0 := by rw [sz_list]; exact h
  rw [List.eq_nil_of_length_eq_zero this]
theorem cat_pts : ∀ (n : Nat) (s : ByteArray), s.size ≤ n → cat (pts n s) = s
  | 0, s, h => by rw [size0 (s := s) (by omega)]; rfl
  | n + 1, s, h => by
    unfold pts
    split
    · rename_i h0; rw [size0 h0]; rfl
    · rename_i h0
      show _ ++ cat _ = _
      rw [cat_pts n _ (by rw [ByteArray.size_extract]; omega), cut_join]
/-- Every part has 1 to 27 bytes, all but the last one 27. -/
def Pt : List ByteArray → Prop
  | [] => True
  | x :: l => 1 ≤ x.size ∧ x.size ≤ 27 ∧ (l ≠ [] → x.size = 27) ∧ Pt l
theorem pt_pts : ∀ (n : Nat) (s : ByteArray), s.size ≤ n → Pt (pts n s)
  | 0, _, _ => trivial
  | n + 1, s, h => by
    unfold pts
    split
    · trivial
    · rename_i h0
      refine ⟨by rw [ByteArray.size_extract]; omega, by rw [ByteArray.size_extract]; omega, fun hl => ?_, pt_pts n _ (by rw [ByteArray.size_extract]; omega)⟩
      rcases Nat.lt_or_ge s.size 27 with hs | hs
      · exfalso
        apply hl
        have : (s.extract (min s.size 27) s.size).size = 0 := by rw [ByteArray.size_extract]; omega
        cases n with
        | zero => rfl
        | succ n => unfold pts; rw [if_pos this]
      · rw [ByteArray.size_extract]; omega
theorem len_pts : ∀ (n : Nat) (s : ByteArray), s.size ≤ n → (pts n s).length = (s.size + 26) / 27
  | 0, s, h => by rw [show s.size = 0 by omega]; rfl
  | n + 1, s, h => by
    unfold pts
    split
    · rename_i h0; rw [h0]; rfl
    · rename_i h0
      rw [List.length_cons, len_pts n _ (by rw [ByteArray.size_extract]; omega), ByteArray.size_extract]
      omega
theorem pt_at : ∀ (l : List ByteArray) (i : Nat), Pt l → i < l.length → 1 ≤ (rdOf ByteArray.empty l (i : Int)).size ∧ (rdOf ByteArray.empty l (i : Int)).size ≤ 27 ∧ (i + 1 < l.length → (rdOf ByteArray.empty l (i : Int)).size = 27)
  | [], i, _, h => by simp at h
  | x :: l, 0, h, _ => ⟨h.1, h.2.1, fun h2 => h.2.2.1 (by rintro rfl; simp at h2)⟩
  | x :: l, i + 1, h, hi => by
    have := pt_at l i h.2.2.2 (by simpa using hi)
    have e : rdOf ByteArray.empty (x :: l) ((i + 1 : Nat) : Int) = rdOf ByteArray.empty l (i : Int) := by unfold rdOf; rw [Int.toNat_natCast, Int.toNat_natCast]; rfl
    rw [e]
    exact ⟨this.1, this.2.1, fun h2 => this.2.2 (by simpa using h2)⟩
theorem drop_at (l : List ByteArray) (i : Nat) (h : i < l.length) : l.drop i = rdOf ByteArray.empty l (i : Int) :: l.drop (i + 1) := by
  rw [List.drop_eq_getElem_cons h]
  unfold rdOf
  rw [Int.toNat_natCast, List.getD_eq_getElem?_getD, List.getElem?_eq_getElem h]; rfl
theorem cat_take (l : List ByteArray) (i : Nat) (h : i < l.length) : cat (l.take (i + 1)) = cat (l.take i) ++ rdOf ByteArray.empty l (i : Int) := by
  have hc : ∀ (a : List ByteArray) (x : ByteArray), cat (a ++ [x]) = cat a ++ x := by
    intro a x
    induction a with
    | nil => show x ++ ⟨#[]⟩ = ⟨#[]⟩ ++ x; rw [app_empty, empty_app]
    | cons y a ih => show y ++ cat (a ++ [x]) = y ++ cat a ++ x; rw [ih, app_assoc]
  rw [List.take_add_one, List.getElem?_eq_getElem h]
  show cat (l.take i ++ [l[i]]) = _
  rw [hc]
  unfold rdOf
  rw [Int.toNat_natCast, List.getD_eq_getElem?_getD, List.getElem?_eq_getElem h]; rfl
theorem cat_size_take (l : List ByteArray) (i : Nat) : (cat (l.take i)).size ≤ (cat l).size := by
  induction l generalizing i with
  | nil => simp
  | cons x l ih =>
    cases i with
    | zero => show 0 ≤ _; omega
    | succ i => show (x ++ cat (l.take i)).size ≤ (x ++ cat l).size; rw [ByteArray.size_append, ByteArray.size_append]; have := ih i; omega
end Go.Proofs.Ytacmfpkmcefcfaa.Leafs
