/- Parts of the proof for OctetsWrite: OctsN, InP, In, InE, Al13. -/
import Derived.Laws.BitsAllLaws
import Derived.Lib.SlBytesRow
import Derived.Test.YtacmfpkmcefcfaaJOctetsWrite4
import Derived.Test.YtacmfpkmcefcfaaJOctetsWrite5
section
namespace Go.Proofs.Ytacmfpkmcefcfaa.Hand
open Go.RowKit Go.Proofs.YtacmfpkmcefcfaaW.PrintWords Go.Proofs.YtacmfpkmcefcfaaW.PrintLast Go.Proofs.YtacmfpkmcefcfaaW.PrintMore Go.Proofs.Ytacmfpkmcefcfaa.A
set_option linter.unusedVariables false
set_option linter.unusedSimpArgs false
abbrev nix : ByteArray := ⟨#[]⟩
end Go.Proofs.Ytacmfpkmcefcfaa.Hand
end
section
namespace Go.Proofs.Ytacmfpkmcefcfaa.Hand
open Go.RowKit Go.Proofs.YtacmfpkmcefcfaaW.PrintWords Go.Proofs.YtacmfpkmcefcfaaW.PrintLast Go.Proofs.YtacmfpkmcefcfaaW.PrintMore Go.Proofs.Ytacmfpkmcefcfaa.A
set_option linter.unusedVariables false
set_option linter.unusedSimpArgs false
attribute [local go_sem] max2_int min2_int max_two min_two max_three min_three max_four min_four
/-- An In: the bytes that are left, and whether they were too few. -/
def InAt (w : World) (base g : Nat) (s : ByteArray) (b : Bool) : Prop := Blk w g 93 #[.string s, .bool b] ∧ base ≤ g ∧ (b = true → s = nix)
theorem InAt.keep {w w1 : World} {base g : Nat} {s : ByteArray} {b : Bool} (h : InAt w base g s b) (hb : Below w.heap.size w w1) : InAt w1 base g s b := ⟨h.1.keep hb, h.2⟩
theorem InAt.lt {w : World} {base g : Nat} {s : ByteArray} {b : Bool} (h : InAt w base g s b) : g < w.heap.size := h.1.lt
theorem bytes_in (s : ByteArray) : ∀ x ∈ bytesOf s, 0 ≤ x ∧ x < 256 := by
  unfold bytesOf
  intro x hx
  obtain ⟨b, _, rfl⟩ := List.mem_map.1 hx
  have := b.toNat_lt
  omega
end Go.Proofs.Ytacmfpkmcefcfaa.Hand
end
section
namespace Go.Proofs.Ytacmfpkmcefcfaa.Hand
open Go.RowKit Go.Proofs.YtacmfpkmcefcfaaW.PrintWords Go.Proofs.YtacmfpkmcefcfaaW.PrintLast Go.Proofs.YtacmfpkmcefcfaaW.PrintMore Go.Proofs.Ytacmfpkmcefcfaa.A
set_option linter.unusedVariables false
set_option linter.unusedSimpArgs false
attribute [local go_sem] max2_int min2_int max_two min_two max_three min_three max_four min_four
abbrev ERow (w : World) (base : Nat) (v : Value) (l : List S96) : Prop := Kd.R k96 96 w base (fun _ => True) v l
end Go.Proofs.Ytacmfpkmcefcfaa.Hand
end
section
namespace Go.Proofs.Ytacmfpkmcefcfaa.Hand
open Go.RowKit Go.Proofs.YtacmfpkmcefcfaaW.PrintWords Go.Proofs.YtacmfpkmcefcfaaW.PrintLast Go.Proofs.YtacmfpkmcefcfaaW.PrintMore Go.Proofs.Ytacmfpkmcefcfaa.A
set_option linter.unusedVariables false
set_option linter.unusedSimpArgs false
attribute [local go_sem] max2_int min2_int max_two min_two max_three min_three max_four min_four
theorem belW {w w3 w4 w5 : World} (h : Below w.heap.size w w4) (k : Below w3.heap.size w3 w4) (m : Below w3.heap.size w3 w5) (h3 : Below w.heap.size w w3) : Below w.heap.size w w5 := below_step h3 m
theorem bel2 {B : Nat} {w w1 w2 : World} (h : Below B w w1) (k : Below B w1 w2) : Below B w w2 :=
  ⟨k.os.trans h.os, k.tape.trans h.tape, k.output.trans h.output, Nat.le_trans h.size k.size, fun i hi => (k.block i hi).trans (h.block i hi)⟩
set_option maxRecDepth 100000 in
set_option maxHeartbeats 800000 in
theorem alive13 (w : World) : Calls Try.prog 14 #[] w fun e w' => e = .returned (.bool true) ∧ Below w.heap.size w w' := by
  go_enter Try.func14, Try.ntmps14
  go_wp2_with fail
  refine (out_num2 w.heap.size _ [] 0 258 _ (OutAt.new w _ (Nat.le_refl _)) (by simp) (by decide) (by decide) (by decide)).mono ?_
  rintro r w1 ⟨rfl, ho, hB⟩
  have HO := Aside0.mk ho
  have HB := Aside0.mk (bel2 (below_alloc (Below.refl w.heap.size w) _) hB)
  clear ho hB
  go_wp2_with fail
  refine (out_text w.heap.size _ _ 0 _ _ HO.out HB.out.size (by decide) (by decide)).mono ?_
  rintro r w2 ⟨rfl, ho, hB⟩
  have HO2 := Aside0.mk ho
  have HB2 := Aside0.mk (bel2 HB.out hB)
  clear ho hB HO HB
  go_wp2_with fail
  refine (out_done w.heap.size _ _ _ HO2.out).mono ?_
  rintro r w3 ⟨rfl, rfl⟩
  rw [show strOfNums ([] ++ leB 2 258 ++ leB 1 ((⟨#[97]⟩ : ByteArray).size : Int) ++ bytesOf ⟨#[97]⟩) = ⟨#[2, 1, 1, 97]⟩ by decide]
  go_wp2_with fail
  refine (octets_From.calls _ _ _ w3 w3 (Below.refl _ _) rfl).mono ?_
  rintro r w4 ⟨gi, rfl, hi, _, hB⟩
  have HI := Aside0.mk hi
  have HB4 := Aside0.mk (below_step HB2.out hB)
  have HW := Aside0.mk hB
  clear hi hB HO2
  go_wp2_with fail
  refine (octets_In_Num.calls 2 gi _ false 2 258 ⟨#[1, 97]⟩ false w3 w4 HI.out HW.out (by kernel_rfl)).mono ?_
  rintro r w5 ⟨rfl, _, hB, hK⟩
  have HB5 := Aside0.mk (belW HB4.out HW.out hB HB2.out)
  go_wp2_with fail
  go_ret
  exact ⟨rfl, HB5.out⟩
theorem fits_no (v n : Int) (hf : ¬ Fit v n) : emulsionref1_Fits.f v n = some false := by
  unfold Fit at hf
  unfold emulsionref1_Fits.f
  repeat' split
  all_goals first
    | rfl
    | (exfalso; omega)
    | (rw [decide_eq_false (by omega)])
theorem fits_ok (v n : Int) (hf : Fit v n) : emulsionref1_Fits.f v n = some true := by
  unfold Fit at hf
  unfold emulsionref1_Fits.f
  repeat' split
  all_goals first
    | rfl
    | (exfalso; omega)
    | (rw [decide_eq_true (by omega)])
theorem ba_ext {a b : ByteArray} (h : a.data.toList = b.data.toList) : a = b := by
  cases a; cases b
  simp only at h
  congr 1
  exact Array.toList_inj.1 h
theorem bytes_inj {a b : ByteArray} (h : bytesOf a = bytesOf b) : a = b := by
  apply ba_ext
  unfold bytesOf at h
  exact List.map_inj_right (fun x y e => UInt8.toNat_inj.1 (by omega)) |>.1 h
theorem bytes_str (l : List Int) (h : ∀ x ∈ l, 0 ≤ x ∧ x < 256) : bytesOf (strOfNums l) = l := by
  unfold bytesOf strOfNums
  simp only [List.map_map]
  conv => rhs; rw [← List.map_id l]
  apply List.map_congr_left
  intro x hx
  have := h x hx
  show (((UInt8.ofNat x.toNat).toNat : Nat) : Int) = x
  rw [UInt8.toNat_ofNat']
  omega
theorem bytes_size (s : ByteArray) : (bytesOf s).length = s.size := bytesOf_length s
end Go.Proofs.Ytacmfpkmcefcfaa.Hand
end
