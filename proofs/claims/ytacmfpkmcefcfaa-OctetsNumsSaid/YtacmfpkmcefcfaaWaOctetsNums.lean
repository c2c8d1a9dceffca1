/- OctetsNums, walked: each number has just the bytes that it is asked to have, if they are enough. -/
import Derived.Test.YtacmfpkmcefcfaaOctsN
import Derived.Test.YtacmfpkmcefcfaaAx4
import Derived.Test.YtacmfpkmcefcfaaAx6
namespace Go.Proofs.Ytacmfpkmcefcfaa.WOctetsNums
open Go.RowKit Go.Proofs.YtacmfpkmcefcfaaW.PrintWords Go.Proofs.YtacmfpkmcefcfaaW.PrintLast Go.Proofs.YtacmfpkmcefcfaaW.PrintMore Go.Proofs.Ytacmfpkmcefcfaa.A Go.Proofs.Ytacmfpkmcefcfaa.Hand
set_option linter.unusedVariables false
set_option linter.unusedSimpArgs false
attribute [local go_sem] max2_int min2_int max_two min_two max_three min_three max_four min_four
theorem belW {w w3 w4 w5 : World} (h : Below w.heap.size w w4) (k : Below w3.heap.size w3 w4) (m : Below w3.heap.size w3 w5) (h3 : Below w.heap.size w w3) : Below w.heap.size w w5 := below_step h3 m
theorem bel2 {B : Nat} {w w1 w2 : World} (h : Below B w w1) (k : Below B w1 w2) : Below B w w2 :=
  ⟨k.os.trans h.os, k.tape.trans h.tape, k.output.trans h.output, Nat.le_trans h.size k.size, fun i hi => (k.block i hi).trans (h.block i hi)⟩
set_option maxRecDepth 100000 in
set_option maxHeartbeats 800000 in
theorem alive13 (w : World) : Calls Try.prog 14 #[] w fun e w' => e = .returned (.bool true) ∧ Below w.heap.size w w' := by
  go_enter Try.func14, Try.ntmps14
  go_wp2_with fail
  refine (out_num2 w.heap.size _ [] 0 258 _ (OutAt.new w _ (Nat.le_refl _)) (by simp) (by decide) (by decide) (by decide)).mono ?_
  rintro r w1 ⟨rfl, ho, hB⟩
  have HO := Aside0.mk ho
  have HB := Aside0.mk (bel2 (below_alloc (Below.refl w.heap.size w) _) hB)
  clear ho hB
  go_wp2_with fail
  refine (out_text w.heap.size _ _ 0 _ _ HO.out HB.out.size (by decide) (by decide)).mono ?_
  rintro r w2 ⟨rfl, ho, hB⟩
  have HO2 := Aside0.mk ho
  have HB2 := Aside0.mk (bel2 HB.out hB)
  clear ho hB HO HB
  go_wp2_with fail
  refine (out_done w.heap.size _ _ _ HO2.out).mono ?_
  rintro r w3 ⟨rfl, rfl⟩
  rw [show strOfNums ([] ++ leB 2 258 ++ leB 1 ((⟨#[97]⟩ : ByteArray).size : Int) ++ bytesOf ⟨#[97]⟩) = ⟨#[2, 1, 1, 97]⟩ by decide]
  go_wp2_with fail
  refine (octets_From.calls _ _ _ w3 w3 (Below.refl _ _) rfl).mono ?_
  rintro r w4 ⟨gi, rfl, hi, _, hB⟩
  have HI := Aside0.mk hi
  have HB4 := Aside0.mk (below_step HB2.out hB)
  have HW := Aside0.mk hB
  clear hi hB HO2
  go_wp2_with fail
  refine (octets_In_Num.calls 2 gi _ false 2 258 ⟨#[1, 97]⟩ false w3 w4 HI.out HW.out (by kernel_rfl)).mono ?_
  rintro r w5 ⟨rfl, _, hB, hK⟩
  have HB5 := Aside0.mk (belW HB4.out HW.out hB HB2.out)
  go_wp2_with fail
  go_ret
  exact ⟨rfl, HB5.out⟩
theorem fits_no (v n : Int) (hf : ¬ Fit v n) : emulsionref1_Fits.f v n = some false := by
  unfold Fit at hf
  unfold emulsionref1_Fits.f
  repeat' split
  all_goals first
    | rfl
    | (exfalso; omega)
    | (rw [decide_eq_false (by omega)])
theorem fits_ok (v n : Int) (hf : Fit v n) : emulsionref1_Fits.f v n = some true := by
  unfold Fit at hf
  unfold emulsionref1_Fits.f
  repeat' split
  all_goals first
    | rfl
    | (exfalso; omega)
    | (rw [decide_eq_true (by omega)])
set_option maxRecDepth 100000 in
set_option maxHeartbeats 800000 in
theorem main_no (v n : Int) (w : World) (hf : ¬ Fit v n) :
    Calls Try.prog 3 #[.int .i64 v, .int .i64 n] w fun e w' => e = .returned (.bool true) ∧ Below w.heap.size w w' := by
  have HF := Aside0.mk hf
  clear hf
  go_enter Try.func3, Try.ntmps3
  go_wp2_with fail
  refine (alive13 _).mono ?_
  rintro e w1 ⟨rfl, hB⟩
  have HB1 := Aside0.mk hB
  clear hB
  go_wp2_with fail
  refine (out_num_no w1.heap.size _ [] 0 v n _ (OutAt.new w1 _ (Nat.le_refl _)) (by simp) HF.out).mono ?_
  rintro r w2 ⟨rfl, ho, hB⟩
  rw [if_pos rfl] at ho
  have HO := Aside0.mk ho
  have HB2 := Aside0.mk (below_step HB1.out (bel2 (below_alloc (Below.refl w1.heap.size w1) _) hB))
  clear ho hB
  go_wp2_with fail
  refine (out_done_no w1.heap.size _ _ 1 _ HO.out (by decide)).mono ?_
  rintro r w3 ⟨rfl, hB⟩
  have HB3 := Aside0.mk (below_step HB2.out hB)
  clear hB
  go_wp2_with fail
  refine (emulsionref1_Fits.calls v n false w3 (fits_no v n HF.out)).mono ?_
  rintro r w4 ⟨rfl, hD⟩
  have HD := Aside0.mk hD
  clear hD
  go_wp2_with fail
  go_ret
  exact ⟨rfl, below_step HB3.out (by obtain ⟨m, rfl⟩ := HD.out; exact pw_below_drewN (Below.refl _ _) m)⟩
theorem bt_str (l : List Int) (i : Nat) (x : Int) (h : l[i]? = some x) (h0 : 0 ≤ x) (h1 : x < 256) : bt (strOfNums l) (i : Int) = x := by
  have hi : i < l.length := by
    rcases Nat.lt_or_ge i l.length with h2 | h2
    · exact h2
    · rw [List.getElem?_eq_none h2] at h; cases h
  have hx : l[i] = x := by rw [List.getElem?_eq_getElem hi] at h; injection h
  unfold bt
  rw [dif_pos (by rw [strOfNums_size]; simpa using hi)]
  simp only [Int.toNat_natCast]
  show (((strOfNums l).data[i]'(by simpa [strOfNums] using hi)).toNat : Int) = x
  simp only [strOfNums, List.getElem_toArray, List.getElem_map, hx]
  obtain ⟨y, rfl⟩ := Int.eq_ofNat_of_zero_le h0
  simp
  omega
theorem num_back1 (v : Int) (h0 : 0 ≤ v) (h1 : v < 256) : octets_In_Num.f 2 (strOfNums (leB 1 v)) false 1 = some (v, ⟨#[]⟩, false) := by
  rw [in_num_1 _ (by rw [strOfNums_size, leB_length]), leB_1 v]
  have e0 : bt (strOfNums [v % 256]) 0 = v % 256 := bt_str _ 0 _ rfl (by omega) (by omega)
  replace e0 : bt (strOfNums [v % 256]) 0 = v % 256 := e0
  rw [e0, show v % 256 = v by omega]
theorem num_back2 (v : Int) (h0 : 0 ≤ v) (h1 : v < 65536) : octets_In_Num.f 2 (strOfNums (leB 2 v)) false 2 = some (v, ⟨#[]⟩, false) := by
  rw [in_num_2 _ (by rw [strOfNums_size, leB_length]), leB_2 v]
  have e0 : bt (strOfNums [v % 256, v / 256 % 256]) 0 = v % 256 := bt_str _ 0 _ rfl (by omega) (by omega)
  have e1 : bt (strOfNums [v % 256, v / 256 % 256]) 1 = v / 256 % 256 := bt_str _ 1 _ rfl (by omega) (by omega)
  replace e0 : bt (strOfNums [v % 256, v / 256 % 256]) 0 = v % 256 := e0
  replace e1 : bt (strOfNums [v % 256, v / 256 % 256]) 1 = v / 256 % 256 := e1
  rw [e0, e1, show v % 256 + 256 * (v / 256 % 256) = v by omega]
theorem num_back3 (v : Int) (h0 : 0 ≤ v) (h1 : v < 16777216) : octets_In_Num.f 2 (strOfNums (leB 3 v)) false 3 = some (v, ⟨#[]⟩, false) := by
  rw [in_num_3 _ (by rw [strOfNums_size, leB_length]), leB_3 v]
  have e0 : bt (strOfNums [v % 256, v / 256 % 256, v / 65536 % 256]) 0 = v % 256 := bt_str _ 0 _ rfl (by omega) (by omega)
  have e1 : bt (strOfNums [v % 256, v / 256 % 256, v / 65536 % 256]) 1 = v / 256 % 256 := bt_str _ 1 _ rfl (by omega) (by omega)
  have e2 : bt (strOfNums [v % 256, v / 256 % 256, v / 65536 % 256]) 2 = v / 65536 % 256 := bt_str _ 2 _ rfl (by omega) (by omega)
  replace e0 : bt (strOfNums [v % 256, v / 256 % 256, v / 65536 % 256]) 0 = v % 256 := e0
  replace e1 : bt (strOfNums [v % 256, v / 256 % 256, v / 65536 % 256]) 1 = v / 256 % 256 := e1
  replace e2 : bt (strOfNums [v % 256, v / 256 % 256, v / 65536 % 256]) 2 = v / 65536 % 256 := e2
  rw [e0, e1, e2, show v % 256 + 256 * (v / 256 % 256) + 65536 * (v / 65536 % 256) = v by omega]
theorem num_back4 (v : Int) (h0 : 0 ≤ v) (h1 : v < 4294967296) : octets_In_Num.f 2 (strOfNums (leB 4 v)) false 4 = some (v, ⟨#[]⟩, false) := by
  rw [in_num_4 _ (by rw [strOfNums_size, leB_length]), leB_4 v h0 (by omega)]
  have e0 : bt (strOfNums [v % 256, v / 256 % 256, v / 65536 % 256, v / 16777216]) 0 = v % 256 := bt_str _ 0 _ rfl (by omega) (by omega)
  have e1 : bt (strOfNums [v % 256, v / 256 % 256, v / 65536 % 256, v / 16777216]) 1 = v / 256 % 256 := bt_str _ 1 _ rfl (by omega) (by omega)
  have e2 : bt (strOfNums [v % 256, v / 256 % 256, v / 65536 % 256, v / 16777216]) 2 = v / 65536 % 256 := bt_str _ 2 _ rfl (by omega) (by omega)
  have e3 : bt (strOfNums [v % 256, v / 256 % 256, v / 65536 % 256, v / 16777216]) 3 = v / 16777216 := bt_str _ 3 _ rfl (by omega) (by omega)
  replace e0 : bt (strOfNums [v % 256, v / 256 % 256, v / 65536 % 256, v / 16777216]) 0 = v % 256 := e0
  replace e1 : bt (strOfNums [v % 256, v / 256 % 256, v / 65536 % 256, v / 16777216]) 1 = v / 256 % 256 := e1
  replace e2 : bt (strOfNums [v % 256, v / 256 % 256, v / 65536 % 256, v / 16777216]) 2 = v / 65536 % 256 := e2
  replace e3 : bt (strOfNums [v % 256, v / 256 % 256, v / 65536 % 256, v / 16777216]) 3 = v / 16777216 := e3
  rw [e0, e1, e2, e3, show v % 256 + 256 * (v / 256 % 256) + 65536 * (v / 65536 % 256) + 16777216 * (v / 16777216) = v by omega]
set_option maxRecDepth 100000 in
set_option maxHeartbeats 800000 in
theorem main1 (v : Int) (w : World) (h0 : 0 ≤ v) (h1 : v < 256) :
    Calls Try.prog 3 #[.int .i64 v, .int .i64 1] w fun e w' => e = .returned (.bool true) ∧ Below w.heap.size w w' := by
  have HN := Aside0.mk (num_back1 v h0 h1)
  have HF := Aside0.mk (fits_ok v 1 (by unfold Fit; omega))
  have hsz : ((strOfNums (leB 1 v)).size : Int) = 1 := by rw [strOfNums_size, leB_length]; rfl
  go_enter Try.func3, Try.ntmps3
  go_wp2_with fail
  refine (alive13 _).mono ?_
  rintro e w1 ⟨rfl, hB⟩
  have HB1 := Aside0.mk hB
  clear hB
  go_wp2_with fail
  refine (out_num1 w1.heap.size _ [] 0 v _ (OutAt.new w1 _ (Nat.le_refl _)) (by simp) h0 h1 (by decide)).mono ?_
  rintro r w2 ⟨rfl, ho, hB⟩
  rw [List.nil_append] at ho
  have HO := Aside0.mk ho
  have HB2 := Aside0.mk (below_step HB1.out (bel2 (below_alloc (Below.refl w1.heap.size w1) _) hB))
  clear ho hB
  go_wp2_with fail
  refine (out_done w1.heap.size _ _ _ HO.out).mono ?_
  rintro r w3 ⟨rfl, rfl⟩
  clear HO
  generalize strOfNums (leB 1 v) = s at *
  go_wp2_with fail
  refine (emulsionref1_Fits.calls v 1 true w3 HF.out).mono ?_
  rintro r w4 ⟨rfl, hD⟩
  have HB4 : Aside0 (Below w.heap.size w w4) := ⟨below_step HB2.out (by obtain ⟨m, rfl⟩ := hD; exact pw_below_drewN (Below.refl _ _) m)⟩
  clear hD
  go_wp2_with fail
  refine (octets_From.calls s _ _ w4 w4 (Below.refl _ _) rfl).mono ?_
  rintro r w5 ⟨gi, rfl, hi, _, hB⟩
  have HI := Aside0.mk hi
  have HW := Aside0.mk hB
  clear hi hB
  go_wp2_with fail
  refine (octets_In_Num.calls 2 gi s false 1 v ⟨#[]⟩ false w4 w5 HI.out HW.out HN.out).mono ?_
  rintro r w6 ⟨rfl, hi, hB, _⟩
  have HI6 := Aside0.mk hi
  have HB6 := Aside0.mk (below_step HB4.out hB)
  clear hi hB
  go_wp2_with fail
  refine (in_done_ok gi w6 HI6.out.1).mono ?_
  rintro r w7 ⟨rfl, rfl⟩
  go_wp2_with fail
  go_ret
  exact ⟨rfl, HB6.out⟩
set_option maxRecDepth 100000 in
set_option maxHeartbeats 800000 in
theorem main2 (v : Int) (w : World) (h0 : 0 ≤ v) (h1 : v < 65536) :
    Calls Try.prog 3 #[.int .i64 v, .int .i64 2] w fun e w' => e = .returned (.bool true) ∧ Below w.heap.size w w' := by
  have HN := Aside0.mk (num_back2 v h0 h1)
  have HF := Aside0.mk (fits_ok v 2 (by unfold Fit; omega))
  have hsz : ((strOfNums (leB 2 v)).size : Int) = 2 := by rw [strOfNums_size, leB_length]; rfl
  go_enter Try.func3, Try.ntmps3
  go_wp2_with fail
  refine (alive13 _).mono ?_
  rintro e w1 ⟨rfl, hB⟩
  have HB1 := Aside0.mk hB
  clear hB
  go_wp2_with fail
  refine (out_num2 w1.heap.size _ [] 0 v _ (OutAt.new w1 _ (Nat.le_refl _)) (by simp) h0 h1 (by decide)).mono ?_
  rintro r w2 ⟨rfl, ho, hB⟩
  rw [List.nil_append] at ho
  have HO := Aside0.mk ho
  have HB2 := Aside0.mk (below_step HB1.out (bel2 (below_alloc (Below.refl w1.heap.size w1) _) hB))
  clear ho hB
  go_wp2_with fail
  refine (out_done w1.heap.size _ _ _ HO.out).mono ?_
  rintro r w3 ⟨rfl, rfl⟩
  clear HO
  generalize strOfNums (leB 2 v) = s at *
  go_wp2_with fail
  refine (emulsionref1_Fits.calls v 2 true w3 HF.out).mono ?_
  rintro r w4 ⟨rfl, hD⟩
  have HB4 : Aside0 (Below w.heap.size w w4) := ⟨below_step HB2.out (by obtain ⟨m, rfl⟩ := hD; exact pw_below_drewN (Below.refl _ _) m)⟩
  clear hD
  go_wp2_with fail
  refine (octets_From.calls s _ _ w4 w4 (Below.refl _ _) rfl).mono ?_
  rintro r w5 ⟨gi, rfl, hi, _, hB⟩
  have HI := Aside0.mk hi
  have HW := Aside0.mk hB
  clear hi hB
  go_wp2_with fail
  refine (octets_In_Num.calls 2 gi s false 2 v ⟨#[]⟩ false w4 w5 HI.out HW.out HN.out).mono ?_
  rintro r w6 ⟨rfl, hi, hB, _⟩
  have HI6 := Aside0.mk hi
  have HB6 := Aside0.mk (below_step HB4.out hB)
  clear hi hB
  go_wp2_with fail
  refine (in_done_ok gi w6 HI6.out.1).mono ?_
  rintro r w7 ⟨rfl, rfl⟩
  go_wp2_with fail
  go_ret
  exact ⟨rfl, HB6.out⟩
set_option maxRecDepth 100000 in
set_option maxHeartbeats 800000 in
theorem main3 (v : Int) (w : World) (h0 : 0 ≤ v) (h1 : v < 16777216) :
    Calls Try.prog 3 #[.int .i64 v, .int .i64 3] w fun e w' => e = .returned (.bool true) ∧ Below w.heap.size w w' := by
  have HN := Aside0.mk (num_back3 v h0 h1)
  have HF := Aside0.mk (fits_ok v 3 (by unfold Fit; omega))
  have hsz : ((strOfNums (leB 3 v)).size : Int) = 3 := by rw [strOfNums_size, leB_length]; rfl
  go_enter Try.func3, Try.ntmps3
  go_wp2_with fail
  refine (alive13 _).mono ?_
  rintro e w1 ⟨rfl, hB⟩
  have HB1 := Aside0.mk hB
  clear hB
  go_wp2_with fail
  refine (out_num3 w1.heap.size _ [] 0 v _ (OutAt.new w1 _ (Nat.le_refl _)) (by simp) h0 h1 (by decide)).mono ?_
  rintro r w2 ⟨rfl, ho, hB⟩
  rw [List.nil_append] at ho
  have HO := Aside0.mk ho
  have HB2 := Aside0.mk (below_step HB1.out (bel2 (below_alloc (Below.refl w1.heap.size w1) _) hB))
  clear ho hB
  go_wp2_with fail
  refine (out_done w1.heap.size _ _ _ HO.out).mono ?_
  rintro r w3 ⟨rfl, rfl⟩
  clear HO
  generalize strOfNums (leB 3 v) = s at *
  go_wp2_with fail
  refine (emulsionref1_Fits.calls v 3 true w3 HF.out).mono ?_
  rintro r w4 ⟨rfl, hD⟩
  have HB4 : Aside0 (Below w.heap.size w w4) := ⟨below_step HB2.out (by obtain ⟨m, rfl⟩ := hD; exact pw_below_drewN (Below.refl _ _) m)⟩
  clear hD
  go_wp2_with fail
  refine (octets_From.calls s _ _ w4 w4 (Below.refl _ _) rfl).mono ?_
  rintro r w5 ⟨gi, rfl, hi, _, hB⟩
  have HI := Aside0.mk hi
  have HW := Aside0.mk hB
  clear hi hB
  go_wp2_with fail
  refine (octets_In_Num.calls 2 gi s false 3 v ⟨#[]⟩ false w4 w5 HI.out HW.out HN.out).mono ?_
  rintro r w6 ⟨rfl, hi, hB, _⟩
  have HI6 := Aside0.mk hi
  have HB6 := Aside0.mk (below_step HB4.out hB)
  clear hi hB
  go_wp2_with fail
  refine (in_done_ok gi w6 HI6.out.1).mono ?_
  rintro r w7 ⟨rfl, rfl⟩
  go_wp2_with fail
  go_ret
  exact ⟨rfl, HB6.out⟩
set_option maxRecDepth 100000 in
set_option maxHeartbeats 800000 in
theorem main4 (v : Int) (w : World) (h0 : 0 ≤ v) (h1 : v < 4294967296) :
    Calls Try.prog 3 #[.int .i64 v, .int .i64 4] w fun e w' => e = .returned (.bool true) ∧ Below w.heap.size w w' := by
  have HN := Aside0.mk (num_back4 v h0 h1)
  have HF := Aside0.mk (fits_ok v 4 (by unfold Fit; omega))
  have hsz : ((strOfNums (leB 4 v)).size : Int) = 4 := by rw [strOfNums_size, leB_length]; rfl
  go_enter Try.func3, Try.ntmps3
  go_wp2_with fail
  refine (alive13 _).mono ?_
  rintro e w1 ⟨rfl, hB⟩
  have HB1 := Aside0.mk hB
  clear hB
  go_wp2_with fail
  refine (out_num4 w1.heap.size _ [] 0 v _ (OutAt.new w1 _ (Nat.le_refl _)) (by simp) h0 h1 (by decide)).mono ?_
  rintro r w2 ⟨rfl, ho, hB⟩
  rw [List.nil_append] at ho
  have HO := Aside0.mk ho
  have HB2 := Aside0.mk (below_step HB1.out (bel2 (below_alloc (Below.refl w1.heap.size w1) _) hB))
  clear ho hB
  go_wp2_with fail
  refine (out_done w1.heap.size _ _ _ HO.out).mono ?_
  rintro r w3 ⟨rfl, rfl⟩
  clear HO
  generalize strOfNums (leB 4 v) = s at *
  go_wp2_with fail
  refine (emulsionref1_Fits.calls v 4 true w3 HF.out).mono ?_
  rintro r w4 ⟨rfl, hD⟩
  have HB4 : Aside0 (Below w.heap.size w w4) := ⟨below_step HB2.out (by obtain ⟨m, rfl⟩ := hD; exact pw_below_drewN (Below.refl _ _) m)⟩
  clear hD
  go_wp2_with fail
  refine (octets_From.calls s _ _ w4 w4 (Below.refl _ _) rfl).mono ?_
  rintro r w5 ⟨gi, rfl, hi, _, hB⟩
  have HI := Aside0.mk hi
  have HW := Aside0.mk hB
  clear hi hB
  go_wp2_with fail
  refine (octets_In_Num.calls 2 gi s false 4 v ⟨#[]⟩ false w4 w5 HI.out HW.out HN.out).mono ?_
  rintro r w6 ⟨rfl, hi, hB, _⟩
  have HI6 := Aside0.mk hi
  have HB6 := Aside0.mk (below_step HB4.out hB)
  clear hi hB
  go_wp2_with fail
  refine (in_done_ok gi w6 HI6.out.1).mono ?_
  rintro r w7 ⟨rfl, rfl⟩
  go_wp2_with fail
  go_ret
  exact ⟨rfl, HB6.out⟩
theorem walk (v n : Int) (w : World) (_ : (Lit.int .i64 v).wf = true) (_ : (Lit.int .i64 n).wf = true) :
    Calls Try.prog 3 #[.int .i64 v, .int .i64 n] w fun e w' => e = .returned (.bool true) ∧ Below w.heap.size w w' := by
  by_cases hf : Fit v n
  · obtain ⟨h0, ⟨rfl, h⟩ | ⟨rfl, h⟩ | ⟨rfl, h⟩ | ⟨rfl, h⟩⟩ := hf
    · exact main1 v w h0 h
    · exact main2 v w h0 h
    · exact main3 v w h0 h
    · exact main4 v w h0 h
  · exact main_no v n w hf
end Go.Proofs.Ytacmfpkmcefcfaa.WOctetsNums
