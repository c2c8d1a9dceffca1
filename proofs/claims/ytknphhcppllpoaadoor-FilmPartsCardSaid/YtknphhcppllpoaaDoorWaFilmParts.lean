/- FilmParts, walked: bytes that are written in two parts are as those that are written at once. -/
import Derived.Test.YtknphhcppllpoaaDoorFilmN
import Derived.Test.YtknphhcppllpoaaDoorAx0
namespace Go.Proofs.YtknphhcppllpoaaDoor.WFilmParts
open Go.RowKit Go.Proofs.YtknphhcppllpoaaDoorW.PrintWords Go.Proofs.YtknphhcppllpoaaDoorW.PrintLast Go.Proofs.YtknphhcppllpoaaDoorW.PrintMore Go.Proofs.YtknphhcppllpoaaDoor.A Go.Proofs.YtknphhcppllpoaaDoor.Hand
set_option linter.unusedVariables false
set_option linter.unusedSimpArgs false
attribute [local go_sem] max2_int min2_int max_two min_two max_three min_three max_four min_four
def Out (B a : Int) (s : ByteArray) : Prop := B < 1 ∨ (¬ B < 1 ∧ 64 < B) ∨ (¬ B < 1 ∧ ¬ 64 < B ∧ 200 < (s.size : Int)) ∨ (¬ B < 1 ∧ ¬ 64 < B ∧ ¬ 200 < (s.size : Int) ∧ a < 0) ∨ (¬ B < 1 ∧ ¬ 64 < B ∧ ¬ 200 < (s.size : Int) ∧ ¬ a < 0 ∧ B * 8 - (s.size : Int) < a)
set_option maxRecDepth 100000 in
set_option maxHeartbeats 800000 in
theorem early (B a : Int) (s : ByteArray) (t : Int) (w : World) (h : Out B a s) :
    Calls Tryd.prog 5 #[.int .i64 B, .int .i64 a, .string s, .int .i64 t] w fun e w' => e = .returned (.bool true) ∧ Below w.heap.size w w' := by
  rcases h with h | ⟨h0, h⟩ | ⟨h0, h1, h⟩ | ⟨h0, h1, h2, h⟩ | ⟨h0, h1, h2, h3, h⟩
  all_goals
    go_enter Tryd.func5, Tryd.ntmps5
    go_wp2_with (go_at_call 8; refine (alive4 _).mono ?_; rintro e w1 ⟨rfl, hB⟩)
    go_ret
    exact ⟨rfl, hB⟩
set_option maxRecDepth 100000 in
set_option maxHeartbeats 3200000 in
theorem main (B a : Nat) (s : ByteArray) (t : Int) (w : World) (h0 : 1 ≤ B) (h1 : B ≤ 64) (h2 : s.size ≤ 200) (h3 : a + s.size ≤ 8 * B) :
    Calls Tryd.prog 5 #[.int .i64 B, .int .i64 a, .string s, .int .i64 t] w fun e w' => e = .returned (.bool true) ∧ Below w.heap.size w w' := by
  obtain ⟨n, hn⟩ : ∃ n, n = s.size := ⟨_, rfl⟩
  have n0 : ¬ (B : Int) < 1 := by omega
  have n1 : ¬ 64 < (B : Int) := by omega
  have n2 : ¬ 200 < (s.size : Int) := by omega
  have n4 : ¬ (B : Int) * 8 - (s.size : Int) < (a : Int) := by omega
  have i0 : (1 : Int) ≤ (B : Int) := by omega
  have i1 : (B : Int) ≤ 64 := by omega
  have i2 : (s.size : Int) ≤ 200 := by omega
  have i3 : (a : Int) ≤ 512 := by omega
  have m1 : -((s.size : Int) + 1) < Int.tmod t ((s.size : Int) + 1) := by have := Int.lt_tmod_of_pos t (b := (s.size : Int) + 1) (by omega); omega
  have m2 : Int.tmod t ((s.size : Int) + 1) < (s.size : Int) + 1 := Int.tmod_lt_of_pos t (by omega)
  obtain ⟨q, hq1, hq⟩ : ∃ q : Nat, (Int.tmod t ((s.size : Int) + 1) + (s.size : Int) + 1) % ((s.size : Int) + 1) = (q : Int) ∧ q ≤ s.size := by
    have a1 := Int.emod_nonneg (Int.tmod t ((s.size : Int) + 1) + (s.size : Int) + 1) (b := (s.size : Int) + 1) (by omega)
    have a2 := Int.emod_lt_of_pos (Int.tmod t ((s.size : Int) + 1) + (s.size : Int) + 1) (b := (s.size : Int) + 1) (by omega)
    exact ⟨((Int.tmod t ((s.size : Int) + 1) + (s.size : Int) + 1) % ((s.size : Int) + 1)).toNat, by omega, by omega⟩
  have Hq1 := Aside0.mk hq1
  have Hq := Aside0.mk hq
  have h0' := Aside0.mk h0
  have h1' := Aside0.mk h1
  have h3' := Aside0.mk h3
  have HB0 := Aside0.mk (Below.refl w.heap.size w)
  clear h0 h1 h2 h3 hq1 hq hn
  go_enter Tryd.func5, Tryd.ntmps5
  go_wp2_with fail
  refine (alive4 _).mono ?_
  rintro e w1 ⟨rfl, hB⟩
  have HB1 := Aside0.mk (below_step HB0.out hB)
  clear hB HB0
  go_wp2_with fail
  refine (film_new B h0'.out h1'.out _).mono ?_
  rintro e w2 ⟨gx, qx, rfl, hg, hq, hf, hB⟩
  have HB2 := Aside0.mk (below_step HB1.out hB)
  have HX2 := Aside0.mk hf
  have Hx : Aside0 (w.heap.size ≤ gx ∧ w.heap.size ≤ qx) := ⟨by have := HB1.out.size; omega⟩
  clear hB HB1 hf hg hq
  go_wp2_with fail
  refine (film_new B h0'.out h1'.out _).mono ?_
  rintro e w3 ⟨gy, qy, rfl, hg, hq, hf, hB⟩
  have HB3 := Aside0.mk (below_step HB2.out hB)
  have HX3 := Aside0.mk (HX2.out.keep hB)
  have HY3 := Aside0.mk hf
  have Hy : Aside0 (w.heap.size ≤ gy ∧ w.heap.size ≤ qy) := ⟨by have := HB2.out.size; omega⟩
  have Hne : Aside0 (gy ≠ qx ∧ qy ≠ qx ∧ gx ≠ qy ∧ qx ≠ qy) := ⟨by have := HX2.out.lt; omega⟩
  clear hB HB2 HX2 hf hg hq
  have hl0 := Aside0.mk (show (List.replicate (8 * B) (0 : UInt8)).length = 8 * B from List.length_replicate)
  have hlx := Aside0.mk (spl_length (List.replicate (8 * B) (0 : UInt8)) a s.data.toList (by rw [hl0.out, dlen]; exact h3'.out))
  have hmid := spl_mid (List.replicate (8 * B) (0 : UInt8)) s a (by rw [hl0.out]; exact h3'.out)
  have hz1 := Aside0.mk (zero_left (8 * B) s a h3'.out)
  have hz2 := Aside0.mk (zero_right (8 * B) s a h3'.out _ rfl)
  have hy := Aside0.mk (spl_parts (List.replicate (8 * B) (0 : UInt8)) s.data.toList a q (by rw [hl0.out, dlen]; exact h3'.out) (by rw [dlen]; exact Hq.out))
  have hly := Aside0.mk (spl_length (List.replicate (8 * B) (0 : UInt8)) (a + q) (s.data.toList.drop q) (by rw [hl0.out, List.length_drop, dlen]; have := h3'.out; have := Hq.out; omega))
  generalize List.replicate (8 * B) (0 : UInt8) = l0 at *
  have s1 : (s.extract q s.size).size = s.size - q := by rw [ByteArray.size_extract]; omega
  have s2 : (s.extract 0 q).size = q := by rw [ByteArray.size_extract]; have := Hq.out; omega
  have hw2 := Aside0.mk (fun (W : World) (h : FilmAt W gy qy l0) => film_write gy qy l0 (a + q) (s.extract q s.size) W h (by have := hl0.out; have := h1'.out; omega) (by rw [s1, hl0.out]; have := h3'.out; have := Hq.out; omega))
  have hw3 := Aside0.mk (fun (W : World) (h : FilmAt W gy qy (spl l0 (a + q) (s.data.toList.drop q))) => film_write gy qy _ a (s.extract 0 q) W h (by rw [hly.out]; have := hl0.out; have := h1'.out; omega) (by rw [s2, hly.out, hl0.out]; have := h3'.out; have := Hq.out; omega))
  rw [Int.natCast_add, ex_drop] at hw2
  rw [ex_take, hy.out] at hw3
  have hqs : (q : Int) ≤ (s.size : Int) := by have := Hq.out; omega
  replace hmid := Aside0.mk hmid
  clear s1 s2
  have Hm1 := Aside0.mk m1
  have Hm2 := Aside0.mk m2
  go_wp2_with fail
  rw [Hq1.out]
  clear Hq1 Hm1 Hm2 m1 m2
  refine (film_write gx qx l0 a s _ HX3.out (by have := hl0.out; have := h1'.out; omega) (by rw [hl0.out]; exact h3'.out)).mono ?_
  rintro e w4 ⟨rfl, hf, ho⟩
  have HB4 := Aside0.mk (below_only HB3.out ho Hx.out.2)
  have HY4 := Aside0.mk (HY3.out.only ho Hne.out.1 Hne.out.2.1)
  have HX4 := Aside0.mk hf
  clear hf ho HB3 HX3 HY3
  go_wp2_with fail
  refine (hw2.out _ HY4.out).mono ?_
  rintro e w5 ⟨rfl, hf, ho⟩
  have HB5 := Aside0.mk (below_only HB4.out ho Hy.out.2)
  have HX5 := Aside0.mk (HX4.out.only ho Hne.out.2.2.1 Hne.out.2.2.2)
  have HY5 := Aside0.mk hf
  clear hf ho HB4 HX4 HY4 hw2
  go_wp2_with fail
  refine (hw3.out _ HY5.out).mono ?_
  rintro e w6 ⟨rfl, hf, ho⟩
  have HB6 := Aside0.mk (below_only HB5.out ho Hy.out.2)
  have HX6 := Aside0.mk (HX5.out.only ho Hne.out.2.2.1 Hne.out.2.2.2)
  have HY6 := Aside0.mk hf
  clear hf ho HB5 HX5 HY5 hw3 hy hly
  rw [hl0.out] at hlx
  generalize spl l0 a s.data.toList = lx at *
  have hlx' := hlx
  have hby := Aside0.mk (fun (g q : Nat) (W : World) (h : FilmAt W g q lx) => film_bytes g q lx W h)
  have hRs : Aside0 ((⟨lx.toArray⟩ : ByteArray).size = 8 * B) := ⟨by show lx.toArray.size = _; rw [List.size_toArray]; exact hlx.out⟩
  generalize (⟨lx.toArray⟩ : ByteArray) = R at *
  have hRs1 : (R.size : Int) = (B : Int) * 8 := by have := hRs.out; omega
  have hmid := hmid.out
  have hRs2 := Aside0.mk hRs1
  have hra : a + s.size ≤ R.size := by have := hRs.out; have := h3'.out; omega
  clear hRs1
  go_wp2_with fail
  refine (hby.out _ _ _ HX6.out).mono ?_
  rintro e w7 ⟨rfl, rfl⟩
  go_wp2_with fail
  refine (hby.out _ _ _ HY6.out).mono ?_
  rintro e w8 ⟨rfl, rfl⟩
  go_wp2_with fail
  refine (film_unlike gx qx gy qy lx lx B B _ HX6.out HY6.out hlx'.out h1'.out hlx'.out h1'.out).mono ?_
  rintro e w9 ⟨u, rfl, hu, hB⟩
  rw [unlV_same] at hu
  obtain ⟨Au, cu, rfl, _, _, _⟩ := hu.reads
  have HB9 := Aside0.mk (below_step HB6.out hB)
  clear hu hB HB6 HX6 HY6
  have hRs1 := hRs2.out
  have hra2 : (a : Int) + (s.size : Int) ≤ (B : Int) * 8 := by have := h3'.out; omega
  have hra3 : (a : Int) ≤ (B : Int) * 8 := by omega
  have hsl : ∀ W : World, (Instr.slice 9 (.string R) (some (.int .i64 (a : Int))) (some (.int .i64 ((a : Int) + (s.size : Int)))) none).run Tryd.prog W = .ok (.string s) W := by
    intro W
    rw [run_slice_string W 9 R .i64 .i64 (a : Int) ((a : Int) + (s.size : Int)) Tryd.underlying9 (by omega) (by omega) (by have := hRs.out; omega)]
    rw [show ((a : Int) + (s.size : Int)).toNat = a + s.size by omega, Int.toNat_natCast, hmid]
  go_wp2_with fail
  refine (film_zero (R.extract 0 a) (by rw [ByteArray.size_extract]; have := hRs.out; omega) _).mono ?_
  rintro e wa ⟨rfl, hB⟩
  rw [hz1.out]
  have HBa := Aside0.mk (below_step HB9.out hB)
  clear hB HB9 hsl
  go_wp2_with fail
  refine (film_zero (R.extract (a + s.size) R.size) (by rw [ByteArray.size_extract]; have := hRs.out; omega) _).mono ?_
  rintro e wb ⟨rfl, hB⟩
  rw [hz2.out]
  have HBb := Aside0.mk (below_step HBa.out hB)
  clear hB HBa
  go_wp2_with fail
  go_ret
  exact ⟨rfl, HBb.out⟩
theorem walk (B a : Int) (s : ByteArray) (t : Int) (w : World) (_ : (Lit.int .i64 B).wf = true) (_ : (Lit.int .i64 a).wf = true) (_ : s.size ≤ 140737488351232) (_ : (Lit.int .i64 t).wf = true) :
    Calls Tryd.prog 5 #[.int .i64 B, .int .i64 a, .string s, .int .i64 t] w fun e w' => e = .returned (.bool true) ∧ Below w.heap.size w w' := by
  by_cases h : Out B a s
  · exact early B a s t w h
  · unfold Out at h
    obtain ⟨B', rfl⟩ := Int.eq_ofNat_of_zero_le (show 0 ≤ B by omega)
    obtain ⟨a', rfl⟩ := Int.eq_ofNat_of_zero_le (show 0 ≤ a by omega)
    exact main B' a' s t w (by omega) (by omega) (by omega) (by omega)
end Go.Proofs.YtknphhcppllpoaaDoor.WFilmParts
