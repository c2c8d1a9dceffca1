/- The first call of chapter 4. -/
import Derived.Test.YtknphhcppllpoaaDoorFilmL
import Derived.Test.YtknphhcppllpoaaDoorZero
import Derived.Test.YtknphhcppllpoaaDoorAx7
namespace Go.Proofs.YtknphhcppllpoaaDoor.Hand
open Go.RowKit Go.Proofs.YtknphhcppllpoaaDoorW.PrintWords Go.Proofs.YtknphhcppllpoaaDoorW.PrintLast Go.Proofs.YtknphhcppllpoaaDoorW.PrintMore Go.Proofs.YtknphhcppllpoaaDoor.A
set_option linter.unusedVariables false
set_option linter.unusedSimpArgs false
attribute [local go_sem] max2_int min2_int max_two min_two max_three min_three max_four min_four
set_option maxRecDepth 100000 in
set_option maxHeartbeats 1600000 in
theorem alive4 (w : World) : Calls Tryd.prog 8 #[] w fun e w' => e = .returned (.bool true) ∧ Below w.heap.size w w' := by
  go_enter Tryd.func8, Tryd.ntmps8
  go_wp2_with fail
  refine (film_new 2 (by decide) (by decide) _).mono ?_
  rintro e w1 ⟨gf, q, rfl, hg1, hq1, hf, hB⟩
  have HB1 := Aside0.mk hB
  have HF1 := Aside0.mk hf
  have Hg := Aside0.mk hg1
  have Hq := Aside0.mk hq1
  clear hB hf hg1 hq1
  go_wp2_with fail
  refine (film_write gf q _ 7 ⟨#[97, 98]⟩ _ HF1.out (by decide) (by decide)).mono ?_
  rintro e w2 ⟨rfl, hf, ho⟩
  have HB2 := Aside0.mk (below_only HB1.out ho Hq.out)
  have HF2 := Aside0.mk hf
  clear hf ho HB1 HF1
  go_wp2_with fail
  refine (film_block gf q _ 2 1 _ HF2.out (by decide) (by decide) (by decide)).mono ?_
  rintro e w5 ⟨rfl, rfl⟩
  rw [show (⟨((List.drop (8 * 1) (spl (List.replicate (8 * 2) 0) 7 (ByteArray.mk #[97, 98]).data.toList)).take 8).toArray⟩ : ByteArray) = (⟨#[98]⟩ : ByteArray) ++ Zs 7 from by decide]
  have z7 : (Zs 7).size = 7 := by decide
  go_wp2_with fail
  refine (emulsionref1_Zeros.calls 7 (Zs 7) _ (zeros_eq 7 (by decide))).mono ?_
  rintro e w6 ⟨rfl, hB⟩
  have HB6 := Aside0.mk (below_step HB2.out hB)
  have HF6 := Aside0.mk (HF2.out.keep hB)
  clear hB HB2 HF2
  go_wp2_with fail
  refine (film_blocks gf q _ 2 _ HF6.out (by decide)).mono ?_
  rintro e w7 ⟨rfl, rfl⟩
  go_wp2_with fail
  refine (film_zero ⟨#[0]⟩ (by decide) _).mono ?_
  rintro e w8 ⟨rfl, hB⟩
  have HB8 := Aside0.mk (below_step HB6.out hB)
  rw [show zeroB ⟨#[0]⟩ = true from by decide]
  clear hB
  go_wp2_with fail
  go_ret
  exact ⟨rfl, HB8.out⟩
end Go.Proofs.YtknphhcppllpoaaDoor.Hand
