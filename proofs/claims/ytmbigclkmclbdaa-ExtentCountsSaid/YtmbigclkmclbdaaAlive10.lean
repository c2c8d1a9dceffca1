/- The laws of extents, in numbers: the first call. No memory. -/
import Derived.Test.YtmbigclkmclbdaaExtAll
import Derived.Test.YtmbigclkmclbdaaMapsAll
import Derived.Test.YtmbigclkmclbdaaAx25
import Derived.Test.YtmbigclkmclbdaaBx2
namespace Go.Proofs.Ytmbigclkmclbdaa.ExtP
open Go.RowKit Go.Proofs.YtmbigclkmclbdaaW.PrintWords Go.Proofs.YtmbigclkmclbdaaW.PrintLast Go.Proofs.YtmbigclkmclbdaaW.PrintMore Go.Proofs.Ytmbigclkmclbdaa.A Go.Proofs.Ytmbigclkmclbdaa.B Go.Proofs.Ytmbigclkmclbdaa.Hand Go.Proofs.Ytmbigclkmclbdaa.Maps
set_option linter.unusedVariables false
set_option linter.unusedSimpArgs false
set_option maxRecDepth 20000 in
theorem alive_eq (k : Nat) (hk : 2200 ≤ k) : emulsionlaw10_alive.f k = some true := by
  unfold emulsionlaw10_alive.f
  have h0 : ([⟨0, 4, 1⟩] : List EX) = exM (setM noneM ⟨0, 4, 1⟩) := by kernel_rfl
  have h1 : exM (setM (setM noneM ⟨0, 4, 1⟩) ⟨1, 2, 0⟩) = ([⟨0, 1, 1⟩, ⟨1, 2, 0⟩, ⟨3, 1, 4⟩] : List EX) := by kernel_rfl
  have h2 := Set_map (okM.none.setM ⟨0, 4, 1⟩) (⟨1, 2, 0⟩ : EX) k (by omega)
  simp only at h2
  rw [h1] at h2
  have v1 : extent_Valid.f k ([⟨0, 1, 1⟩, ⟨1, 2, 0⟩, ⟨3, 1, 4⟩] : List EX) 4 = some true := at_rounds (g := fun k => extent_Valid.f k ([⟨0, 1, 1⟩, ⟨1, 2, 0⟩, ⟨3, 1, 4⟩] : List EX) 4) (fun k => extent_Valid.mono _ _ k) (show 40 ≤ k by omega) (by kernel_rfl)
  have v2 : extent_Valid.f k ([⟨0, 1, 1⟩, ⟨1, 2, 0⟩, ⟨3, 1, 4⟩] : List EX) 3 = some false := at_rounds (g := fun k => extent_Valid.f k ([⟨0, 1, 1⟩, ⟨1, 2, 0⟩, ⟨3, 1, 4⟩] : List EX) 3) (fun k => extent_Valid.mono _ _ k) (show 40 ≤ k by omega) (by kernel_rfl)
  rw [h0, h2, Option.bind_some, v1, v2]
  rfl
theorem find_at (m : List Int) (i : Nat) (hi : i < 64) : findM m (i : Int) = if 0 ≤ m.getD i 0 then (m.getD i 0, true) else (0, false) := by
  unfold findM
  rw [Int.toNat_natCast]
  by_cases h : 0 ≤ m.getD i 0
  · rw [if_pos ⟨by omega, by omega, h⟩, if_pos h]
  · rw [if_neg (fun x => h x.2.2), if_neg h]
end Go.Proofs.Ytmbigclkmclbdaa.ExtP
