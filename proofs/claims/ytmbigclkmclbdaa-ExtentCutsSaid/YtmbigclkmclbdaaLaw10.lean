/- The laws of extents, in numbers: the first call, and ExtentSets. No memory. -/
import Derived.Test.YtmbigclkmclbdaaExtAll
import Derived.Test.YtmbigclkmclbdaaMapsAll
import Derived.Test.YtmbigclkmclbdaaAx25
import Derived.Test.YtmbigclkmclbdaaBx2
import Derived.Test.YtmbigclkmclbdaaBx3
namespace Go.Proofs.Ytmbigclkmclbdaa.ExtP
open Go.RowKit Go.Proofs.YtmbigclkmclbdaaW.PrintWords Go.Proofs.YtmbigclkmclbdaaW.PrintLast Go.Proofs.YtmbigclkmclbdaaW.PrintMore Go.Proofs.Ytmbigclkmclbdaa.A Go.Proofs.Ytmbigclkmclbdaa.B Go.Proofs.Ytmbigclkmclbdaa.Hand Go.Proofs.Ytmbigclkmclbdaa.Maps
set_option linter.unusedVariables false
set_option linter.unusedSimpArgs false
set_option maxRecDepth 20000 in
theorem alive_eq (k : Nat) (hk : 2200 ≤ k) : emulsionlaw10_alive.f k = some true := by
  unfold emulsionlaw10_alive.f
  have h0 : ([⟨0, 4, 1⟩] : List EX) = exM (setM noneM ⟨0, 4, 1⟩) := by kernel_rfl
  have h1 : exM (setM (setM noneM ⟨0, 4, 1⟩) ⟨1, 2, 0⟩) = ([⟨0, 1, 1⟩, ⟨1, 2, 0⟩, ⟨3, 1, 4⟩] : List EX) := by kernel_rfl
  have h2 := Set_map (okM.none.setM ⟨0, 4, 1⟩) (⟨1, 2, 0⟩ : EX) k (by omega)
  simp only at h2
  rw [h1] at h2
  have v1 : extent_Valid.f k ([⟨0, 1, 1⟩, ⟨1, 2, 0⟩, ⟨3, 1, 4⟩] : List EX) 4 = some true := at_rounds (g := fun k => extent_Valid.f k ([⟨0, 1, 1⟩, ⟨1, 2, 0⟩, ⟨3, 1, 4⟩] : List EX) 4) (fun k => extent_Valid.mono _ _ k) (show 40 ≤ k by omega) (by kernel_rfl)
  have v2 : extent_Valid.f k ([⟨0, 1, 1⟩, ⟨1, 2, 0⟩, ⟨3, 1, 4⟩] : List EX) 3 = some false := at_rounds (g := fun k => extent_Valid.f k ([⟨0, 1, 1⟩, ⟨1, 2, 0⟩, ⟨3, 1, 4⟩] : List EX) 3) (fun k => extent_Valid.mono _ _ k) (show 40 ≤ k by omega) (by kernel_rfl)
  rw [h0, h2, Option.bind_some, v1, v2]
  rfl
theorem find_at (m : List Int) (i : Nat) (hi : i < 64) : findM m (i : Int) = if 0 ≤ m.getD i 0 then (m.getD i 0, true) else (0, false) := by
  unfold findM
  rw [Int.toNat_natCast]
  by_cases h : 0 ≤ m.getD i 0
  · rw [if_pos ⟨by omega, by omega, h⟩, if_pos h]
  · rw [if_neg (fun x => h x.2.2), if_neg h]
theorem sets_l0 {m : List Int} (hm : okM m) (x : EX) (hx : alone x) (d : Nat) : ∀ (k i : Nat), i + d = 64 → 2 * d + 100 < k →
    emulsionlaw10_ExtentSets.l0 k (exM m) (exM (setM m x)) (exM (cutM (setM m x) x.f0 x.f1)) (i : Int) x.f0 x.f1 x.f2 = some true := by
  have hm1 := hm.setM x
  have hm2 := cutM_ok hm1 x.f0 x.f1
  have hx' := hx
  obtain ⟨x1, x2, x3, x4, x5⟩ := hx'
  induction d with
  | zero =>
    intro k i hi hk
    obtain ⟨k, rfl⟩ : ∃ m, k = m + 1 := ⟨k - 1, by omega⟩
    simp only [emulsionlaw10_ExtentSets.l0]
    have h1 := set_length hm x hx
    have h2 := exM_length m
    rw [if_neg (by omega), w_id (by omega) (by omega), decide_eq_true (by omega)]
  | succ d ih =>
    intro k i hi hk
    obtain ⟨k, rfl⟩ : ∃ m, k = m + 1 + 1 := ⟨k - 2, by omega⟩
    have hil : i < 64 := by omega
    have hw : wrap64 ((i : Int) + 1) = ((i + 1 : Nat) : Int) := by unfold wrap64; omega
    have hIH := ih k (i + 1) (by omega) (by omega)
    have g1 := setM_get m hm.1 x hx i hil
    have g2 := cutM_get (setM m x) x.f0 x.f1 i hil
    have hwh : wh x.f0 x.f1 := ⟨x1, x2, x3⟩
    simp only [emulsionlaw10_ExtentSets.l0]
    rw [if_pos (by omega), Find_map hm _ _ (by omega), Option.bind_some, Find_map hm1 _ _ (by omega), Option.bind_some, Find_map hm2 _ _ (by omega), Option.bind_some, w_id (x := x.f0 + x.f1) (by omega) (by omega)]
    by_cases hin : x.f0 ≤ (i : Int) ∧ (i : Int) < x.f0 + x.f1
    · rw [if_pos hin] at g1
      rw [if_pos ⟨hwh, hin⟩] at g2
      rw [find_at m i hil, find_at (setM m x) i hil, find_at (cutM (setM m x) x.f0 x.f1) i hil, g2, g1, if_pos hin.1, if_neg (show ¬ (0 : Int) ≤ -1 by omega), decide_eq_true hin.2]
      simp only [emulsionlaw10_ExtentSets.j2]
      by_cases h2 : x.f2 > 0
      · have hv : wrap64 (wrap64 (x.f2 + (i : Int)) - x.f0) = x.f2 + ((i : Int) - x.f0) := by unfold wrap64; omega
        simp only [h2, if_true]
        rw [if_pos (show 0 ≤ x.f2 + ((i : Int) - x.f0) by omega)]
        simp only [if_true, hv, hw, Bool.false_eq_true, if_false]
        exact hIH
      · simp only [h2, if_false]
        rw [if_pos (show (0 : Int) ≤ 0 by omega)]
        simp only [if_true, hw, Bool.false_eq_true, if_false]
        exact hIH
    · rw [if_neg hin] at g1
      rw [if_neg (show ¬ (wh x.f0 x.f1 ∧ x.f0 ≤ (i : Int) ∧ (i : Int) < x.f0 + x.f1) from fun h => hin h.2), g1] at g2
      rw [find_at m i hil, find_at (setM m x) i hil, find_at (cutM (setM m x) x.f0 x.f1) i hil, g2, g1]
      have hb : (if (i : Int) ≥ x.f0 then emulsionlaw10_ExtentSets.j2 (k + 1) (exM m) (exM (setM m x)) (exM (cutM (setM m x) x.f0 x.f1)) (i : Int) (if 0 ≤ m.getD i 0 then (m.getD i 0, true) else (0, false)).1 (if 0 ≤ m.getD i 0 then (m.getD i 0, true) else (0, false)).2 (if 0 ≤ m.getD i 0 then (m.getD i 0, true) else (0, false)).1 (if 0 ≤ m.getD i 0 then (m.getD i 0, true) else (0, false)).2 (if 0 ≤ m.getD i 0 then (m.getD i 0, true) else (0, false)).2 (decide ((i : Int) < x.f0 + x.f1)) x.f0 x.f1 x.f2 else emulsionlaw10_ExtentSets.j2 (k + 1) (exM m) (exM (setM m x)) (exM (cutM (setM m x) x.f0 x.f1)) (i : Int) (if 0 ≤ m.getD i 0 then (m.getD i 0, true) else (0, false)).1 (if 0 ≤ m.getD i 0 then (m.getD i 0, true) else (0, false)).2 (if 0 ≤ m.getD i 0 then (m.getD i 0, true) else (0, false)).1 (if 0 ≤ m.getD i 0 then (m.getD i 0, true) else (0, false)).2 (if 0 ≤ m.getD i 0 then (m.getD i 0, true) else (0, false)).2 false x.f0 x.f1 x.f2) = emulsionlaw10_ExtentSets.j2 (k + 1) (exM m) (exM (setM m x)) (exM (cutM (setM m x) x.f0 x.f1)) (i : Int) (if 0 ≤ m.getD i 0 then (m.getD i 0, true) else (0, false)).1 (if 0 ≤ m.getD i 0 then (m.getD i 0, true) else (0, false)).2 (if 0 ≤ m.getD i 0 then (m.getD i 0, true) else (0, false)).1 (if 0 ≤ m.getD i 0 then (m.getD i 0, true) else (0, false)).2 (if 0 ≤ m.getD i 0 then (m.getD i 0, true) else (0, false)).2 false x.f0 x.f1 x.f2 := by
        by_cases h : (i : Int) ≥ x.f0
        · rw [if_pos h, decide_eq_false (fun h2 => hin ⟨h, h2⟩)]
        · rw [if_neg h]
      rw [hb]
      generalize (if 0 ≤ m.getD i 0 then (m.getD i 0, true) else ((0 : Int), false)) = f
      obtain ⟨f1, f2⟩ := f
      simp only [emulsionlaw10_ExtentSets.j2, Bool.false_eq_true, if_false, bne_self_eq_false, if_true, hw]
      split <;> exact hIH
theorem sets_eq (l : List EX) (x : EX) : ∃ k, emulsionlaw10_ExtentSets.f k l x.f0 x.f1 x.f2 = some true := by
  refine ⟨3000 + 1, ?_⟩
  unfold emulsionlaw10_ExtentSets.f
  have hal : emulsionlaw10_ExtentSets.j0 (3000 + 1) l true x.f0 x.f1 x.f2 = some true := by
    simp only [emulsionlaw10_ExtentSets.j0]
    rw [if_pos trivial, alive_eq _ (by omega)]; rfl
  by_cases hg : (l.length : Int) > 60
  · rw [if_pos hg]; exact hal
  rw [if_neg hg, ralone_eq x, Option.bind_some]
  by_cases hx : alone x
  · rw [if_pos (decide_eq_true hx), alive_eq _ (by omega), Option.bind_some]
    simp only [emulsionlaw10_ExtentSets.j0]
    have hm := okM.of l
    rw [if_neg (by decide)]
    unfold law10_Tidy.f
    rw [Option.bind_some, Set_map hm x _ (by omega), Option.bind_some, Cut_map (hm.setM x) _ _ _ (by omega), Option.bind_some]
    exact sets_l0 hm x hx 64 3000 0 (by omega) (by omega)
  · rw [if_neg (by rw [decide_eq_true_eq]; exact hx)]; exact hal
end Go.Proofs.Ytmbigclkmclbdaa.ExtP
