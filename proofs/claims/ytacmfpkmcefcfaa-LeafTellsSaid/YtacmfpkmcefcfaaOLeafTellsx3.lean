-- WRITTEN BY ownprint.py, a program of this session, over functions that were proved by hand (Lean checks it)
import Derived.Test.YtacmfpkmcefcfaaOLeafTellsx0
import Derived.Test.YtacmfpkmcefcfaaOLeafTellsx1
import Derived.Test.YtacmfpkmcefcfaaOLeafTellsx2
namespace Go.Proofs.Ytacmfpkmcefcfaa.OLeafTells
open Go.RowKit Go.Proofs.YtacmfpkmcefcfaaW.PrintWords Go.Proofs.YtacmfpkmcefcfaaW.PrintLast Go.Proofs.YtacmfpkmcefcfaaW.PrintMore
attribute [local go_sem] max2_int min2_int max_two min_two max_three min_three max_four min_four   -- for this text's walks alone
set_option linter.unusedVariables false
set_option linter.unusedSimpArgs false

/-! ### emulsionlaw15_LeafTells: function 8 -/
mutual
def emulsionlaw15_LeafTells.j0 : Nat → ByteArray → ByteArray → Int → Bool → Option (Bool)
  | 0, _, _, _, _ => none
  | k + 1, x0, x1, x2, x29 => if x29 = true then ((emulsionlaw15_alive.f k).bind fun t145 => (some t145)) else ((leaf_Lay.f k x0).bind fun bt146 => (if (x0.size : Int) > 27 then (if bt146.2 = 1 then (if bt146.1.toList = ([] : List UInt8) then (emulsionlaw15_LeafTells.j1 k x0 x1 x2) else (some false)) else (some false)) else (if bt146.2 = 0 then ((emulsionref14_Leaf.f k x0).bind fun t148 => (if bt146.1.toList = t148.toList then (emulsionlaw15_LeafTells.j1 k x0 x1 x2) else (some false))) else (some false))))
def emulsionlaw15_LeafTells.j1 : Nat → ByteArray → ByteArray → Int → Option (Bool)
  | 0, _, _, _ => none
  | k + 1, x0, x1, x2 => (leaf_Read.f k x1).bind fun bt149 => ((emulsionref14_Unleaf.f k x1).bind fun bt151 => (if bt151.2 = true then (emulsionlaw15_LeafTells.j2 k x0 x1 x2 bt149.1 bt149.2 bt151.1 bt151.2) else (emulsionlaw15_LeafTells.j2 k x0 x1 x2 bt149.1 bt149.2 (⟨#[]⟩ : ByteArray) bt151.2)))
def emulsionlaw15_LeafTells.j2 : Nat → ByteArray → ByteArray → Int → ByteArray → Int → ByteArray → Bool → Option (Bool)
  | 0, _, _, _, _, _, _, _ => none
  | k + 1, x0, x1, x2, x9, x10, x11, x12 => if (x1.size : Int) = 32 then (emulsionlaw15_LeafTells.j3 k x0 x2 x9 x10 x11 x12 6) else (emulsionlaw15_LeafTells.j3 k x0 x2 x9 x10 x11 x12 8)
def emulsionlaw15_LeafTells.j3 : Nat → ByteArray → Int → ByteArray → Int → ByteArray → Bool → Int → Option (Bool)
  | 0, _, _, _, _, _, _, _ => none
  | k + 1, x0, x2, x9, x10, x11, x12, x13 => if x12 = true then (emulsionlaw15_LeafTells.j4 k x0 x2 x9 x10 x11 0) else (emulsionlaw15_LeafTells.j4 k x0 x2 x9 x10 x11 x13)
def emulsionlaw15_LeafTells.j4 : Nat → ByteArray → Int → ByteArray → Int → ByteArray → Int → Option (Bool)
  | 0, _, _, _, _, _, _ => none
  | k + 1, x0, x2, x9, x10, x11, x13 => (leaf_Parts.f k x0).bind fun t153 => (emulsionlaw15_LeafTells.l0 k x0 x2 x9 x10 x11 x13 t153 (⟨#[]⟩ : ByteArray) 0)
def emulsionlaw15_LeafTells.l0 : Nat → ByteArray → Int → ByteArray → Int → ByteArray → Int → List ByteArray → ByteArray → Int → Option (Bool)
  | 0, _, _, _, _, _, _, _, _, _ => none
  | k + 1, x0, x2, x9, x10, x11, x13, x14, x15, x16 => if x16 < (x14.length : Int) then (if 0 ≤ x16 then (if x15.size + (rdOf ByteArray.empty x14 x16).size ≤ 9223372036854775807 then (if ((rdOf ByteArray.empty x14 x16).size : Int) < 1 then (some false) else (if ((rdOf ByteArray.empty x14 x16).size : Int) > 27 then (some false) else (if (wrap64 (x16 + 1)) < (x14.length : Int) then (if ((rdOf ByteArray.empty x14 x16).size : Int) = 27 then (emulsionlaw15_LeafTells.l0 k x0 x2 x9 x10 x11 x13 x14 (x15 ++ (rdOf ByteArray.empty x14 x16)) (wrap64 (x16 + 1))) else (some false)) else (emulsionlaw15_LeafTells.l0 k x0 x2 x9 x10 x11 x13 x14 (x15 ++ (rdOf ByteArray.empty x14 x16)) (wrap64 (x16 + 1)))))) else (none)) else (none)) else (if x2 ≥ 1 then (emulsionlaw15_LeafTells.j6 k x0 x2 x9 x10 x11 x13 x14 x15 0 (decide (x2 ≤ 1099511627776))) else (emulsionlaw15_LeafTells.j6 k x0 x2 x9 x10 x11 x13 x14 x15 0 false))
def emulsionlaw15_LeafTells.j6 : Nat → ByteArray → Int → ByteArray → Int → ByteArray → Int → List ByteArray → ByteArray → Int → Bool → Option (Bool)
  | 0, _, _, _, _, _, _, _, _, _, _ => none
  | k + 1, x0, x2, x9, x10, x11, x13, x14, x15, x17, x117 => if x117 = true then ((emulsionref14_Need.f x2).bind fun t160 => (if x9.toList = x11.toList then (if x10 = x13 then (if x15.toList = x0.toList then ((leaf_Need.f (x0.size : Int)).bind fun t161 => (if (x14.length : Int) = t161 then (if x2 > 1099511627776 then (some true) else ((leaf_Need.f x2).bind fun t162 => (some (t162 == t160)))) else (some false))) else (some false)) else (some false)) else (some false))) else (if x9.toList = x11.toList then (if x10 = x13 then (if x15.toList = x0.toList then ((leaf_Need.f (x0.size : Int)).bind fun t163 => (if (x14.length : Int) = t163 then (if x2 > 1099511627776 then (some true) else ((leaf_Need.f x2).bind fun t164 => (some (t164 == x17)))) else (some false))) else (some false)) else (some false)) else (some false))
end
def emulsionlaw15_LeafTells.f (k : Nat) (a0 : ByteArray) (a1 : ByteArray) (a2 : Int) : Option (Bool) := if (a0.size : Int) > 600 then (emulsionlaw15_LeafTells.j0 k a0 a1 a2 true) else (if (a1.size : Int) > 100 then (emulsionlaw15_LeafTells.j0 k a0 a1 a2 true) else ((emulsionlaw15_alive.f k).bind fun t144 => (emulsionlaw15_LeafTells.j0 k a0 a1 a2 (!t144))))
theorem emulsionlaw15_LeafTells.mono_l : ∀ k, (∀ y0 y1 y2 y3, LeO (emulsionlaw15_LeafTells.j0 k y0 y1 y2 y3) (emulsionlaw15_LeafTells.j0 (k + 1) y0 y1 y2 y3)) ∧ (∀ y0 y1 y2, LeO (emulsionlaw15_LeafTells.j1 k y0 y1 y2) (emulsionlaw15_LeafTells.j1 (k + 1) y0 y1 y2)) ∧ (∀ y0 y1 y2 y3 y4 y5 y6, LeO (emulsionlaw15_LeafTells.j2 k y0 y1 y2 y3 y4 y5 y6) (emulsionlaw15_LeafTells.j2 (k + 1) y0 y1 y2 y3 y4 y5 y6)) ∧ (∀ y0 y1 y2 y3 y4 y5 y6, LeO (emulsionlaw15_LeafTells.j3 k y0 y1 y2 y3 y4 y5 y6) (emulsionlaw15_LeafTells.j3 (k + 1) y0 y1 y2 y3 y4 y5 y6)) ∧ (∀ y0 y1 y2 y3 y4 y5, LeO (emulsionlaw15_LeafTells.j4 k y0 y1 y2 y3 y4 y5) (emulsionlaw15_LeafTells.j4 (k + 1) y0 y1 y2 y3 y4 y5)) ∧ (∀ y0 y1 y2 y3 y4 y5 y6 y7 y8, LeO (emulsionlaw15_LeafTells.l0 k y0 y1 y2 y3 y4 y5 y6 y7 y8) (emulsionlaw15_LeafTells.l0 (k + 1) y0 y1 y2 y3 y4 y5 y6 y7 y8)) ∧ (∀ y0 y1 y2 y3 y4 y5 y6 y7 y8 y9, LeO (emulsionlaw15_LeafTells.j6 k y0 y1 y2 y3 y4 y5 y6 y7 y8 y9) (emulsionlaw15_LeafTells.j6 (k + 1) y0 y1 y2 y3 y4 y5 y6 y7 y8 y9))
  | 0 => ⟨fun _ _ _ _ r h => by simp [emulsionlaw15_LeafTells.j0] at h, fun _ _ _ r h => by simp [emulsionlaw15_LeafTells.j1] at h, fun _ _ _ _ _ _ _ r h => by simp [emulsionlaw15_LeafTells.j2] at h, fun _ _ _ _ _ _ _ r h => by simp [emulsionlaw15_LeafTells.j3] at h, fun _ _ _ _ _ _ r h => by simp [emulsionlaw15_LeafTells.j4] at h, fun _ _ _ _ _ _ _ _ _ r h => by simp [emulsionlaw15_LeafTells.l0] at h, fun _ _ _ _ _ _ _ _ _ _ r h => by simp [emulsionlaw15_LeafTells.j6] at h⟩
  | k + 1 => by
    obtain ⟨ih0, ih1, ih2, ih3, ih4, ih5, ih6⟩ := emulsionlaw15_LeafTells.mono_l k
    refine ⟨?_, ?_, ?_, ?_, ?_, ?_, ?_⟩
    · intro y0 y1 y2 y3
      unfold emulsionlaw15_LeafTells.j0
      repeat' first
      | (with_reducible exact ih0 _ _ _ _)
      | (with_reducible exact ih1 _ _ _)
      | (with_reducible exact ih2 _ _ _ _ _ _ _)
      | (with_reducible exact ih3 _ _ _ _ _ _ _)
      | (with_reducible exact ih4 _ _ _ _ _ _)
      | (with_reducible exact ih5 _ _ _ _ _ _ _ _ _)
      | (with_reducible exact ih6 _ _ _ _ _ _ _ _ _ _)
      | (with_reducible exact emulsionlaw15_alive.mono _)
      | (with_reducible exact emulsionref14_Leaf.mono _ _)
      | (with_reducible exact emulsionref14_Unleaf.mono _ _)
      | (with_reducible exact leaf_Lay.mono _ _)
      | (with_reducible exact leaf_Parts.mono _ _)
      | (with_reducible exact leaf_Read.mono _ _)
      | (with_reducible exact LeO.refl _)
      | (with_reducible exact LeO.none _)
      | (with_reducible refine LeO.ite ?_ ?_)
      | (with_reducible refine LeO.bind ?_ (fun _ => ?_))
      | exact ih0 _ _ _ _
      | exact ih1 _ _ _
      | exact ih2 _ _ _ _ _ _ _
      | exact ih3 _ _ _ _ _ _ _
      | exact ih4 _ _ _ _ _ _
      | exact ih5 _ _ _ _ _ _ _ _ _
      | exact ih6 _ _ _ _ _ _ _ _ _ _
      | exact emulsionlaw15_alive.mono _
      | exact emulsionref14_Leaf.mono _ _
      | exact emulsionref14_Unleaf.mono _ _
      | exact leaf_Lay.mono _ _
      | exact leaf_Parts.mono _ _
      | exact leaf_Read.mono _ _
      | exact LeO.none _
      | refine LeO.ite ?_ ?_
      | refine LeO.bind ?_ (fun _ => ?_)
    · intro y0 y1 y2
      unfold emulsionlaw15_LeafTells.j1
      repeat' first
      | (with_reducible exact ih0 _ _ _ _)
      | (with_reducible exact ih1 _ _ _)
      | (with_reducible exact ih2 _ _ _ _ _ _ _)
      | (with_reducible exact ih3 _ _ _ _ _ _ _)
      | (with_reducible exact ih4 _ _ _ _ _ _)
      | (with_reducible exact ih5 _ _ _ _ _ _ _ _ _)
      | (with_reducible exact ih6 _ _ _ _ _ _ _ _ _ _)
      | (with_reducible exact emulsionlaw15_alive.mono _)
      | (with_reducible exact emulsionref14_Leaf.mono _ _)
      | (with_reducible exact emulsionref14_Unleaf.mono _ _)
      | (with_reducible exact leaf_Lay.mono _ _)
      | (with_reducible exact leaf_Parts.mono _ _)
      | (with_reducible exact leaf_Read.mono _ _)
      | (with_reducible exact LeO.refl _)
      | (with_reducible exact LeO.none _)
      | (with_reducible refine LeO.ite ?_ ?_)
      | (with_reducible refine LeO.bind ?_ (fun _ => ?_))
      | exact ih0 _ _ _ _
      | exact ih1 _ _ _
      | exact ih2 _ _ _ _ _ _ _
      | exact ih3 _ _ _ _ _ _ _
      | exact ih4 _ _ _ _ _ _
      | exact ih5 _ _ _ _ _ _ _ _ _
      | exact ih6 _ _ _ _ _ _ _ _ _ _
      | exact emulsionlaw15_alive.mono _
      | exact emulsionref14_Leaf.mono _ _
      | exact emulsionref14_Unleaf.mono _ _
      | exact leaf_Lay.mono _ _
      | exact leaf_Parts.mono _ _
      | exact leaf_Read.mono _ _
      | exact LeO.none _
      | refine LeO.ite ?_ ?_
      | refine LeO.bind ?_ (fun _ => ?_)
    · intro y0 y1 y2 y3 y4 y5 y6
      unfold emulsionlaw15_LeafTells.j2
      repeat' first
      | (with_reducible exact ih0 _ _ _ _)
      | (with_reducible exact ih1 _ _ _)
      | (with_reducible exact ih2 _ _ _ _ _ _ _)
      | (with_reducible exact ih3 _ _ _ _ _ _ _)
      | (with_reducible exact ih4 _ _ _ _ _ _)
      | (with_reducible exact ih5 _ _ _ _ _ _ _ _ _)
      | (with_reducible exact ih6 _ _ _ _ _ _ _ _ _ _)
      | (with_reducible exact emulsionlaw15_alive.mono _)
      | (with_reducible exact emulsionref14_Leaf.mono _ _)
      | (with_reducible exact emulsionref14_Unleaf.mono _ _)
      | (with_reducible exact leaf_Lay.mono _ _)
      | (with_reducible exact leaf_Parts.mono _ _)
      | (with_reducible exact leaf_Read.mono _ _)
      | (with_reducible exact LeO.refl _)
      | (with_reducible exact LeO.none _)
      | (with_reducible refine LeO.ite ?_ ?_)
      | (with_reducible refine LeO.bind ?_ (fun _ => ?_))
      | exact ih0 _ _ _ _
      | exact ih1 _ _ _
      | exact ih2 _ _ _ _ _ _ _
      | exact ih3 _ _ _ _ _ _ _
      | exact ih4 _ _ _ _ _ _
      | exact ih5 _ _ _ _ _ _ _ _ _
      | exact ih6 _ _ _ _ _ _ _ _ _ _
      | exact emulsionlaw15_alive.mono _
      | exact emulsionref14_Leaf.mono _ _
      | exact emulsionref14_Unleaf.mono _ _
      | exact leaf_Lay.mono _ _
      | exact leaf_Parts.mono _ _
      | exact leaf_Read.mono _ _
      | exact LeO.none _
      | refine LeO.ite ?_ ?_
      | refine LeO.bind ?_ (fun _ => ?_)
    · intro y0 y1 y2 y3 y4 y5 y6
      unfold emulsionlaw15_LeafTells.j3
      repeat' first
      | (with_reducible exact ih0 _ _ _ _)
      | (with_reducible exact ih1 _ _ _)
      | (with_reducible exact ih2 _ _ _ _ _ _ _)
      | (with_reducible exact ih3 _ _ _ _ _ _ _)
      | (with_reducible exact ih4 _ _ _ _ _ _)
      | (with_reducible exact ih5 _ _ _ _ _ _ _ _ _)
      | (with_reducible exact ih6 _ _ _ _ _ _ _ _ _ _)
      | (with_reducible exact emulsionlaw15_alive.mono _)
      | (with_reducible exact emulsionref14_Leaf.mono _ _)
      | (with_reducible exact emulsionref14_Unleaf.mono _ _)
      | (with_reducible exact leaf_Lay.mono _ _)
      | (with_reducible exact leaf_Parts.mono _ _)
      | (with_reducible exact leaf_Read.mono _ _)
      | (with_reducible exact LeO.refl _)
      | (with_reducible exact LeO.none _)
      | (with_reducible refine LeO.ite ?_ ?_)
      | (with_reducible refine LeO.bind ?_ (fun _ => ?_))
      | exact ih0 _ _ _ _
      | exact ih1 _ _ _
      | exact ih2 _ _ _ _ _ _ _
      | exact ih3 _ _ _ _ _ _ _
      | exact ih4 _ _ _ _ _ _
      | exact ih5 _ _ _ _ _ _ _ _ _
      | exact ih6 _ _ _ _ _ _ _ _ _ _
      | exact emulsionlaw15_alive.mono _
      | exact emulsionref14_Leaf.mono _ _
      | exact emulsionref14_Unleaf.mono _ _
      | exact leaf_Lay.mono _ _
      | exact leaf_Parts.mono _ _
      | exact leaf_Read.mono _ _
      | exact LeO.none _
      | refine LeO.ite ?_ ?_
      | refine LeO.bind ?_ (fun _ => ?_)
    · intro y0 y1 y2 y3 y4 y5
      unfold emulsionlaw15_LeafTells.j4
      repeat' first
      | (with_reducible exact ih0 _ _ _ _)
      | (with_reducible exact ih1 _ _ _)
      | (with_reducible exact ih2 _ _ _ _ _ _ _)
      | (with_reducible exact ih3 _ _ _ _ _ _ _)
      | (with_reducible exact ih4 _ _ _ _ _ _)
      | (with_reducible exact ih5 _ _ _ _ _ _ _ _ _)
      | (with_reducible exact ih6 _ _ _ _ _ _ _ _ _ _)
      | (with_reducible exact emulsionlaw15_alive.mono _)
      | (with_reducible exact emulsionref14_Leaf.mono _ _)
      | (with_reducible exact emulsionref14_Unleaf.mono _ _)
      | (with_reducible exact leaf_Lay.mono _ _)
      | (with_reducible exact leaf_Parts.mono _ _)
      | (with_reducible exact leaf_Read.mono _ _)
      | (with_reducible exact LeO.refl _)
      | (with_reducible exact LeO.none _)
      | (with_reducible refine LeO.ite ?_ ?_)
      | (with_reducible refine LeO.bind ?_ (fun _ => ?_))
      | exact ih0 _ _ _ _
      | exact ih1 _ _ _
      | exact ih2 _ _ _ _ _ _ _
      | exact ih3 _ _ _ _ _ _ _
      | exact ih4 _ _ _ _ _ _
      | exact ih5 _ _ _ _ _ _ _ _ _
      | exact ih6 _ _ _ _ _ _ _ _ _ _
      | exact emulsionlaw15_alive.mono _
      | exact emulsionref14_Leaf.mono _ _
      | exact emulsionref14_Unleaf.mono _ _
      | exact leaf_Lay.mono _ _
      | exact leaf_Parts.mono _ _
      | exact leaf_Read.mono _ _
      | exact LeO.none _
      | refine LeO.ite ?_ ?_
      | refine LeO.bind ?_ (fun _ => ?_)
    · intro y0 y1 y2 y3 y4 y5 y6 y7 y8
      unfold emulsionlaw15_LeafTells.l0
      repeat' first
      | (with_reducible exact ih0 _ _ _ _)
      | (with_reducible exact ih1 _ _ _)
      | (with_reducible exact ih2 _ _ _ _ _ _ _)
      | (with_reducible exact ih3 _ _ _ _ _ _ _)
      | (with_reducible exact ih4 _ _ _ _ _ _)
      | (with_reducible exact ih5 _ _ _ _ _ _ _ _ _)
      | (with_reducible exact ih6 _ _ _ _ _ _ _ _ _ _)
      | (with_reducible exact emulsionlaw15_alive.mono _)
      | (with_reducible exact emulsionref14_Leaf.mono _ _)
      | (with_reducible exact emulsionref14_Unleaf.mono _ _)
      | (with_reducible exact leaf_Lay.mono _ _)
      | (with_reducible exact leaf_Parts.mono _ _)
      | (with_reducible exact leaf_Read.mono _ _)
      | (with_reducible exact LeO.refl _)
      | (with_reducible exact LeO.none _)
      | (with_reducible refine LeO.ite ?_ ?_)
      | (with_reducible refine LeO.bind ?_ (fun _ => ?_))
      | exact ih0 _ _ _ _
      | exact ih1 _ _ _
      | exact ih2 _ _ _ _ _ _ _
      | exact ih3 _ _ _ _ _ _ _
      | exact ih4 _ _ _ _ _ _
      | exact ih5 _ _ _ _ _ _ _ _ _
      | exact ih6 _ _ _ _ _ _ _ _ _ _
      | exact emulsionlaw15_alive.mono _
      | exact emulsionref14_Leaf.mono _ _
      | exact emulsionref14_Unleaf.mono _ _
      | exact leaf_Lay.mono _ _
      | exact leaf_Parts.mono _ _
      | exact leaf_Read.mono _ _
      | exact LeO.none _
      | refine LeO.ite ?_ ?_
      | refine LeO.bind ?_ (fun _ => ?_)
    · intro y0 y1 y2 y3 y4 y5 y6 y7 y8 y9
      unfold emulsionlaw15_LeafTells.j6
      repeat' first
      | (with_reducible exact ih0 _ _ _ _)
      | (with_reducible exact ih1 _ _ _)
      | (with_reducible exact ih2 _ _ _ _ _ _ _)
      | (with_reducible exact ih3 _ _ _ _ _ _ _)
      | (with_reducible exact ih4 _ _ _ _ _ _)
      | (with_reducible exact ih5 _ _ _ _ _ _ _ _ _)
      | (with_reducible exact ih6 _ _ _ _ _ _ _ _ _ _)
      | (with_reducible exact emulsionlaw15_alive.mono _)
      | (with_reducible exact emulsionref14_Leaf.mono _ _)
      | (with_reducible exact emulsionref14_Unleaf.mono _ _)
      | (with_reducible exact leaf_Lay.mono _ _)
      | (with_reducible exact leaf_Parts.mono _ _)
      | (with_reducible exact leaf_Read.mono _ _)
      | (with_reducible exact LeO.refl _)
      | (with_reducible exact LeO.none _)
      | (with_reducible refine LeO.ite ?_ ?_)
      | (with_reducible refine LeO.bind ?_ (fun _ => ?_))
      | exact ih0 _ _ _ _
      | exact ih1 _ _ _
      | exact ih2 _ _ _ _ _ _ _
      | exact ih3 _ _ _ _ _ _ _
      | exact ih4 _ _ _ _ _ _
      | exact ih5 _ _ _ _ _ _ _ _ _
      | exact ih6 _ _ _ _ _ _ _ _ _ _
      | exact emulsionlaw15_alive.mono _
      | exact emulsionref14_Leaf.mono _ _
      | exact emulsionref14_Unleaf.mono _ _
      | exact leaf_Lay.mono _ _
      | exact leaf_Parts.mono _ _
      | exact leaf_Read.mono _ _
      | exact LeO.none _
      | refine LeO.ite ?_ ?_
      | refine LeO.bind ?_ (fun _ => ?_)
theorem emulsionlaw15_LeafTells.mono : ∀ a0 a1 a2 k, LeO (emulsionlaw15_LeafTells.f k a0 a1 a2) (emulsionlaw15_LeafTells.f (k + 1) a0 a1 a2) := by
  intro a0 a1 a2 k
  obtain ⟨ih0, ih1, ih2, ih3, ih4, ih5, ih6⟩ := emulsionlaw15_LeafTells.mono_l k
  unfold emulsionlaw15_LeafTells.f
  repeat' first
      | (with_reducible exact ih0 _ _ _ _)
      | (with_reducible exact ih1 _ _ _)
      | (with_reducible exact ih2 _ _ _ _ _ _ _)
      | (with_reducible exact ih3 _ _ _ _ _ _ _)
      | (with_reducible exact ih4 _ _ _ _ _ _)
      | (with_reducible exact ih5 _ _ _ _ _ _ _ _ _)
      | (with_reducible exact ih6 _ _ _ _ _ _ _ _ _ _)
      | (with_reducible exact emulsionlaw15_alive.mono _)
      | (with_reducible exact emulsionref14_Leaf.mono _ _)
      | (with_reducible exact emulsionref14_Unleaf.mono _ _)
      | (with_reducible exact leaf_Lay.mono _ _)
      | (with_reducible exact leaf_Parts.mono _ _)
      | (with_reducible exact leaf_Read.mono _ _)
      | (with_reducible exact LeO.refl _)
      | (with_reducible exact LeO.none _)
      | (with_reducible refine LeO.ite ?_ ?_)
      | (with_reducible refine LeO.bind ?_ (fun _ => ?_))
      | exact ih0 _ _ _ _
      | exact ih1 _ _ _
      | exact ih2 _ _ _ _ _ _ _
      | exact ih3 _ _ _ _ _ _ _
      | exact ih4 _ _ _ _ _ _
      | exact ih5 _ _ _ _ _ _ _ _ _
      | exact ih6 _ _ _ _ _ _ _ _ _ _
      | exact emulsionlaw15_alive.mono _
      | exact emulsionref14_Leaf.mono _ _
      | exact emulsionref14_Unleaf.mono _ _
      | exact leaf_Lay.mono _ _
      | exact leaf_Parts.mono _ _
      | exact leaf_Read.mono _ _
      | exact LeO.none _
      | refine LeO.ite ?_ ?_
      | refine LeO.bind ?_ (fun _ => ?_)
set_option maxHeartbeats 8000000 in
set_option maxRecDepth 100000 in
theorem emulsionlaw15_LeafTells.calls (k : Nat) (a0 : ByteArray) (a1 : ByteArray) (a2 : Int) (r : Bool) (w : World) (h : emulsionlaw15_LeafTells.f k a0 a1 a2 = some r) :
    Calls Try.prog 8 #[.string a0, .string a1, .int .i64 a2] w fun e w' => e = .returned (.bool r) ∧ Below w.heap.size w w' := by
  have HB := Aside0.mk (Below.refl w.heap.size w)
  have H : (if (a0.size : Int) > 600 then (emulsionlaw15_LeafTells.j0 k a0 a1 a2 true) else (if (a1.size : Int) > 100 then (emulsionlaw15_LeafTells.j0 k a0 a1 a2 true) else ((emulsionlaw15_alive.f k).bind fun t144 => (emulsionlaw15_LeafTells.j0 k a0 a1 a2 (!t144))))) = some r := h
  clear h
  have HC4 := Aside0.mk H
  clear H
  go_enter Try.func8, Try.ntmps8
  go_upto_region 1 with (fail)
  go_cut [29] (fun v29 wc => ∃ (kq : Nat) (x29_3 : Bool), v29 = .bool x29_3 ∧ Aside0 (emulsionlaw15_LeafTells.j0 kq a0 a1 a2 x29_3 = some r) ∧ Aside0 (kq ≤ k) ∧ Aside0 (Below w.heap.size w wc))
  case first =>
    have H := HC4.out
    clear HC4
    by_cases c5 : (a0.size : Int) > 600
    · rw [if_pos c5] at H
      have c5b0 : decide (600 < (a0.size : Int)) = true := decide_eq_true c5
      have c5b1 : decide (600 < a0.size) = true := decide_eq_true (by omega)
      clear c5
      (first | rw [c5b0] | (simp only [i64_w, i32_w]; rw [c5b0]) | skip)
      have H' := Aside0.mk H
      clear H
      go_wp2
      go_meet
      case rel => exact ⟨_, (true), (by first | rfl | (simp; done) | (simp [*]; done)), H', ⟨by first | omega | exact Nat.le_refl _⟩, ⟨by repeat (first | (with_reducible first | exact HB.out | apply below_alloc | apply pw_below_drewN | apply below_drew1) | exact HB.out)⟩⟩
    · rw [if_neg c5] at H
      have c5b0 : decide (600 < (a0.size : Int)) = false := decide_eq_false c5
      have c5b1 : decide (600 < a0.size) = false := decide_eq_false (by omega)
      clear c5
      (first | rw [c5b0] | (simp only [i64_w, i32_w]; rw [c5b0]) | skip)
      by_cases c6 : (a1.size : Int) > 100
      · rw [if_pos c6] at H
        have c6b0 : decide (100 < (a1.size : Int)) = true := decide_eq_true c6
        have c6b1 : decide (100 < a1.size) = true := decide_eq_true (by omega)
        clear c6
        have H' := Aside0.mk H
        clear H
        go_wp2
        go_meet
        case rel => exact ⟨_, (true), (by first | rfl | (simp; done) | (simp [*]; done)), H', ⟨by first | omega | exact Nat.le_refl _⟩, ⟨by repeat (first | (with_reducible first | exact HB.out | apply below_alloc | apply pw_below_drewN | apply below_drew1) | exact HB.out)⟩⟩
      · rw [if_neg c6] at H
        have c6b0 : decide (100 < (a1.size : Int)) = false := decide_eq_false c6
        have c6b1 : decide (100 < a1.size) = false := decide_eq_false (by omega)
        clear c6
        replace H := Option.bind_eq_some_iff.mp H
        obtain ⟨t144, A70, H⟩ := H
        replace H : (emulsionlaw15_LeafTells.j0 k a0 a1 a2 (!t144)) = some r := H
        have A7 := Aside0.mk A70
        clear A70
        have H' := Aside0.mk H
        clear H
        go_wp2_with (first | (go_at_call 39; (with_reducible refine (emulsionlaw15_alive.calls k  t144 _ A7.out).mono ?_); rintro e w8 ⟨rfl, hb⟩; have n0_ := Aside0.mk (below_step (by repeat (first | (with_reducible first | exact HB.out | apply below_alloc | apply pw_below_drewN | apply below_drew1) | exact HB.out)) hb); clear HB; have HB := n0_; clear n0_; (try clear hb); (try clear hb2); (try clear hk); (try clear hi)))
        go_meet
        case rel => exact ⟨_, (!t144), (by first | rfl | (simp; done) | (simp [*]; done)), H', ⟨by first | omega | exact Nat.le_refl _⟩, ⟨by repeat (first | (with_reducible first | exact HB.out | apply below_alloc | apply pw_below_drewN | apply below_drew1) | exact HB.out)⟩⟩
  case rest =>
    clear HC4
    try clear p2
    try clear c5
    try clear c5b0
    try clear c5b1
    try clear c6
    try clear c6b0
    try clear c6b1
    try clear c8
    obtain ⟨kq, x29_3, rfl, HA, HJ3, HB⟩ := hcut
    cases kq with
    | zero => exact absurd HA.out (by simp [emulsionlaw15_LeafTells.j0])
    | succ kj3 =>
      have H := HA.out
      clear HA
      simp only [emulsionlaw15_LeafTells.j0] at H
      by_cases c9 : x29_3 = true
      · subst c9
        have H1 : ((emulsionlaw15_alive.f kj3).bind fun t145 => (some t145)) = some r := by rw [if_pos rfl] at H; exact H
        clear H
        have H := H1
        clear H1
        replace H := Option.bind_eq_some_iff.mp H
        obtain ⟨t145, A100, H⟩ := H
        replace H : (some t145) = some r := H
        have A10 := Aside0.mk A100
        clear A100
        obtain rfl := Option.some.inj H
        go_wp2_with (first | ((with_reducible refine gate_callee (f := 39) rfl ?_); refine goesL_ (some 30) rfl rfl Try.func39 (by kernel_rfl) rfl #[] rfl (by (try simp only [List.map_toArray, List.map_cons, List.map_nil]); first | done | rfl | (simp only [List.length_drop, List.length_take]; rfl)) ?_; (with_reducible refine (emulsionlaw15_alive.calls kj3  t145 _ A10.out).mono ?_); rintro e w11 ⟨rfl, hb⟩; refine ⟨_, rfl, ?_⟩; have n0_ := Aside0.mk (below_step (by repeat (first | (with_reducible first | exact HB.out | apply below_alloc | apply pw_below_drewN | apply below_drew1) | exact HB.out)) hb); clear HB; have HB := n0_; clear n0_; (try clear hb); (try clear hb2); (try clear hk); (try clear hi)))
        go_ret
        exact ⟨by first | rfl | (simp [errW_none, errW_some] <;> rfl) | (simp [*, errW_none, errW_some] <;> rfl), by repeat (first | (with_reducible first | exact HB.out | apply below_alloc | apply pw_below_drewN | apply below_drew1) | exact HB.out)⟩
      · replace c9 := Bool.eq_false_iff.mpr c9
        subst c9
        have H1 : ((leaf_Lay.f kj3 a0).bind fun bt146 => (if (a0.size : Int) > 27 then (if bt146.2 = 1 then (if bt146.1.toList = ([] : List UInt8) then (emulsionlaw15_LeafTells.j1 kj3 a0 a1 a2) else (some false)) else (some false)) else (if bt146.2 = 0 then ((emulsionref14_Leaf.f kj3 a0).bind fun t148 => (if bt146.1.toList = t148.toList then (emulsionlaw15_LeafTells.j1 kj3 a0 a1 a2) else (some false))) else (some false)))) = some r := by rw [if_neg (show ¬ (false = true) by decide)] at H; exact H
        clear H
        have H := H1
        clear H1
        replace H := Option.bind_eq_some_iff.mp H
        obtain ⟨⟨t146, t147⟩, A120, H⟩ := H
        replace H : (if (a0.size : Int) > 27 then (if t147 = 1 then (if t146.toList = ([] : List UInt8) then (emulsionlaw15_LeafTells.j1 kj3 a0 a1 a2) else (some false)) else (some false)) else (if t147 = 0 then ((emulsionref14_Leaf.f kj3 a0).bind fun t148 => (if t146.toList = t148.toList then (emulsionlaw15_LeafTells.j1 kj3 a0 a1 a2) else (some false))) else (some false))) = some r := H
        have A12 := Aside0.mk A120
        clear A120
        have HC13 := Aside0.mk H
        clear H
        go_upto_if 38 with (first | ((with_reducible refine gate_callee (f := 40) rfl ?_); refine goesL_ (some 33) rfl rfl Try.func40 (by kernel_rfl) rfl #[.string a0] rfl (by (try simp only [List.map_toArray, List.map_cons, List.map_nil]); first | done | rfl | (simp only [List.length_drop, List.length_take]; rfl)) ?_; (with_reducible refine (leaf_Lay.calls kj3 a0 t146 t147 _ A12.out).mono ?_); rintro e w14 ⟨rfl, hb⟩; refine ⟨_, rfl, ?_⟩; have n0_ := Aside0.mk (below_step (by repeat (first | (with_reducible first | exact HB.out | apply below_alloc | apply pw_below_drewN | apply below_drew1) | exact HB.out)) hb); clear HB; have HB := n0_; clear n0_; (try clear hb); (try clear hb2); (try clear hk); (try clear hi)))
        (try simp only [Act.put, List.setIfInBounds_toArray, List.set_cons_zero, List.set_cons_succ])
        go_cut [] (fun wc => ∃ (kq : Nat), Aside0 (emulsionlaw15_LeafTells.j1 kq a0 a1 a2 = some r) ∧ Aside0 (kq ≤ kj3) ∧ Aside0 (Below w.heap.size w wc))
        case first =>
          have H := HC13.out
          clear HC13
          by_cases c15 : (a0.size : Int) > 27
          · rw [if_pos c15] at H
            have c15b0 : decide (27 < (a0.size : Int)) = true := decide_eq_true c15
            have c15b1 : decide (27 < a0.size) = true := decide_eq_true (by omega)
            clear c15
            (first | rw [c15b0] | (simp only [i64_w, i32_w]; rw [c15b0]) | skip)
            by_cases c16 : t147 = 1
            · rw [if_pos c16] at H
              have c16b0 : (t147 == 1) = true := beq_iff_eq.mpr c16
              have c16b1 : (t147 != 1) = false := bne_eq_false_iff_eq.mpr c16
              clear c16
              by_cases c17 : t146.toList = ([] : List UInt8)
              · rw [if_pos c17] at H
                have c17b0 : (t146.toList == ([] : List UInt8)) = true := beq_iff_eq.mpr c17
                have c17b1 : (t146.toList != ([] : List UInt8)) = false := bne_eq_false_iff_eq.mpr c17
                clear c17
                have H' := Aside0.mk H
                clear H
                go_wp2
                go_meet
                case rel => exact ⟨_, H', ⟨by have := HJ3.out; first | omega | exact Nat.le_refl _⟩, ⟨by repeat (first | (with_reducible first | exact HB.out | apply below_alloc | apply pw_below_drewN | apply below_drew1) | exact HB.out)⟩⟩
              · rw [if_neg c17] at H
                have c17b0 : (t146.toList == ([] : List UInt8)) = false := beq_eq_false_iff_ne.mpr c17
                have c17b1 : (t146.toList != ([] : List UInt8)) = true := bne_iff_ne.mpr c17
                obtain rfl := Option.some.inj H
                go_wp2
                go_ret
                exact ⟨by first | rfl | (simp [errW_none, errW_some] <;> rfl) | (simp [*, errW_none, errW_some] <;> rfl), by repeat (first | (with_reducible first | exact HB.out | apply below_alloc | apply pw_below_drewN | apply below_drew1) | exact HB.out)⟩
            · rw [if_neg c16] at H
              have c16b0 : (t147 == 1) = false := beq_eq_false_iff_ne.mpr c16
              have c16b1 : (t147 != 1) = true := bne_iff_ne.mpr c16
              obtain rfl := Option.some.inj H
              go_wp2
              go_ret
              exact ⟨by first | rfl | (simp [errW_none, errW_some] <;> rfl) | (simp [*, errW_none, errW_some] <;> rfl), by repeat (first | (with_reducible first | exact HB.out | apply below_alloc | apply pw_below_drewN | apply below_drew1) | exact HB.out)⟩
          · rw [if_neg c15] at H
            have c15b0 : decide (27 < (a0.size : Int)) = false := decide_eq_false c15
            have c15b1 : decide (27 < a0.size) = false := decide_eq_false (by omega)
            clear c15
            (first | rw [c15b0] | (simp only [i64_w, i32_w]; rw [c15b0]) | skip)
            by_cases c18 : t147 = 0
            · rw [if_pos c18] at H
              have c18b0 : (t147 == 0) = true := beq_iff_eq.mpr c18
              have c18b1 : (t147 != 0) = false := bne_eq_false_iff_eq.mpr c18
              clear c18
              replace H := Option.bind_eq_some_iff.mp H
              obtain ⟨t148, A190, H⟩ := H
              replace H : (if t146.toList = t148.toList then (emulsionlaw15_LeafTells.j1 kj3 a0 a1 a2) else (some false)) = some r := H
              have A19 := Aside0.mk A190
              clear A190
              by_cases c20 : t146.toList = t148.toList
              · rw [if_pos c20] at H
                have c20b0 : (t146.toList == t148.toList) = true := beq_iff_eq.mpr c20
                have c20b1 : (t146.toList != t148.toList) = false := bne_eq_false_iff_eq.mpr c20
                clear c20
                have H' := Aside0.mk H
                clear H
                go_wp2_with (first | (go_at_call 41; (with_reducible refine (emulsionref14_Leaf.calls kj3 a0 t148 _ A19.out).mono ?_); rintro e w21 ⟨rfl, hb⟩; have n0_ := Aside0.mk (below_step (by repeat (first | (with_reducible first | exact HB.out | apply below_alloc | apply pw_below_drewN | apply below_drew1) | exact HB.out)) hb); clear HB; have HB := n0_; clear n0_; (try clear hb); (try clear hb2); (try clear hk); (try clear hi)))
                go_meet
                case rel => exact ⟨_, H', ⟨by have := HJ3.out; first | omega | exact Nat.le_refl _⟩, ⟨by repeat (first | (with_reducible first | exact HB.out | apply below_alloc | apply pw_below_drewN | apply below_drew1) | exact HB.out)⟩⟩
              · rw [if_neg c20] at H
                have c20b0 : (t146.toList == t148.toList) = false := beq_eq_false_iff_ne.mpr c20
                have c20b1 : (t146.toList != t148.toList) = true := bne_iff_ne.mpr c20
                obtain rfl := Option.some.inj H
                go_wp2_with (first | (go_at_call 41; (with_reducible refine (emulsionref14_Leaf.calls kj3 a0 t148 _ A19.out).mono ?_); rintro e w22 ⟨rfl, hb⟩; have n0_ := Aside0.mk (below_step (by repeat (first | (with_reducible first | exact HB.out | apply below_alloc | apply pw_below_drewN | apply below_drew1) | exact HB.out)) hb); clear HB; have HB := n0_; clear n0_; (try clear hb); (try clear hb2); (try clear hk); (try clear hi)))
                go_ret
                exact ⟨by first | rfl | (simp [errW_none, errW_some] <;> rfl) | (simp [*, errW_none, errW_some] <;> rfl), by repeat (first | (with_reducible first | exact HB.out | apply below_alloc | apply pw_below_drewN | apply below_drew1) | exact HB.out)⟩
            · rw [if_neg c18] at H
              have c18b0 : (t147 == 0) = false := beq_eq_false_iff_ne.mpr c18
              have c18b1 : (t147 != 0) = true := bne_iff_ne.mpr c18
              obtain rfl := Option.some.inj H
              go_wp2
              go_ret
              exact ⟨by first | rfl | (simp [errW_none, errW_some] <;> rfl) | (simp [*, errW_none, errW_some] <;> rfl), by repeat (first | (with_reducible first | exact HB.out | apply below_alloc | apply pw_below_drewN | apply below_drew1) | exact HB.out)⟩
        case rest =>
          clear HC13
          try clear c1
          try clear c2
          try clear p2
          try clear c3
          try clear c4
          try clear c5
          try clear c5b0
          try clear c5b1
          try clear c6
          try clear c6b0
          try clear c6b1
          try clear c8
          try clear c9
          try clear c15
          try clear c15b0
          try clear c15b1
          try clear c16
          try clear c16b0
          try clear c16b1
          try clear c17
          try clear c17b0
          try clear c17b1
          try clear c18
          try clear c18b0
          try clear c18b1
          try clear c20
          try clear c20b0
          try clear c20b1
          try clear p2
          obtain ⟨kq, HA, HJ12, HB⟩ := hcut
          cases kq with
          | zero => exact absurd HA.out (by simp [emulsionlaw15_LeafTells.j1])
          | succ kj12 =>
            have H := HA.out
            clear HA
            simp only [emulsionlaw15_LeafTells.j1] at H
            replace H := Option.bind_eq_some_iff.mp H
            obtain ⟨⟨t149, t150⟩, A230, H⟩ := H
            replace H : ((emulsionref14_Unleaf.f kj12 a1).bind fun bt151 => (if bt151.2 = true then (emulsionlaw15_LeafTells.j2 kj12 a0 a1 a2 t149 t150 bt151.1 bt151.2) else (emulsionlaw15_LeafTells.j2 kj12 a0 a1 a2 t149 t150 (⟨#[]⟩ : ByteArray) bt151.2))) = some r := H
            have A23 := Aside0.mk A230
            clear A230
            replace H := Option.bind_eq_some_iff.mp H
            obtain ⟨⟨t151, t152⟩, A240, H⟩ := H
            replace H : (if t152 = true then (emulsionlaw15_LeafTells.j2 kj12 a0 a1 a2 t149 t150 t151 t152) else (emulsionlaw15_LeafTells.j2 kj12 a0 a1 a2 t149 t150 (⟨#[]⟩ : ByteArray) t152)) = some r := H
            have A24 := Aside0.mk A240
            clear A240
            have HC25 := Aside0.mk H
            clear H
            go_upto_if 64 with (first | ((with_reducible refine gate_callee (f := 42) rfl ?_); refine goesL_ (some 55) rfl rfl Try.func42 (by kernel_rfl) rfl #[.string a1] rfl (by (try simp only [List.map_toArray, List.map_cons, List.map_nil]); first | done | rfl | (simp only [List.length_drop, List.length_take]; rfl)) ?_; (with_reducible refine (leaf_Read.calls kj12 a1 t149 t150 _ A23.out).mono ?_); rintro e w26 ⟨rfl, hb⟩; refine ⟨_, rfl, ?_⟩; have n0_ := Aside0.mk (below_step (by repeat (first | (with_reducible first | exact HB.out | apply below_alloc | apply pw_below_drewN | apply below_drew1) | exact HB.out)) hb); clear HB; have HB := n0_; clear n0_; (try clear hb); (try clear hb2); (try clear hk); (try clear hi)) | ((with_reducible refine gate_callee (f := 43) rfl ?_); refine goesL_ (some 60) rfl rfl Try.func43 (by kernel_rfl) rfl #[.string a1] rfl (by (try simp only [List.map_toArray, List.map_cons, List.map_nil]); first | done | rfl | (simp only [List.length_drop, List.length_take]; rfl)) ?_; (with_reducible refine (emulsionref14_Unleaf.calls kj12 a1 t151 t152 _ A24.out).mono ?_); rintro e w27 ⟨rfl, hb⟩; refine ⟨_, rfl, ?_⟩; have n0_ := Aside0.mk (below_step (by repeat (first | (with_reducible first | exact HB.out | apply below_alloc | apply pw_below_drewN | apply below_drew1) | exact HB.out)) hb); clear HB; have HB := n0_; clear n0_; (try clear hb); (try clear hb2); (try clear hk); (try clear hi)))
            (try simp only [Act.put, List.setIfInBounds_toArray, List.set_cons_zero, List.set_cons_succ])
            go_cut [11] (fun v11 wc => ∃ (kq : Nat) (x11_24 : ByteArray), v11 = .string x11_24 ∧ Aside0 (emulsionlaw15_LeafTells.j2 kq a0 a1 a2 t149 t150 x11_24 t152 = some r) ∧ Aside0 (kq ≤ kj12) ∧ Aside0 (Below w.heap.size w wc))
            case first =>
              have H := HC25.out
              clear HC25
              by_cases c28 : t152 = true
              · subst c28
                have H1 : (emulsionlaw15_LeafTells.j2 kj12 a0 a1 a2 t149 t150 t151 true) = some r := by rw [if_pos rfl] at H; exact H
                clear H
                have H := H1
                clear H1
                have H' := Aside0.mk H
                clear H
                go_wp2
                go_meet
                case rel => exact ⟨_, (t151), (by first | rfl | (simp; done) | (simp [*]; done)), H', ⟨by have := HJ3.out; have := HJ12.out; first | omega | exact Nat.le_refl _⟩, ⟨by repeat (first | (with_reducible first | exact HB.out | apply below_alloc | apply pw_below_drewN | apply below_drew1) | exact HB.out)⟩⟩
              · replace c28 := Bool.eq_false_iff.mpr c28
                subst c28
                have H1 : (emulsionlaw15_LeafTells.j2 kj12 a0 a1 a2 t149 t150 (⟨#[]⟩ : ByteArray) false) = some r := by rw [if_neg (show ¬ (false = true) by decide)] at H; exact H
                clear H
                have H := H1
                clear H1
                have H' := Aside0.mk H
                clear H
                go_wp2
                go_meet
                case rel => exact ⟨_, ((⟨#[]⟩ : ByteArray)), (by first | rfl | (simp; done) | (simp [*]; done)), H', ⟨by have := HJ3.out; have := HJ12.out; first | omega | exact Nat.le_refl _⟩, ⟨by repeat (first | (with_reducible first | exact HB.out | apply below_alloc | apply pw_below_drewN | apply below_drew1) | exact HB.out)⟩⟩
            case rest =>
              clear HC25
              try clear c1
              try clear c2
              try clear p2
              try clear c3
              try clear c4
              try clear c5
              try clear c5b0
              try clear c5b1
              try clear c6
              try clear c6b0
              try clear c6b1
              try clear c8
              try clear c9
              try clear c15
              try clear c15b0
              try clear c15b1
              try clear c16
              try clear c16b0
              try clear c16b1
              try clear c17
              try clear c17b0
              try clear c17b1
              try clear c18
              try clear c18b0
              try clear c18b1
              try clear c20
              try clear c20b0
              try clear c20b1
              try clear c28
              try clear p2
              obtain ⟨kq, x11_24, rfl, HA, HJ24, HB⟩ := hcut
              cases kq with
              | zero => exact absurd HA.out (by simp [emulsionlaw15_LeafTells.j2])
              | succ kj24 =>
                have H := HA.out
                clear HA
                simp only [emulsionlaw15_LeafTells.j2] at H
                have HC29 := Aside0.mk H
                clear H
                go_upto_if 67 with (fail)
                go_cut [13] (fun v13 wc => ∃ (kq : Nat) (x13_28 : Int), v13 = .int .i64 x13_28 ∧ Aside0 (emulsionlaw15_LeafTells.j3 kq a0 a2 t149 t150 x11_24 t152 x13_28 = some r) ∧ Aside0 (kq ≤ kj24) ∧ Aside0 (Below w.heap.size w wc))
                case first =>
                  have H := HC29.out
                  clear HC29
                  by_cases c30 : (a1.size : Int) = 32
                  · rw [if_pos c30] at H
                    have c30b0 : ((a1.size : Int) == 32) = true := beq_iff_eq.mpr c30
                    have c30b1 : ((a1.size : Int) != 32) = false := bne_eq_false_iff_eq.mpr c30
                    clear c30
                    (first | rw [c30b0] | (simp only [i64_w, i32_w]; rw [c30b0]) | skip)
                    have H' := Aside0.mk H
                    clear H
                    go_wp2
                    go_meet
                    case rel => exact ⟨_, (6), (by first | rfl | (simp; done) | (simp [*]; done)), H', ⟨by have := HJ3.out; have := HJ12.out; have := HJ24.out; first | omega | exact Nat.le_refl _⟩, ⟨by repeat (first | (with_reducible first | exact HB.out | apply below_alloc | apply pw_below_drewN | apply below_drew1) | exact HB.out)⟩⟩
                  · rw [if_neg c30] at H
                    have c30b0 : ((a1.size : Int) == 32) = false := beq_eq_false_iff_ne.mpr c30
                    have c30b1 : ((a1.size : Int) != 32) = true := bne_iff_ne.mpr c30
                    (first | rw [c30b0] | (simp only [i64_w, i32_w]; rw [c30b0]) | skip)
                    have H' := Aside0.mk H
                    clear H
                    go_wp2
                    go_meet
                    case rel => exact ⟨_, (8), (by first | rfl | (simp; done) | (simp [*]; done)), H', ⟨by have := HJ3.out; have := HJ12.out; have := HJ24.out; first | omega | exact Nat.le_refl _⟩, ⟨by repeat (first | (with_reducible first | exact HB.out | apply below_alloc | apply pw_below_drewN | apply below_drew1) | exact HB.out)⟩⟩
                case rest =>
                  clear HC29
                  try clear c1
                  try clear c2
                  try clear p2
                  try clear c3
                  try clear c4
                  try clear c5
                  try clear c5b0
                  try clear c5b1
                  try clear c6
                  try clear c6b0
                  try clear c6b1
                  try clear c8
                  try clear c9
                  try clear c15
                  try clear c15b0
                  try clear c15b1
                  try clear c16
                  try clear c16b0
                  try clear c16b1
                  try clear c17
                  try clear c17b0
                  try clear c17b1
                  try clear c18
                  try clear c18b0
                  try clear c18b1
                  try clear c20
                  try clear c20b0
                  try clear c20b1
                  try clear c28
                  try clear c30
                  try clear c30b0
                  try clear c30b1
                  try clear p2
                  obtain ⟨kq, x13_28, rfl, HA, HJ28, HB⟩ := hcut
                  cases kq with
                  | zero => exact absurd HA.out (by simp [emulsionlaw15_LeafTells.j3])
                  | succ kj28 =>
                    have H := HA.out
                    clear HA
                    simp only [emulsionlaw15_LeafTells.j3] at H
                    have HC31 := Aside0.mk H
                    clear H
                    go_upto_if 68 with (fail)
                    go_cut [13] (fun v13 wc => ∃ (kq : Nat) (x13_30 : Int), v13 = .int .i64 x13_30 ∧ Aside0 (emulsionlaw15_LeafTells.j4 kq a0 a2 t149 t150 x11_24 x13_30 = some r) ∧ Aside0 (kq ≤ kj28) ∧ Aside0 (Below w.heap.size w wc))
                    case first =>
                      have H := HC31.out
                      clear HC31
                      by_cases c32 : t152 = true
                      · subst c32
                        have H1 : (emulsionlaw15_LeafTells.j4 kj28 a0 a2 t149 t150 x11_24 0) = some r := by rw [if_pos rfl] at H; exact H
                        clear H
                        have H := H1
                        clear H1
                        have H' := Aside0.mk H
                        clear H
                        go_wp2
                        go_meet
                        case rel => exact ⟨_, (0), (by first | rfl | (simp; done) | (simp [*]; done)), H', ⟨by have := HJ3.out; have := HJ12.out; have := HJ24.out; have := HJ28.out; first | omega | exact Nat.le_refl _⟩, ⟨by repeat (first | (with_reducible first | exact HB.out | apply below_alloc | apply pw_below_drewN | apply below_drew1) | exact HB.out)⟩⟩
                      · replace c32 := Bool.eq_false_iff.mpr c32
                        subst c32
                        have H1 : (emulsionlaw15_LeafTells.j4 kj28 a0 a2 t149 t150 x11_24 x13_28) = some r := by rw [if_neg (show ¬ (false = true) by decide)] at H; exact H
                        clear H
                        have H := H1
                        clear H1
                        have H' := Aside0.mk H
                        clear H
                        go_wp2
                        go_meet
                        case rel => exact ⟨_, (x13_28), (by first | rfl | (simp; done) | (simp [*]; done)), H', ⟨by have := HJ3.out; have := HJ12.out; have := HJ24.out; have := HJ28.out; first | omega | exact Nat.le_refl _⟩, ⟨by repeat (first | (with_reducible first | exact HB.out | apply below_alloc | apply pw_below_drewN | apply below_drew1) | exact HB.out)⟩⟩
                    case rest =>
                      clear HC31
                      try clear c1
                      try clear c2
                      try clear p2
                      try clear c3
                      try clear c4
                      try clear c5
                      try clear c5b0
                      try clear c5b1
                      try clear c6
                      try clear c6b0
                      try clear c6b1
                      try clear c8
                      try clear c9
                      try clear c15
                      try clear c15b0
                      try clear c15b1
                      try clear c16
                      try clear c16b0
                      try clear c16b1
                      try clear c17
                      try clear c17b0
                      try clear c17b1
                      try clear c18
                      try clear c18b0
                      try clear c18b1
                      try clear c20
                      try clear c20b0
                      try clear c20b1
                      try clear c28
                      try clear c30
                      try clear c30b0
                      try clear c30b1
                      try clear c32
                      try clear p2
                      obtain ⟨kq, x13_30, rfl, HA, HJ30, HB⟩ := hcut
                      cases kq with
                      | zero => exact absurd HA.out (by simp [emulsionlaw15_LeafTells.j4])
                      | succ kj30 =>
                        have H := HA.out
                        clear HA
                        simp only [emulsionlaw15_LeafTells.j4] at H
                        replace H := Option.bind_eq_some_iff.mp H
                        obtain ⟨t153, A330, H⟩ := H
                        replace H : (emulsionlaw15_LeafTells.l0 kj30 a0 a2 t149 t150 x11_24 x13_30 t153 (⟨#[]⟩ : ByteArray) 0) = some r := H
                        have A33 := Aside0.mk A330
                        clear A330
                        have H' := Aside0.mk H
                        clear H
                        go_wp2_with (first | ((with_reducible refine gate_callee (f := 44) rfl ?_); refine goesL_ (some 70) rfl rfl Try.func44 (by kernel_rfl) rfl #[.string a0] rfl (by (try simp only [List.map_toArray, List.map_cons, List.map_nil]); first | done | rfl | (simp only [List.length_drop, List.length_take]; rfl)) ?_; (with_reducible refine (leaf_Parts.calls kj30 a0 t153 _ A33.out).mono ?_); rintro e w34 ⟨v154, rfl, ho0, hb⟩; refine ⟨_, rfl, ?_⟩; have n0_ := Aside0.mk (Kd.R_lower ho0 (below_size (by repeat (first | (with_reducible first | exact HB.out | apply below_alloc | apply pw_below_drewN | apply below_drew1) | exact HB.out)))); have n1_ := Aside0.mk (below_step (by repeat (first | (with_reducible first | exact HB.out | apply below_alloc | apply pw_below_drewN | apply below_drew1) | exact HB.out)) hb); clear HB; have HO155 := n0_; have HB := n1_; clear n0_ n1_; (try clear hb); (try clear hb2); (try clear hk); (try clear hi); (try clear ho0)))
                        go_loopg [15, 16] kj30 (fun kq v15 v16 w' => ∃ (x15_6 : ByteArray) (x16_6 : Int), v15 = .string x15_6 ∧ v16 = .int .i64 x16_6 ∧ Aside0 (emulsionlaw15_LeafTells.l0 kq a0 a2 t149 t150 x11_24 x13_30 t153 x15_6 x16_6 = some r) ∧ Aside0 (kq ≤ kj30) ∧ Aside0 (Kd.R Kd.string 9 w' w.heap.size (fun _ => True) v154 t153) ∧ Aside0 (Below w.heap.size w w'))
                        case atStart => exact ⟨((⟨#[]⟩ : ByteArray)), (0), (by first | rfl | (simp; done) | (simp [*]; done)), (by first | rfl | (simp; done) | (simp [*]; done)), H', ⟨Nat.le_refl _⟩, ⟨by (with_reducible repeat (first | apply Kd.R_alloc | apply Kd.R_drewN | apply Kd.R_drew)); exact HO155.out⟩, ⟨by repeat (first | (with_reducible first | exact HB.out | apply below_alloc | apply pw_below_drewN | apply below_drew1) | exact HB.out)⟩⟩
                        case round =>
                          clear H'
                          try clear c1
                          try clear c2
                          try clear p2
                          try clear c3
                          try clear c4
                          try clear c5
                          try clear c5b0
                          try clear c5b1
                          try clear c6
                          try clear c6b0
                          try clear c6b1
                          try clear c8
                          try clear c9
                          try clear c15
                          try clear c15b0
                          try clear c15b1
                          try clear c16
                          try clear c16b0
                          try clear c16b1
                          try clear c17
                          try clear c17b0
                          try clear c17b1
                          try clear c18
                          try clear c18b0
                          try clear c18b1
                          try clear c20
                          try clear c20b0
                          try clear c20b1
                          try clear c28
                          try clear c30
                          try clear c30b0
                          try clear c30b1
                          try clear c32
                          try clear p2
                          obtain ⟨x15_6, x16_6, rfl, rfl, HA, HK6, HO_14, HB⟩ := hrel
                          cases gk with
                          | zero => exact absurd HA.out (by simp [emulsionlaw15_LeafTells.l0])
                          | succ k6 =>
                            have H := HA.out
                            clear HA
                            simp only [emulsionlaw15_LeafTells.l0] at H
                            by_cases c35 : x16_6 < (t153.length : Int)
                            · rw [if_pos c35] at H
                              have c35b0 : decide (x16_6 < (t153.length : Int)) = true := decide_eq_true c35
                              clear c35
                              by_cases c36 : 0 ≤ x16_6
                              · rw [if_pos c36] at H
                                have c36b0 : decide (0 ≤ x16_6) = true := decide_eq_true c36
                                clear c36
                                by_cases c37 : x15_6.size + (rdOf ByteArray.empty t153 x16_6).size ≤ 9223372036854775807
                                · rw [if_pos c37] at H
                                  have c37b0 := eq_true c37
                                  have c37b1 : decide (x15_6.size + (rdOf ByteArray.empty t153 x16_6).size ≤ 9223372036854775807) = true := decide_eq_true c37
                                  try have c37b2 : (9223372036854775807 < x15_6.size + (rdOf ByteArray.empty t153 x16_6).size) = False := eq_false (Nat.not_lt.2 c37)
                                  by_cases c38 : ((rdOf ByteArray.empty t153 x16_6).size : Int) < 1
                                  · rw [if_pos c38] at H
                                    have c38b0 : decide (((rdOf ByteArray.empty t153 x16_6).size : Int) < 1) = true := decide_eq_true c38
                                    have c38b1 : decide ((rdOf ByteArray.empty t153 x16_6).size < 1) = true := decide_eq_true (by omega)
                                    clear c38
                                    obtain rfl := Option.some.inj H
                                    obtain ⟨Ao39, co39, eo39⟩ := Kd.R_slice HO_14.out
                                    subst eo39
                                    have p156 : 0 ≤ (x16_6 : Int) := of_decide_eq_true (by first | (with_reducible assumption) | assumption)
                                    have q156 : x16_6 < (t153.length : Int) := of_decide_eq_true (by first | (with_reducible assumption) | assumption)
                                    obtain ⟨ad156, e156, hx156_0⟩ := Kd.at_string (Kd.R_reads' HO_14.out).2.2 x16_6 p156 q156
                                    cases e156
                                    replace p156 := eq_true p156
                                    replace q156 := eq_true q156
                                    have p157 : 0 ≤ (x16_6 : Int) := of_decide_eq_true (by first | (with_reducible assumption) | assumption)
                                    have q157 : x16_6 < (t153.length : Int) := of_decide_eq_true (by first | (with_reducible assumption) | assumption)
                                    obtain ⟨ad157, e157, hx157_0⟩ := Kd.at_string (Kd.R_reads' HO_14.out).2.2 x16_6 p157 q157
                                    obtain rfl : ad156 = ad157 := (by injection e157)
                                    replace p157 := eq_true p157
                                    replace q157 := eq_true q157
                                    go_wp2
                                    go_ret
                                    exact ⟨by first | rfl | (simp [errW_none, errW_some] <;> rfl) | (simp [*, errW_none, errW_some] <;> rfl), by repeat (first | (with_reducible first | exact HB.out | apply below_alloc | apply pw_below_drewN | apply below_drew1) | exact HB.out)⟩
                                  · rw [if_neg c38] at H
                                    have c38b0 : decide (((rdOf ByteArray.empty t153 x16_6).size : Int) < 1) = false := decide_eq_false c38
                                    have c38b1 : decide ((rdOf ByteArray.empty t153 x16_6).size < 1) = false := decide_eq_false (by omega)
                                    clear c38
                                    by_cases c40 : ((rdOf ByteArray.empty t153 x16_6).size : Int) > 27
                                    · rw [if_pos c40] at H
                                      have c40b0 : decide (27 < ((rdOf ByteArray.empty t153 x16_6).size : Int)) = true := decide_eq_true c40
                                      have c40b1 : decide (27 < (rdOf ByteArray.empty t153 x16_6).size) = true := decide_eq_true (by omega)
                                      clear c40
                                      obtain rfl := Option.some.inj H
                                      obtain ⟨Ao41, co41, eo41⟩ := Kd.R_slice HO_14.out
                                      subst eo41
                                      have p156 : 0 ≤ (x16_6 : Int) := of_decide_eq_true (by first | (with_reducible assumption) | assumption)
                                      have q156 : x16_6 < (t153.length : Int) := of_decide_eq_true (by first | (with_reducible assumption) | assumption)
                                      obtain ⟨ad156, e156, hx156_0⟩ := Kd.at_string (Kd.R_reads' HO_14.out).2.2 x16_6 p156 q156
                                      cases e156
                                      replace p156 := eq_true p156
                                      replace q156 := eq_true q156
                                      have p157 : 0 ≤ (x16_6 : Int) := of_decide_eq_true (by first | (with_reducible assumption) | assumption)
                                      have q157 : x16_6 < (t153.length : Int) := of_decide_eq_true (by first | (with_reducible assumption) | assumption)
                                      obtain ⟨ad157, e157, hx157_0⟩ := Kd.at_string (Kd.R_reads' HO_14.out).2.2 x16_6 p157 q157
                                      obtain rfl : ad156 = ad157 := (by injection e157)
                                      replace p157 := eq_true p157
                                      replace q157 := eq_true q157
                                      have p158 : 0 ≤ (x16_6 : Int) := of_decide_eq_true (by first | (with_reducible assumption) | assumption)
                                      have q158 : x16_6 < (t153.length : Int) := of_decide_eq_true (by first | (with_reducible assumption) | assumption)
                                      obtain ⟨ad158, e158, hx158_0⟩ := Kd.at_string (Kd.R_reads' HO_14.out).2.2 x16_6 p158 q158
                                      obtain rfl : ad156 = ad158 := (by injection e158)
                                      replace p158 := eq_true p158
                                      replace q158 := eq_true q158
                                      go_wp2
                                      go_ret
                                      exact ⟨by first | rfl | (simp [errW_none, errW_some] <;> rfl) | (simp [*, errW_none, errW_some] <;> rfl), by repeat (first | (with_reducible first | exact HB.out | apply below_alloc | apply pw_below_drewN | apply below_drew1) | exact HB.out)⟩
                                    · rw [if_neg c40] at H
                                      have c40b0 : decide (27 < ((rdOf ByteArray.empty t153 x16_6).size : Int)) = false := decide_eq_false c40
                                      have c40b1 : decide (27 < (rdOf ByteArray.empty t153 x16_6).size) = false := decide_eq_false (by omega)
                                      clear c40
                                      by_cases c42 : (wrap64 (x16_6 + 1)) < (t153.length : Int)
                                      · rw [if_pos c42] at H
                                        have c42b0 : decide ((wrap64 (x16_6 + 1)) < (t153.length : Int)) = true := decide_eq_true c42
                                        clear c42
                                        by_cases c43 : ((rdOf ByteArray.empty t153 x16_6).size : Int) = 27
                                        · rw [if_pos c43] at H
                                          have c43b0 : (((rdOf ByteArray.empty t153 x16_6).size : Int) == 27) = true := beq_iff_eq.mpr c43
                                          have c43b1 : (((rdOf ByteArray.empty t153 x16_6).size : Int) != 27) = false := bne_eq_false_iff_eq.mpr c43
                                          clear c43
                                          have H' := Aside0.mk H
                                          clear H
                                          obtain ⟨Ao44, co44, eo44⟩ := Kd.R_slice HO_14.out
                                          subst eo44
                                          have p156 : 0 ≤ (x16_6 : Int) := of_decide_eq_true (by first | (with_reducible assumption) | assumption)
                                          have q156 : x16_6 < (t153.length : Int) := of_decide_eq_true (by first | (with_reducible assumption) | assumption)
                                          obtain ⟨ad156, e156, hx156_0⟩ := Kd.at_string (Kd.R_reads' HO_14.out).2.2 x16_6 p156 q156
                                          cases e156
                                          replace p156 := eq_true p156
                                          replace q156 := eq_true q156
                                          have p157 : 0 ≤ (x16_6 : Int) := of_decide_eq_true (by first | (with_reducible assumption) | assumption)
                                          have q157 : x16_6 < (t153.length : Int) := of_decide_eq_true (by first | (with_reducible assumption) | assumption)
                                          obtain ⟨ad157, e157, hx157_0⟩ := Kd.at_string (Kd.R_reads' HO_14.out).2.2 x16_6 p157 q157
                                          obtain rfl : ad156 = ad157 := (by injection e157)
                                          replace p157 := eq_true p157
                                          replace q157 := eq_true q157
                                          have p158 : 0 ≤ (x16_6 : Int) := of_decide_eq_true (by first | (with_reducible assumption) | assumption)
                                          have q158 : x16_6 < (t153.length : Int) := of_decide_eq_true (by first | (with_reducible assumption) | assumption)
                                          obtain ⟨ad158, e158, hx158_0⟩ := Kd.at_string (Kd.R_reads' HO_14.out).2.2 x16_6 p158 q158
                                          obtain rfl : ad156 = ad158 := (by injection e158)
                                          replace p158 := eq_true p158
                                          replace q158 := eq_true q158
                                          have p159 : 0 ≤ (x16_6 : Int) := of_decide_eq_true (by first | (with_reducible assumption) | assumption)
                                          have q159 : x16_6 < (t153.length : Int) := of_decide_eq_true (by first | (with_reducible assumption) | assumption)
                                          obtain ⟨ad159, e159, hx159_0⟩ := Kd.at_string (Kd.R_reads' HO_14.out).2.2 x16_6 p159 q159
                                          obtain rfl : ad156 = ad159 := (by injection e159)
                                          replace p159 := eq_true p159
                                          replace q159 := eq_true q159
                                          go_wp2
                                          go_roundg k6
                                          case measure => have := HJ3.out; have := HJ12.out; have := HJ24.out; have := HJ28.out; have := HJ30.out; have := HK6.out; omega
                                          case rel => exact ⟨(x15_6 ++ (rdOf ByteArray.empty t153 x16_6)), (wrap64 (x16_6 + 1)), (by first | rfl | (simp; done) | (simp [*]; done)), (by first | rfl | (simp; done) | (simp [*]; done)), H', ⟨by have := HJ3.out; have := HJ12.out; have := HJ24.out; have := HJ28.out; have := HJ30.out; have := HK6.out; omega⟩, ⟨by (with_reducible repeat (first | apply Kd.R_alloc | apply Kd.R_drewN | apply Kd.R_drew)); exact HO_14.out⟩, ⟨by repeat (first | (with_reducible first | exact HB.out | apply below_alloc | apply pw_below_drewN | apply below_drew1) | exact HB.out)⟩⟩
                                        · rw [if_neg c43] at H
                                          have c43b0 : (((rdOf ByteArray.empty t153 x16_6).size : Int) == 27) = false := beq_eq_false_iff_ne.mpr c43
                                          have c43b1 : (((rdOf ByteArray.empty t153 x16_6).size : Int) != 27) = true := bne_iff_ne.mpr c43
                                          obtain rfl := Option.some.inj H
                                          obtain ⟨Ao45, co45, eo45⟩ := Kd.R_slice HO_14.out
                                          subst eo45
                                          have p156 : 0 ≤ (x16_6 : Int) := of_decide_eq_true (by first | (with_reducible assumption) | assumption)
                                          have q156 : x16_6 < (t153.length : Int) := of_decide_eq_true (by first | (with_reducible assumption) | assumption)
                                          obtain ⟨ad156, e156, hx156_0⟩ := Kd.at_string (Kd.R_reads' HO_14.out).2.2 x16_6 p156 q156
                                          cases e156
                                          replace p156 := eq_true p156
                                          replace q156 := eq_true q156
                                          have p157 : 0 ≤ (x16_6 : Int) := of_decide_eq_true (by first | (with_reducible assumption) | assumption)
                                          have q157 : x16_6 < (t153.length : Int) := of_decide_eq_true (by first | (with_reducible assumption) | assumption)
                                          obtain ⟨ad157, e157, hx157_0⟩ := Kd.at_string (Kd.R_reads' HO_14.out).2.2 x16_6 p157 q157
                                          obtain rfl : ad156 = ad157 := (by injection e157)
                                          replace p157 := eq_true p157
                                          replace q157 := eq_true q157
                                          have p158 : 0 ≤ (x16_6 : Int) := of_decide_eq_true (by first | (with_reducible assumption) | assumption)
                                          have q158 : x16_6 < (t153.length : Int) := of_decide_eq_true (by first | (with_reducible assumption) | assumption)
                                          obtain ⟨ad158, e158, hx158_0⟩ := Kd.at_string (Kd.R_reads' HO_14.out).2.2 x16_6 p158 q158
                                          obtain rfl : ad156 = ad158 := (by injection e158)
                                          replace p158 := eq_true p158
                                          replace q158 := eq_true q158
                                          have p159 : 0 ≤ (x16_6 : Int) := of_decide_eq_true (by first | (with_reducible assumption) | assumption)
                                          have q159 : x16_6 < (t153.length : Int) := of_decide_eq_true (by first | (with_reducible assumption) | assumption)
                                          obtain ⟨ad159, e159, hx159_0⟩ := Kd.at_string (Kd.R_reads' HO_14.out).2.2 x16_6 p159 q159
                                          obtain rfl : ad156 = ad159 := (by injection e159)
                                          replace p159 := eq_true p159
                                          replace q159 := eq_true q159
                                          go_wp2
                                          go_ret
                                          exact ⟨by first | rfl | (simp [errW_none, errW_some] <;> rfl) | (simp [*, errW_none, errW_some] <;> rfl), by repeat (first | (with_reducible first | exact HB.out | apply below_alloc | apply pw_below_drewN | apply below_drew1) | exact HB.out)⟩
                                      · rw [if_neg c42] at H
                                        have c42b0 : decide ((wrap64 (x16_6 + 1)) < (t153.length : Int)) = false := decide_eq_false c42
                                        clear c42
                                        have H' := Aside0.mk H
                                        clear H
                                        obtain ⟨Ao46, co46, eo46⟩ := Kd.R_slice HO_14.out
                                        subst eo46
                                        have p156 : 0 ≤ (x16_6 : Int) := of_decide_eq_true (by first | (with_reducible assumption) | assumption)
                                        have q156 : x16_6 < (t153.length : Int) := of_decide_eq_true (by first | (with_reducible assumption) | assumption)
                                        obtain ⟨ad156, e156, hx156_0⟩ := Kd.at_string (Kd.R_reads' HO_14.out).2.2 x16_6 p156 q156
                                        cases e156
                                        replace p156 := eq_true p156
                                        replace q156 := eq_true q156
                                        have p157 : 0 ≤ (x16_6 : Int) := of_decide_eq_true (by first | (with_reducible assumption) | assumption)
                                        have q157 : x16_6 < (t153.length : Int) := of_decide_eq_true (by first | (with_reducible assumption) | assumption)
                                        obtain ⟨ad157, e157, hx157_0⟩ := Kd.at_string (Kd.R_reads' HO_14.out).2.2 x16_6 p157 q157
                                        obtain rfl : ad156 = ad157 := (by injection e157)
                                        replace p157 := eq_true p157
                                        replace q157 := eq_true q157
                                        have p158 : 0 ≤ (x16_6 : Int) := of_decide_eq_true (by first | (with_reducible assumption) | assumption)
                                        have q158 : x16_6 < (t153.length : Int) := of_decide_eq_true (by first | (with_reducible assumption) | assumption)
                                        obtain ⟨ad158, e158, hx158_0⟩ := Kd.at_string (Kd.R_reads' HO_14.out).2.2 x16_6 p158 q158
                                        obtain rfl : ad156 = ad158 := (by injection e158)
                                        replace p158 := eq_true p158
                                        replace q158 := eq_true q158
                                        go_wp2
                                        go_roundg k6
                                        case measure => have := HJ3.out; have := HJ12.out; have := HJ24.out; have := HJ28.out; have := HJ30.out; have := HK6.out; omega
                                        case rel => exact ⟨(x15_6 ++ (rdOf ByteArray.empty t153 x16_6)), (wrap64 (x16_6 + 1)), (by first | rfl | (simp; done) | (simp [*]; done)), (by first | rfl | (simp; done) | (simp [*]; done)), H', ⟨by have := HJ3.out; have := HJ12.out; have := HJ24.out; have := HJ28.out; have := HJ30.out; have := HK6.out; omega⟩, ⟨by (with_reducible repeat (first | apply Kd.R_alloc | apply Kd.R_drewN | apply Kd.R_drew)); exact HO_14.out⟩, ⟨by repeat (first | (with_reducible first | exact HB.out | apply below_alloc | apply pw_below_drewN | apply below_drew1) | exact HB.out)⟩⟩
                                · rw [if_neg c37] at H
                                  exact absurd H (by simp)
                              · rw [if_neg c36] at H
                                exact absurd H (by simp)
                            · rw [if_neg c35] at H
                              have c35b0 : decide (x16_6 < (t153.length : Int)) = false := decide_eq_false c35
                              clear c35
                              have HC47 := Aside0.mk H
                              clear H
                              obtain ⟨Ao48, co48, eo48⟩ := Kd.R_slice HO_14.out
                              subst eo48
                              go_upto_region 27 with (fail)
                              go_cut [117] (fun v117 wc => ∃ (kq : Nat) (x117_46 : Bool), v117 = .bool x117_46 ∧ Aside0 (emulsionlaw15_LeafTells.j6 kq a0 a2 t149 t150 x11_24 x13_30 t153 x15_6 0 x117_46 = some r) ∧ Aside0 (kq ≤ k6) ∧ Aside0 (Kd.R Kd.string 9 wc w.heap.size (fun _ => True) (.slice Ao48 t153.length co48) t153) ∧ Aside0 (Below w.heap.size w wc))
                              case first =>
                                have H := HC47.out
                                clear HC47
                                by_cases c49 : a2 ≥ 1
                                · rw [if_pos c49] at H
                                  have c49b0 : decide (1 ≤ a2) = true := decide_eq_true c49
                                  clear c49
                                  (first | rw [c49b0] | (simp only [i64_w, i32_w]; rw [c49b0]) | skip)
                                  have H' := Aside0.mk H
                                  clear H
                                  go_wp2
                                  go_meet
                                  case rel => exact ⟨_, (decide (a2 ≤ 1099511627776)), (by first | rfl | (simp; done) | (simp [*]; done)), H', ⟨by have := HJ3.out; have := HJ12.out; have := HJ24.out; have := HJ28.out; have := HJ30.out; have := HK6.out; first | omega | exact Nat.le_refl _⟩, ⟨by (with_reducible repeat (first | apply Kd.R_alloc | apply Kd.R_drewN | apply Kd.R_drew)); exact HO_14.out⟩, ⟨by repeat (first | (with_reducible first | exact HB.out | apply below_alloc | apply pw_below_drewN | apply below_drew1) | exact HB.out)⟩⟩
                                · rw [if_neg c49] at H
                                  have c49b0 : decide (1 ≤ a2) = false := decide_eq_false c49
                                  clear c49
                                  (first | rw [c49b0] | (simp only [i64_w, i32_w]; rw [c49b0]) | skip)
                                  have H' := Aside0.mk H
                                  clear H
                                  go_wp2
                                  go_meet
                                  case rel => exact ⟨_, (false), (by first | rfl | (simp; done) | (simp [*]; done)), H', ⟨by have := HJ3.out; have := HJ12.out; have := HJ24.out; have := HJ28.out; have := HJ30.out; have := HK6.out; first | omega | exact Nat.le_refl _⟩, ⟨by (with_reducible repeat (first | apply Kd.R_alloc | apply Kd.R_drewN | apply Kd.R_drew)); exact HO_14.out⟩, ⟨by repeat (first | (with_reducible first | exact HB.out | apply below_alloc | apply pw_below_drewN | apply below_drew1) | exact HB.out)⟩⟩
                              case rest =>
                                clear HC47
                                try clear c1
                                try clear p1
                                try clear q1
                                try clear hx1
                                try clear c2
                                try clear p2
                                try clear c3
                                try clear c4
                                try clear c5
                                try clear c5b0
                                try clear c5b1
                                try clear c6
                                try clear c6b0
                                try clear c6b1
                                try clear p6
                                try clear c8
                                try clear c9
                                try clear c15
                                try clear c15b0
                                try clear c15b1
                                try clear p15
                                try clear q15
                                try clear hx15
                                try clear c16
                                try clear c16b0
                                try clear c16b1
                                try clear c17
                                try clear c17b0
                                try clear c17b1
                                try clear c18
                                try clear c18b0
                                try clear c18b1
                                try clear c20
                                try clear c20b0
                                try clear c20b1
                                try clear c28
                                try clear c30
                                try clear c30b0
                                try clear c30b1
                                try clear c32
                                try clear c35
                                try clear c35b0
                                try clear c36
                                try clear c36b0
                                try clear c37
                                try clear c37b0
                                try clear c37b1
                                try clear c37b2
                                try clear c38
                                try clear c38b0
                                try clear c38b1
                                try clear c40
                                try clear c40b0
                                try clear c40b1
                                try clear c42
                                try clear c42b0
                                try clear c43
                                try clear c43b0
                                try clear c43b1
                                try clear c44
                                try clear c49
                                try clear c49b0
                                try clear hx156_0
                                try clear hx157_0
                                try clear hx158_0
                                try clear hx159_0
                                try clear p156
                                try clear p157
                                try clear p158
                                try clear p159
                                try clear p2
                                try clear q156
                                try clear q157
                                try clear q158
                                try clear q159
                                obtain ⟨kq, x117_46, rfl, HA, HJ46, HO_14, HB⟩ := hcut
                                cases kq with
                                | zero => exact absurd HA.out (by simp [emulsionlaw15_LeafTells.j6])
                                | succ kj46 =>
                                  have H := HA.out
                                  clear HA
                                  simp only [emulsionlaw15_LeafTells.j6] at H
                                  by_cases c50 : x117_46 = true
                                  · subst c50
                                    have H1 : ((emulsionref14_Need.f a2).bind fun t160 => (if t149.toList = x11_24.toList then (if t150 = x13_30 then (if x15_6.toList = a0.toList then ((leaf_Need.f (a0.size : Int)).bind fun t161 => (if (t153.length : Int) = t161 then (if a2 > 1099511627776 then (some true) else ((leaf_Need.f a2).bind fun t162 => (some (t162 == t160)))) else (some false))) else (some false)) else (some false)) else (some false))) = some r := by rw [if_pos rfl] at H; exact H
                                    clear H
                                    have H := H1
                                    clear H1
                                    replace H := Option.bind_eq_some_iff.mp H
                                    obtain ⟨t160, A510, H⟩ := H
                                    replace H : (if t149.toList = x11_24.toList then (if t150 = x13_30 then (if x15_6.toList = a0.toList then ((leaf_Need.f (a0.size : Int)).bind fun t161 => (if (t153.length : Int) = t161 then (if a2 > 1099511627776 then (some true) else ((leaf_Need.f a2).bind fun t162 => (some (t162 == t160)))) else (some false))) else (some false)) else (some false)) else (some false)) = some r := H
                                    have A51 := Aside0.mk A510
                                    clear A510
                                    by_cases c52 : t149.toList = x11_24.toList
                                    · rw [if_pos c52] at H
                                      have c52b0 : (t149.toList == x11_24.toList) = true := beq_iff_eq.mpr c52
                                      have c52b1 : (t149.toList != x11_24.toList) = false := bne_eq_false_iff_eq.mpr c52
                                      clear c52
                                      by_cases c53 : t150 = x13_30
                                      · rw [if_pos c53] at H
                                        have c53b0 : (t150 == x13_30) = true := beq_iff_eq.mpr c53
                                        have c53b1 : (t150 != x13_30) = false := bne_eq_false_iff_eq.mpr c53
                                        clear c53
                                        by_cases c54 : x15_6.toList = a0.toList
                                        · rw [if_pos c54] at H
                                          have c54b0 : (x15_6.toList == a0.toList) = true := beq_iff_eq.mpr c54
                                          have c54b1 : (x15_6.toList != a0.toList) = false := bne_eq_false_iff_eq.mpr c54
                                          clear c54
                                          replace H := Option.bind_eq_some_iff.mp H
                                          obtain ⟨t161, A550, H⟩ := H
                                          replace H : (if (t153.length : Int) = t161 then (if a2 > 1099511627776 then (some true) else ((leaf_Need.f a2).bind fun t162 => (some (t162 == t160)))) else (some false)) = some r := H
                                          have A55 := Aside0.mk A550
                                          clear A550
                                          by_cases c56 : (t153.length : Int) = t161
                                          · rw [if_pos c56] at H
                                            have c56b0 : ((t153.length : Int) == t161) = true := beq_iff_eq.mpr c56
                                            have c56b1 : ((t153.length : Int) != t161) = false := bne_eq_false_iff_eq.mpr c56
                                            clear c56
                                            by_cases c57 : a2 > 1099511627776
                                            · rw [if_pos c57] at H
                                              have c57b0 : decide (1099511627776 < a2) = true := decide_eq_true c57
                                              clear c57
                                              obtain rfl := Option.some.inj H
                                              go_wp2_with (first | ((with_reducible refine gate_callee (f := 45) rfl ?_); refine goesL_ (some 119) rfl rfl Try.func45 (by kernel_rfl) rfl #[.int .i64 a2] rfl (by (try simp only [List.map_toArray, List.map_cons, List.map_nil]); first | done | rfl | (simp only [List.length_drop, List.length_take]; rfl)) ?_; (with_reducible refine (emulsionref14_Need.calls a2 t160 _ A51.out).mono ?_); rintro e w58 ⟨rfl, hb⟩; refine ⟨_, rfl, ?_⟩; have n0_ := Aside0.mk (Kd.R_below (by (with_reducible repeat (first | apply Kd.R_alloc | apply Kd.R_drewN | apply Kd.R_drew)); exact HO_14.out) hb); have n1_ := Aside0.mk (below_step (by repeat (first | (with_reducible first | exact HB.out | apply below_alloc | apply pw_below_drewN | apply below_drew1) | exact HB.out)) hb); clear HO_14; clear HB; have HO_14 := n0_; have HB := n1_; clear n0_ n1_; (try clear hb); (try clear hb2); (try clear hk); (try clear hi)) | (go_at_call 46; (with_reducible refine (leaf_Need.calls (a0.size : Int) t161 _ A55.out).mono ?_); rintro e w' ⟨rfl, ⟨nd, rfl⟩⟩))
                                              go_ret
                                              exact ⟨by first | rfl | (simp [errW_none, errW_some] <;> rfl) | (simp [*, errW_none, errW_some] <;> rfl), by repeat (first | (with_reducible first | exact HB.out | apply below_alloc | apply pw_below_drewN | apply below_drew1) | exact HB.out)⟩
                                            · rw [if_neg c57] at H
                                              have c57b0 : decide (1099511627776 < a2) = false := decide_eq_false c57
                                              clear c57
                                              replace H := Option.bind_eq_some_iff.mp H
                                              obtain ⟨t162, A590, H⟩ := H
                                              replace H : (some (t162 == t160)) = some r := H
                                              have A59 := Aside0.mk A590
                                              clear A590
                                              obtain rfl := Option.some.inj H
                                              go_wp2_with (first | ((with_reducible refine gate_callee (f := 45) rfl ?_); refine goesL_ (some 119) rfl rfl Try.func45 (by kernel_rfl) rfl #[.int .i64 a2] rfl (by (try simp only [List.map_toArray, List.map_cons, List.map_nil]); first | done | rfl | (simp only [List.length_drop, List.length_take]; rfl)) ?_; (with_reducible refine (emulsionref14_Need.calls a2 t160 _ A51.out).mono ?_); rintro e w60 ⟨rfl, hb⟩; refine ⟨_, rfl, ?_⟩; have n0_ := Aside0.mk (Kd.R_below (by (with_reducible repeat (first | apply Kd.R_alloc | apply Kd.R_drewN | apply Kd.R_drew)); exact HO_14.out) hb); have n1_ := Aside0.mk (below_step (by repeat (first | (with_reducible first | exact HB.out | apply below_alloc | apply pw_below_drewN | apply below_drew1) | exact HB.out)) hb); clear HO_14; clear HB; have HO_14 := n0_; have HB := n1_; clear n0_ n1_; (try clear hb); (try clear hb2); (try clear hk); (try clear hi)) | (go_at_call 46; (with_reducible refine (leaf_Need.calls (a0.size : Int) t161 _ A55.out).mono ?_); rintro e w' ⟨rfl, ⟨nd, rfl⟩⟩) | (go_at_call 46; (with_reducible refine (leaf_Need.calls a2 t162 _ A59.out).mono ?_); rintro e w' ⟨rfl, ⟨nd, rfl⟩⟩))
                                              go_ret
                                              exact ⟨by first | rfl | (simp [errW_none, errW_some] <;> rfl) | (simp [*, errW_none, errW_some] <;> rfl), by repeat (first | (with_reducible first | exact HB.out | apply below_alloc | apply pw_below_drewN | apply below_drew1) | exact HB.out)⟩
                                          · rw [if_neg c56] at H
                                            have c56b0 : ((t153.length : Int) == t161) = false := beq_eq_false_iff_ne.mpr c56
                                            have c56b1 : ((t153.length : Int) != t161) = true := bne_iff_ne.mpr c56
                                            obtain rfl := Option.some.inj H
                                            go_wp2_with (first | ((with_reducible refine gate_callee (f := 45) rfl ?_); refine goesL_ (some 119) rfl rfl Try.func45 (by kernel_rfl) rfl #[.int .i64 a2] rfl (by (try simp only [List.map_toArray, List.map_cons, List.map_nil]); first | done | rfl | (simp only [List.length_drop, List.length_take]; rfl)) ?_; (with_reducible refine (emulsionref14_Need.calls a2 t160 _ A51.out).mono ?_); rintro e w61 ⟨rfl, hb⟩; refine ⟨_, rfl, ?_⟩; have n0_ := Aside0.mk (Kd.R_below (by (with_reducible repeat (first | apply Kd.R_alloc | apply Kd.R_drewN | apply Kd.R_drew)); exact HO_14.out) hb); have n1_ := Aside0.mk (below_step (by repeat (first | (with_reducible first | exact HB.out | apply below_alloc | apply pw_below_drewN | apply below_drew1) | exact HB.out)) hb); clear HO_14; clear HB; have HO_14 := n0_; have HB := n1_; clear n0_ n1_; (try clear hb); (try clear hb2); (try clear hk); (try clear hi)) | (go_at_call 46; (with_reducible refine (leaf_Need.calls (a0.size : Int) t161 _ A55.out).mono ?_); rintro e w' ⟨rfl, ⟨nd, rfl⟩⟩))
                                            go_ret
                                            exact ⟨by first | rfl | (simp [errW_none, errW_some] <;> rfl) | (simp [*, errW_none, errW_some] <;> rfl), by repeat (first | (with_reducible first | exact HB.out | apply below_alloc | apply pw_below_drewN | apply below_drew1) | exact HB.out)⟩
                                        · rw [if_neg c54] at H
                                          have c54b0 : (x15_6.toList == a0.toList) = false := beq_eq_false_iff_ne.mpr c54
                                          have c54b1 : (x15_6.toList != a0.toList) = true := bne_iff_ne.mpr c54
                                          obtain rfl := Option.some.inj H
                                          go_wp2_with (first | ((with_reducible refine gate_callee (f := 45) rfl ?_); refine goesL_ (some 119) rfl rfl Try.func45 (by kernel_rfl) rfl #[.int .i64 a2] rfl (by (try simp only [List.map_toArray, List.map_cons, List.map_nil]); first | done | rfl | (simp only [List.length_drop, List.length_take]; rfl)) ?_; (with_reducible refine (emulsionref14_Need.calls a2 t160 _ A51.out).mono ?_); rintro e w62 ⟨rfl, hb⟩; refine ⟨_, rfl, ?_⟩; have n0_ := Aside0.mk (Kd.R_below (by (with_reducible repeat (first | apply Kd.R_alloc | apply Kd.R_drewN | apply Kd.R_drew)); exact HO_14.out) hb); have n1_ := Aside0.mk (below_step (by repeat (first | (with_reducible first | exact HB.out | apply below_alloc | apply pw_below_drewN | apply below_drew1) | exact HB.out)) hb); clear HO_14; clear HB; have HO_14 := n0_; have HB := n1_; clear n0_ n1_; (try clear hb); (try clear hb2); (try clear hk); (try clear hi)))
                                          go_ret
                                          exact ⟨by first | rfl | (simp [errW_none, errW_some] <;> rfl) | (simp [*, errW_none, errW_some] <;> rfl), by repeat (first | (with_reducible first | exact HB.out | apply below_alloc | apply pw_below_drewN | apply below_drew1) | exact HB.out)⟩
                                      · rw [if_neg c53] at H
                                        have c53b0 : (t150 == x13_30) = false := beq_eq_false_iff_ne.mpr c53
                                        have c53b1 : (t150 != x13_30) = true := bne_iff_ne.mpr c53
                                        obtain rfl := Option.some.inj H
                                        go_wp2_with (first | ((with_reducible refine gate_callee (f := 45) rfl ?_); refine goesL_ (some 119) rfl rfl Try.func45 (by kernel_rfl) rfl #[.int .i64 a2] rfl (by (try simp only [List.map_toArray, List.map_cons, List.map_nil]); first | done | rfl | (simp only [List.length_drop, List.length_take]; rfl)) ?_; (with_reducible refine (emulsionref14_Need.calls a2 t160 _ A51.out).mono ?_); rintro e w63 ⟨rfl, hb⟩; refine ⟨_, rfl, ?_⟩; have n0_ := Aside0.mk (Kd.R_below (by (with_reducible repeat (first | apply Kd.R_alloc | apply Kd.R_drewN | apply Kd.R_drew)); exact HO_14.out) hb); have n1_ := Aside0.mk (below_step (by repeat (first | (with_reducible first | exact HB.out | apply below_alloc | apply pw_below_drewN | apply below_drew1) | exact HB.out)) hb); clear HO_14; clear HB; have HO_14 := n0_; have HB := n1_; clear n0_ n1_; (try clear hb); (try clear hb2); (try clear hk); (try clear hi)))
                                        go_ret
                                        exact ⟨by first | rfl | (simp [errW_none, errW_some] <;> rfl) | (simp [*, errW_none, errW_some] <;> rfl), by repeat (first | (with_reducible first | exact HB.out | apply below_alloc | apply pw_below_drewN | apply below_drew1) | exact HB.out)⟩
                                    · rw [if_neg c52] at H
                                      have c52b0 : (t149.toList == x11_24.toList) = false := beq_eq_false_iff_ne.mpr c52
                                      have c52b1 : (t149.toList != x11_24.toList) = true := bne_iff_ne.mpr c52
                                      obtain rfl := Option.some.inj H
                                      go_wp2_with (first | ((with_reducible refine gate_callee (f := 45) rfl ?_); refine goesL_ (some 119) rfl rfl Try.func45 (by kernel_rfl) rfl #[.int .i64 a2] rfl (by (try simp only [List.map_toArray, List.map_cons, List.map_nil]); first | done | rfl | (simp only [List.length_drop, List.length_take]; rfl)) ?_; (with_reducible refine (emulsionref14_Need.calls a2 t160 _ A51.out).mono ?_); rintro e w64 ⟨rfl, hb⟩; refine ⟨_, rfl, ?_⟩; have n0_ := Aside0.mk (Kd.R_below (by (with_reducible repeat (first | apply Kd.R_alloc | apply Kd.R_drewN | apply Kd.R_drew)); exact HO_14.out) hb); have n1_ := Aside0.mk (below_step (by repeat (first | (with_reducible first | exact HB.out | apply below_alloc | apply pw_below_drewN | apply below_drew1) | exact HB.out)) hb); clear HO_14; clear HB; have HO_14 := n0_; have HB := n1_; clear n0_ n1_; (try clear hb); (try clear hb2); (try clear hk); (try clear hi)))
                                      go_ret
                                      exact ⟨by first | rfl | (simp [errW_none, errW_some] <;> rfl) | (simp [*, errW_none, errW_some] <;> rfl), by repeat (first | (with_reducible first | exact HB.out | apply below_alloc | apply pw_below_drewN | apply below_drew1) | exact HB.out)⟩
                                  · replace c50 := Bool.eq_false_iff.mpr c50
                                    subst c50
                                    have H1 : (if t149.toList = x11_24.toList then (if t150 = x13_30 then (if x15_6.toList = a0.toList then ((leaf_Need.f (a0.size : Int)).bind fun t163 => (if (t153.length : Int) = t163 then (if a2 > 1099511627776 then (some true) else ((leaf_Need.f a2).bind fun t164 => (some (t164 == 0)))) else (some false))) else (some false)) else (some false)) else (some false)) = some r := by rw [if_neg (show ¬ (false = true) by decide)] at H; exact H
                                    clear H
                                    have H := H1
                                    clear H1
                                    by_cases c65 : t149.toList = x11_24.toList
                                    · rw [if_pos c65] at H
                                      have c65b0 : (t149.toList == x11_24.toList) = true := beq_iff_eq.mpr c65
                                      have c65b1 : (t149.toList != x11_24.toList) = false := bne_eq_false_iff_eq.mpr c65
                                      clear c65
                                      by_cases c66 : t150 = x13_30
                                      · rw [if_pos c66] at H
                                        have c66b0 : (t150 == x13_30) = true := beq_iff_eq.mpr c66
                                        have c66b1 : (t150 != x13_30) = false := bne_eq_false_iff_eq.mpr c66
                                        clear c66
                                        by_cases c67 : x15_6.toList = a0.toList
                                        · rw [if_pos c67] at H
                                          have c67b0 : (x15_6.toList == a0.toList) = true := beq_iff_eq.mpr c67
                                          have c67b1 : (x15_6.toList != a0.toList) = false := bne_eq_false_iff_eq.mpr c67
                                          clear c67
                                          replace H := Option.bind_eq_some_iff.mp H
                                          obtain ⟨t163, A680, H⟩ := H
                                          replace H : (if (t153.length : Int) = t163 then (if a2 > 1099511627776 then (some true) else ((leaf_Need.f a2).bind fun t164 => (some (t164 == 0)))) else (some false)) = some r := H
                                          have A68 := Aside0.mk A680
                                          clear A680
                                          by_cases c69 : (t153.length : Int) = t163
                                          · rw [if_pos c69] at H
                                            have c69b0 : ((t153.length : Int) == t163) = true := beq_iff_eq.mpr c69
                                            have c69b1 : ((t153.length : Int) != t163) = false := bne_eq_false_iff_eq.mpr c69
                                            clear c69
                                            by_cases c70 : a2 > 1099511627776
                                            · rw [if_pos c70] at H
                                              have c70b0 : decide (1099511627776 < a2) = true := decide_eq_true c70
                                              clear c70
                                              obtain rfl := Option.some.inj H
                                              go_wp2_with (first | (go_at_call 46; (with_reducible refine (leaf_Need.calls (a0.size : Int) t163 _ A68.out).mono ?_); rintro e w' ⟨rfl, ⟨nd, rfl⟩⟩))
                                              go_ret
                                              exact ⟨by first | rfl | (simp [errW_none, errW_some] <;> rfl) | (simp [*, errW_none, errW_some] <;> rfl), by repeat (first | (with_reducible first | exact HB.out | apply below_alloc | apply pw_below_drewN | apply below_drew1) | exact HB.out)⟩
                                            · rw [if_neg c70] at H
                                              have c70b0 : decide (1099511627776 < a2) = false := decide_eq_false c70
                                              clear c70
                                              replace H := Option.bind_eq_some_iff.mp H
                                              obtain ⟨t164, A710, H⟩ := H
                                              replace H : (some (t164 == 0)) = some r := H
                                              have A71 := Aside0.mk A710
                                              clear A710
                                              obtain rfl := Option.some.inj H
                                              go_wp2_with (first | (go_at_call 46; (with_reducible refine (leaf_Need.calls (a0.size : Int) t163 _ A68.out).mono ?_); rintro e w' ⟨rfl, ⟨nd, rfl⟩⟩) | (go_at_call 46; (with_reducible refine (leaf_Need.calls a2 t164 _ A71.out).mono ?_); rintro e w' ⟨rfl, ⟨nd, rfl⟩⟩))
                                              go_ret
                                              exact ⟨by first | rfl | (simp [errW_none, errW_some] <;> rfl) | (simp [*, errW_none, errW_some] <;> rfl), by repeat (first | (with_reducible first | exact HB.out | apply below_alloc | apply pw_below_drewN | apply below_drew1) | exact HB.out)⟩
                                          · rw [if_neg c69] at H
                                            have c69b0 : ((t153.length : Int) == t163) = false := beq_eq_false_iff_ne.mpr c69
                                            have c69b1 : ((t153.length : Int) != t163) = true := bne_iff_ne.mpr c69
                                            obtain rfl := Option.some.inj H
                                            go_wp2_with (first | (go_at_call 46; (with_reducible refine (leaf_Need.calls (a0.size : Int) t163 _ A68.out).mono ?_); rintro e w' ⟨rfl, ⟨nd, rfl⟩⟩))
                                            go_ret
                                            exact ⟨by first | rfl | (simp [errW_none, errW_some] <;> rfl) | (simp [*, errW_none, errW_some] <;> rfl), by repeat (first | (with_reducible first | exact HB.out | apply below_alloc | apply pw_below_drewN | apply below_drew1) | exact HB.out)⟩
                                        · rw [if_neg c67] at H
                                          have c67b0 : (x15_6.toList == a0.toList) = false := beq_eq_false_iff_ne.mpr c67
                                          have c67b1 : (x15_6.toList != a0.toList) = true := bne_iff_ne.mpr c67
                                          obtain rfl := Option.some.inj H
                                          go_wp2
                                          go_ret
                                          exact ⟨by first | rfl | (simp [errW_none, errW_some] <;> rfl) | (simp [*, errW_none, errW_some] <;> rfl), by repeat (first | (with_reducible first | exact HB.out | apply below_alloc | apply pw_below_drewN | apply below_drew1) | exact HB.out)⟩
                                      · rw [if_neg c66] at H
                                        have c66b0 : (t150 == x13_30) = false := beq_eq_false_iff_ne.mpr c66
                                        have c66b1 : (t150 != x13_30) = true := bne_iff_ne.mpr c66
                                        obtain rfl := Option.some.inj H
                                        go_wp2
                                        go_ret
                                        exact ⟨by first | rfl | (simp [errW_none, errW_some] <;> rfl) | (simp [*, errW_none, errW_some] <;> rfl), by repeat (first | (with_reducible first | exact HB.out | apply below_alloc | apply pw_below_drewN | apply below_drew1) | exact HB.out)⟩
                                    · rw [if_neg c65] at H
                                      have c65b0 : (t149.toList == x11_24.toList) = false := beq_eq_false_iff_ne.mpr c65
                                      have c65b1 : (t149.toList != x11_24.toList) = true := bne_iff_ne.mpr c65
                                      obtain rfl := Option.some.inj H
                                      go_wp2
                                      go_ret
                                      exact ⟨by first | rfl | (simp [errW_none, errW_some] <;> rfl) | (simp [*, errW_none, errW_some] <;> rfl), by repeat (first | (with_reducible first | exact HB.out | apply below_alloc | apply pw_below_drewN | apply below_drew1) | exact HB.out)⟩

/-- THE ONE PURE STATEMENT of emulsionlaw15_LeafTells: yours. -/
def emulsionlaw15_LeafTells.Pure : Prop := ∀ (a0 : ByteArray) (a1 : ByteArray) (a2 : Int), a0.size ≤ 140737488351232 → a1.size ≤ 140737488351232 → (Lit.int .i64 a2).wf = true → ∃ k, emulsionlaw15_LeafTells.f k a0 a1 a2 = some true
theorem emulsionlaw15_LeafTells.walk (P : emulsionlaw15_LeafTells.Pure) (a0 : ByteArray) (a1 : ByteArray) (a2 : Int) (w : World) (w0 : a0.size ≤ 140737488351232) (w1 : a1.size ≤ 140737488351232) (w2 : (Lit.int .i64 a2).wf = true) :
    Calls Try.prog 8 #[.string a0, .string a1, .int .i64 a2] w fun e w' => e = .returned (.bool true) ∧ Below w.heap.size w w' := by
  obtain ⟨k, h⟩ := P a0 a1 a2 w0 w1 w2
  refine (emulsionlaw15_LeafTells.calls k a0 a1 a2 true w h).mono ?_
  rintro e w' ⟨rfl, hd⟩
  exact ⟨rfl, hd⟩

end Go.Proofs.Ytacmfpkmcefcfaa.OLeafTells
