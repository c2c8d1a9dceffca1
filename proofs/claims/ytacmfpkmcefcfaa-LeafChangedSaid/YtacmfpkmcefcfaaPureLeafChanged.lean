/- Proved here: a page of bytes, or a slot, of which one byte is another is none; no condition. -/
import Derived.Test.YtacmfpkmcefcfaaBx2
import Derived.Test.YtacmfpkmcefcfaaBx3
import Derived.Test.YtacmfpkmcefcfaaBx4
import Derived.Test.YtacmfpkmcefcfaaLeafP
namespace Go.Proofs.Ytacmfpkmcefcfaa.Pure
open Go.RowKit Go.Proofs.Ytacmfpkmcefcfaa Go.Proofs.Ytacmfpkmcefcfaa.A Go.Proofs.Ytacmfpkmcefcfaa.B Go.Proofs.YtacmfpkmcefcfaaW.PrintWords Go.Proofs.YtacmfpkmcefcfaaW.PrintLast Go.Proofs.Ytacmfpkmcefcfaa.Rot Go.Proofs.Ytacmfpkmcefcfaa.Fold Go.Proofs.Ytacmfpkmcefcfaa.Leafs Go.Proofs.Ytacmfpkmcefcfaa.Slot Go.Proofs.Ytacmfpkmcefcfaa.LeafP
set_option linter.unusedVariables false
set_option linter.unusedSimpArgs false
set_option maxRecDepth 20000

theorem alive_eq (k : Nat) (hk : 100 ≤ k) : emulsionlaw15_alive.f k = some true := by
  unfold emulsionlaw15_alive.f
  have hz : (⟨#[97, 98, 99]⟩ : ByteArray).size = 3 := rfl
  rw [lay_eq _ (by rw [hz]; omega) k hk, Option.bind_some, read_pg _ (by rw [hz]; omega) k hk, Option.bind_some, pg_size _ (by rw [hz]; omega)]
  simp only
  rw [if_pos trivial, if_pos (by rfl), if_pos trivial, if_pos (by rw [ByteArray.toList_eq]), need_eq _ (by omega) (by omega), Option.bind_some]
  rw [show need 28 = 2 by rfl, if_pos rfl, parts_eq _ (by rw [hz]; omega) k (by rw [hz]; omega), Option.bind_some]
  rw [len_pts _ _ (Nat.le_refl _), hz]
  rfl

theorem place (a : Int) : ∃ r : Nat, Int.tmod (wrap64 ((Int.tmod a 32) + 32)) 32 = (r : Int) ∧ r < 32 := by
  have hm : -32 < Int.tmod a 32 ∧ Int.tmod a 32 < 32 := ⟨by have := Int.lt_tmod_of_pos a (b := 32) (by omega); omega, Int.tmod_lt_of_pos a (by omega)⟩
  have h2 : wrap64 (Int.tmod a 32 + 32) = Int.tmod a 32 + 32 := by unfold wrap64; omega
  rw [h2]
  have h4 : 0 ≤ Int.tmod (Int.tmod a 32 + 32) 32 := Int.tmod_nonneg _ (by omega)
  have h5 := Int.tmod_lt_of_pos (Int.tmod a 32 + 32) (b := 32) (by omega)
  exact ⟨(Int.tmod (Int.tmod a 32 + 32) 32).toNat, by omega, by omega⟩
theorem chg_spell (p : ByteArray) (i : Nat) (c : Int) (hp : p.size = 32) (hi : i < 32) : p.extract 0 ((i : Int)).toNat ++ strOfNums [c] ++ p.extract (wrap64 ((i : Int) + 1)).toNat p.size = chg p i c := by
  have : wrap64 ((i : Int) + 1) = ((i + 1 : Nat) : Int) := by unfold wrap64; omega
  rw [this, Int.toNat_natCast, Int.toNat_natCast]
  rfl
theorem read_chg (X : ByteArray) (hX : X.size = 28) (i : Nat) (hi : i < 32) (c : Int) (c0 : 0 ≤ c) (c1 : c < 256) (hne : bt (seal_ X) (i : Int) ≠ c) (k : Nat) (hk : 100 ≤ k) : leaf_Read.f k (chg (seal_ X) i c) = some (⟨#[]⟩, 6) := by
  unfold leaf_Read.f
  rw [open_chg X hX i hi c c0 c1 hne k hk, Option.bind_some]
  rfl
theorem unslot_chg (X : ByteArray) (hX : X.size = 28) (i : Nat) (hi : i < 32) (c : Int) (c0 : 0 ≤ c) (c1 : c < 256) (hne : bt (seal_ X) (i : Int) ≠ c) (k : Nat) (hk : 100 ≤ k) : leaf_Unslot.f k (chg (seal_ X) i c) = some (0, [], 6) := by
  unfold leaf_Unslot.f
  rw [open_chg X hX i hi c c0 c1 hne k hk, Option.bind_some]
  rfl
theorem wfu8 {x : Int} (h : (Lit.int .u8 x).wf = true) : 0 ≤ x ∧ x ≤ 255 := by
  simp [Lit.wf, IntKind.min, IntKind.max, IntKind.signed, IntKind.bits] at h; omega
theorem pieces (p : ByteArray) (i : Nat) (c : Int) (hp : p.size = 32) (hi : i < 32) : (p.extract 0 i).size = i ∧ (strOfNums [c]).size = 1 ∧ (p.extract (i + 1) p.size).size = 31 - i := by
  refine ⟨by rw [ByteArray.size_extract]; omega, one_size c, by rw [ByteArray.size_extract]; omega⟩
theorem LeafChanged : emulsionlaw15_LeafChanged.Pure := by
  intro s gen at_ c hs wg wa wc
  obtain ⟨c0, c1⟩ := wfu8 wc
  clear wg wa wc
  refine ⟨1000 + 1 + 1, ?_⟩
  unfold emulsionlaw15_LeafChanged.f
  rw [alive_eq _ (by omega), Option.bind_some, if_pos rfl]
  have hm : mn (s.size : Int) 27 = ((min s.size 27 : Nat) : Int) := by unfold mn; split <;> omega
  have hz : (s.extract 0 (min s.size 27)).size ≤ 27 := by rw [ByteArray.size_extract]; omega
  rw [hm, if_pos (by omega), if_pos (by omega), Int.toNat_natCast, lay_eq _ hz _ (by omega), Option.bind_some]
  generalize s.extract 0 (min s.size 27) = b at hz
  have hp := pg_size b hz
  simp only
  rw [if_pos trivial, show (((pg b).size : Int) != 32) = false by rw [hp]; rfl]
  obtain ⟨i, hi, hi2⟩ := place at_
  have hw : wrap64 ((i : Int) + 1) = ((i + 1 : Nat) : Int) := by unfold wrap64; omega
  -- the slot
  have hj1 : emulsionlaw15_LeafChanged.j1 (1000 + 1) gen c (i : Int) = some true := by
    simp only [emulsionlaw15_LeafChanged.j1]
    by_cases hg : gen < 1 ∨ 1000000000 < gen
    · rw [slot_no gen _ hg, Option.bind_some]
      simp only
      rw [if_neg (by decide)]
      by_cases h1 : gen < 1
      · rw [if_pos h1]
      · rw [if_neg h1, decide_eq_true (by omega)]
    · obtain ⟨X, hX, hX2, hX3⟩ := slot_ok gen [2, 3, 9] (by omega) (by omega) (by decide) (by decide) 1000 (by omega)
      have hq : (seal_ X).size = 32 := by rw [seal_size]; omega
      rw [hX, Option.bind_some]
      simp only
      rw [if_pos trivial, if_pos (by omega), if_pos (by omega), if_pos (by omega)]
      by_cases hne : bt (seal_ X) (i : Int) = c
      · rw [if_pos hne]
      · obtain ⟨z1, z2, z3⟩ := pieces (seal_ X) i c hq hi2
        rw [if_neg hne, if_pos (by omega), Option.bind_some, Int.toNat_natCast, if_pos (by omega), hw, if_pos (by omega), if_pos (by omega), Int.toNat_natCast, if_pos (by rw [ByteArray.size_append]; omega)]
        rw [show (seal_ X).extract 0 i ++ strOfNums [c] ++ (seal_ X).extract (i + 1) (seal_ X).size = chg (seal_ X) i c from rfl, unslot_chg X hX2 i hi2 c c0 (by omega) hne _ (by omega), Option.bind_some]
        rfl
  simp only [emulsionlaw15_LeafChanged.j0]
  rw [if_neg (by decide), hi, if_pos (by omega), if_pos (by omega)]
  by_cases hne : bt (pg b) (i : Int) = c
  · rw [if_pos hne]; exact hj1
  · obtain ⟨z1, z2, z3⟩ := pieces (pg b) i c hp hi2
    rw [if_neg hne, if_pos (by omega), Option.bind_some, Int.toNat_natCast, if_pos (by omega), hw, if_pos (by omega), if_pos (by omega), Int.toNat_natCast, if_pos (by rw [ByteArray.size_append]; omega)]
    rw [show (pg b).extract 0 i ++ strOfNums [c] ++ (pg b).extract (i + 1) (pg b).size = chg (pg b) i c from rfl, show leaf_Read.f (1000 + 1) (chg (pg b) i c) = some (⟨#[]⟩, 6) from read_chg _ (body_size b hz) i hi2 c c0 (by omega) hne _ (by omega), Option.bind_some]
    simp only
    rw [if_pos trivial]
    exact hj1

end Go.Proofs.Ytacmfpkmcefcfaa.Pure
