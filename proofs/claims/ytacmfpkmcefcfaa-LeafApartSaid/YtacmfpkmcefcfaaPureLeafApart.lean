/- Proved here: no page of bytes is a slot, and no slot is a page of bytes; no condition. -/
import Derived.Test.YtacmfpkmcefcfaaBx2
import Derived.Test.YtacmfpkmcefcfaaBx3
import Derived.Test.YtacmfpkmcefcfaaBx5
import Derived.Test.YtacmfpkmcefcfaaLeafP
namespace Go.Proofs.Ytacmfpkmcefcfaa.Pure
open Go.RowKit Go.Proofs.Ytacmfpkmcefcfaa Go.Proofs.Ytacmfpkmcefcfaa.A Go.Proofs.Ytacmfpkmcefcfaa.B Go.Proofs.YtacmfpkmcefcfaaW.PrintWords Go.Proofs.YtacmfpkmcefcfaaW.PrintLast Go.Proofs.Ytacmfpkmcefcfaa.Rot Go.Proofs.Ytacmfpkmcefcfaa.Fold Go.Proofs.Ytacmfpkmcefcfaa.Leafs Go.Proofs.Ytacmfpkmcefcfaa.Slot Go.Proofs.Ytacmfpkmcefcfaa.LeafP
set_option linter.unusedVariables false
set_option linter.unusedSimpArgs false
set_option maxRecDepth 20000

theorem alive_eq (k : Nat) (hk : 100 ≤ k) : emulsionlaw15_alive.f k = some true := by
  unfold emulsionlaw15_alive.f
  have hz : (⟨#[97, 98, 99]⟩ : ByteArray).size = 3 := rfl
  rw [lay_eq _ (by rw [hz]; omega) k hk, Option.bind_some, read_pg _ (by rw [hz]; omega) k hk, Option.bind_some, pg_size _ (by rw [hz]; omega)]
  simp only
  rw [if_pos trivial, if_pos (by rfl), if_pos trivial, if_pos (by rw [ByteArray.toList_eq]), need_eq _ (by omega) (by omega), Option.bind_some]
  rw [show need 28 = 2 by rfl, if_pos rfl, parts_eq _ (by rw [hz]; omega) k (by rw [hz]; omega), Option.bind_some]
  rw [len_pts _ _ (Nat.le_refl _), hz]
  rfl

theorem unslot_l (p : ByteArray) (gen m : Int) (hm : m ≤ 11) (d : Nat) : ∀ (k : Nat) (i : Int) (acc : List Int) (b : ByteArray) (bad : Bool), 0 ≤ i → m ≤ i + d → acc.length + d ≤ 1000 → d + 110 < k →
    ∃ g l e, leaf_Unslot.l0 k p gen acc m i b bad = some (g, l, e) ∧ (e = 6 ∨ ∃ X, p = seal_ X ∧ X.size = 28 ∧ bt X 0 = 165) := by
  have fin : ∀ (k : Nat) (i : Int) (acc : List Int) (b : ByteArray) (bad : Bool), m ≤ i → 110 < k →
      ∃ g l e, leaf_Unslot.l0 k p gen acc m i b bad = some (g, l, e) ∧ (e = 6 ∨ ∃ X, p = seal_ X ∧ X.size = 28 ∧ bt X 0 = 165) := by
    intro k i acc b bad h0 hk
    obtain ⟨k, rfl⟩ : ∃ m, k = m + 1 := ⟨k - 1, by omega⟩
    simp only [leaf_Unslot.l0]
    rw [if_neg (by omega)]
    obtain ⟨s, e, hs, hx⟩ := slot_tot gen acc k (by omega)
    rw [hs, Option.bind_some]
    simp only
    by_cases he : e = 0
    · rw [if_pos he]
      obtain ⟨X, rfl, hX, hX2⟩ := hx he
      by_cases hp : (seal_ X).toList = p.toList
      · rw [if_pos hp]
        exact ⟨_, _, _, rfl, Or.inr ⟨X, (toList_inj hp).symm, hX, hX2⟩⟩
      · rw [if_neg hp]; exact ⟨_, _, _, rfl, Or.inl rfl⟩
    · rw [if_neg he]; exact ⟨_, _, _, rfl, Or.inl rfl⟩
  induction d with
  | zero => intro k i acc b bad h0 h1 _ hk; exact fin k i acc b bad (by omega) (by omega)
  | succ d ih =>
    intro k i acc b bad h0 h1 h2 hk
    by_cases hi : i < m
    · obtain ⟨k, rfl⟩ : ∃ m, k = m + 2 + 1 := ⟨k - 3, by omega⟩
      simp only [leaf_Unslot.l0]
      obtain ⟨v, b', bad', hn⟩ := num_tot1 b bad k
      rw [if_pos hi, hn, Option.bind_some]
      simp only
      rw [if_pos (by omega), show wrap64 (i + 1) = i + 1 by unfold wrap64; omega]
      exact ih (k + 2) (i + 1) _ b' bad' (by omega) (by omega) (by rw [List.length_append]; simp only [List.length_cons, List.length_nil]; omega) (by omega)
    · exact fin k i acc b bad (by omega) (by omega)
theorem unslot_tot (p b : ByteArray) (k : Nat) (hk : 200 ≤ k) (ho : leaf_open.f k p = some (b, 0)) : ∃ g l e, leaf_Unslot.f k p = some (g, l, e) ∧ (e = 6 ∨ ∃ X, p = seal_ X ∧ X.size = 28 ∧ bt X 0 = 165) := by
  obtain ⟨k, rfl⟩ : ∃ m, k = m + 2 := ⟨k - 2, by omega⟩
  unfold leaf_Unslot.f
  rw [ho, Option.bind_some]
  simp only
  rw [if_pos trivial]
  unfold octets_From.f
  rw [Option.bind_some]
  obtain ⟨v1, b1, bad1, h1⟩ := num_tot1 b false k
  obtain ⟨v2, b2, bad2, h2⟩ := num_tot4 b1 bad1 k
  obtain ⟨v3, b3, bad3, h3⟩ := num_tot1 b2 bad2 k
  simp only
  rw [h1, Option.bind_some]
  simp only
  rw [h2, Option.bind_some]
  simp only
  rw [h3, Option.bind_some]
  simp only
  exact unslot_l p v2 (mn v3 11) (by unfold mn; split <;> omega) 11 (k + 2) 0 [] b3 bad3 (by omega) (by unfold mn; split <;> omega) (by simp only [List.length_nil]; omega) (by omega)
theorem LeafApart : emulsionlaw15_LeafApart.Pure := by
  intro s gen hs wn
  refine ⟨1000 + 1, ?_⟩
  unfold emulsionlaw15_LeafApart.f
  rw [alive_eq _ (by omega), Option.bind_some, if_pos rfl]
  have hm : mn (s.size : Int) 27 = ((min s.size 27 : Nat) : Int) := by unfold mn; split <;> omega
  have hz : (s.extract 0 (min s.size 27)).size ≤ 27 := by rw [ByteArray.size_extract]; omega
  rw [hm, if_pos (by omega), if_pos (by omega), Int.toNat_natCast, lay_eq _ hz _ (by omega), Option.bind_some]
  generalize s.extract 0 (min s.size 27) = b at hz
  obtain ⟨g, l, e, hu, hx⟩ := unslot_tot (pg b) _ (1000 + 1) (by omega) (open_seal28 _ (body_size b hz) _ (by omega))
  simp only
  rw [hu, Option.bind_some]
  simp only
  rw [if_pos trivial]
  have he : e = 6 := by
    rcases hx with h | ⟨X, hX, hX2, hX3⟩
    · exact h
    · exfalso
      have h1 := pg_body b
      have h2 : (seal_ X).extract 0 ((seal_ X).size - 4) = X := by unfold seal_; exact ByteArray.extract_append_eq_left (by rw [ByteArray.size_append, four_size]; omega)
      rw [hX, h2] at h1
      have h3 := body_first b hz
      rw [← h1, hX3] at h3
      omega
  subst he
  simp only [emulsionlaw15_LeafApart.j0]
  rw [if_neg (by decide)]
  by_cases hg : gen < 1 ∨ 1000000000 < gen
  · rw [slot_no gen [] hg, Option.bind_some]
    simp only
    rw [if_neg (by decide)]
    by_cases h1 : gen < 1
    · rw [if_pos h1]
    · rw [if_neg h1, decide_eq_true (by omega)]
  · obtain ⟨X, hX, hX2, hX3⟩ := slot_ok gen [] (by omega) (by omega) (by simp) (by simp) 1000 (by omega)
    rw [hX, Option.bind_some]
    simp only
    rw [if_pos trivial, read_slot X hX2 hX3 _ (by omega), Option.bind_some]
    rfl

end Go.Proofs.Ytacmfpkmcefcfaa.Pure
