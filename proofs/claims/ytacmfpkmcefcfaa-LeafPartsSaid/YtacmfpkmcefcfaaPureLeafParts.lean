/- Proved here: parts of bytes of at most 600 are full but for the last one, and as many as are needed; no condition. -/
import Derived.Test.YtacmfpkmcefcfaaOLeafPartsx
import Derived.Test.YtacmfpkmcefcfaaOLeafPartsx0
import Derived.Test.YtacmfpkmcefcfaaOLeafPartsx1
import Derived.Test.YtacmfpkmcefcfaaOLeafPartsx2
import Derived.Test.YtacmfpkmcefcfaaLeafs
namespace Go.Proofs.Ytacmfpkmcefcfaa.Pure
open Go.RowKit Go.Proofs.Ytacmfpkmcefcfaa Go.Proofs.Ytacmfpkmcefcfaa.OLeafParts Go.Proofs.YtacmfpkmcefcfaaW.PrintWords Go.Proofs.YtacmfpkmcefcfaaW.PrintLast Go.Proofs.Ytacmfpkmcefcfaa.Rot Go.Proofs.Ytacmfpkmcefcfaa.Fold Go.Proofs.Ytacmfpkmcefcfaa.Leafs
set_option linter.unusedVariables false
set_option linter.unusedSimpArgs false
set_option maxRecDepth 20000
theorem add_l (s : ByteArray) (hs : s.size ≤ 140737488351232) (d : Nat) : ∀ (k i : Nat) (p : Int × Int), ok p → i + d = s.size → d < k →
    tally_Add.l0 k s p.1 p.2 (s.size : Int) (i : Int) = some (tv (fd p ((bytesOf s).drop i))) := by
  induction d with
  | zero =>
    intro k i p hp hd hk
    obtain ⟨k, rfl⟩ : ∃ m, k = m + 1 := ⟨k - 1, by omega⟩
    have hn : (bytesOf s).drop i = [] := List.drop_eq_nil_of_le (by rw [bytes_size]; omega)
    simp only [tally_Add.l0]; rw [if_neg (by omega), hn, or_join hp.1 hp.2.1 hp.2.2.1 hp.2.2.2]; rfl
  | succ d ih =>
    intro k i p hp hd hk
    obtain ⟨k, rfl⟩ : ∃ m, k = m + 1 := ⟨k - 1, by omega⟩
    have hb := bt_in s i
    have hp' := hp
    unfold ok at hp'
    simp only [tally_Add.l0]; rw [if_pos (by omega), if_pos (by omega), if_pos (by omega)]
    rw [show (p.1 + bt s i % 4294967296) % 4294967296 % 65521 = (stp p (bt s i)).1 by unfold stp; show _ = (p.1 + bt s i) % 65521; omega]
    rw [show (p.2 + (stp p (bt s i)).1) % 4294967296 % 65521 = (stp p (bt s i)).2 by unfold stp; show (p.2 + (p.1 + bt s i) % 65521) % 4294967296 % 65521 = (p.2 + (p.1 + bt s i) % 65521) % 65521; omega]
    rw [show wrap64 ((i : Int) + 1) = ((i + 1 : Nat) : Int) by unfold wrap64; omega, bytes_drop s i (by omega)]
    have h4 := stp_lt p (bt s i)
    exact ih k (i + 1) (stp p (bt s i)) (by unfold ok; omega) (by omega) (by omega)
theorem add_eq (s : ByteArray) (hs : s.size ≤ 140737488351232) (p : Int × Int) (hp : ok p) (k : Nat) (hk : s.size < k) : tally_Add.f k (tv p) s = some (tv (fd p (bytesOf s))) := by
  unfold tally_Add.f
  rw [and_low (tv_in hp).1 (tv_in hp).2, tv_low hp, tv_high hp]
  have := add_l s hs s.size k 0 p hp (by omega) hk
  simpa using this
theorem of_eq (s : ByteArray) (hs : s.size ≤ 140737488351232) (k : Nat) (hk : s.size < k) : tally_Of.f k s = some (tv (sm s)) := by
  unfold tally_Of.f
  have := add_eq s hs p0 p0_ok k hk
  rw [show tv p0 = 44257 by unfold tv p0; omega] at this
  rw [this]; rfl
theorem bytes_eq (t : Int) : Tb.tally_bytes.f t = some (four t) := rfl
theorem seal_eq (s : ByteArray) (hs : s.size ≤ 140737488351232) (k : Nat) (hk : s.size < k) : tally_Seal.f k s = some (seal_ s) := by
  unfold tally_Seal.f
  rw [of_eq s hs k hk, Option.bind_some, bytes_eq, Option.bind_some, if_pos (by rw [four_size]; omega)]; rfl
theorem open_short (b : ByteArray) (h : b.size < 4) (k : Nat) : tally_Open.f k b = some (⟨#[]⟩, 8) := by
  unfold tally_Open.f
  rw [if_pos (by unfold wrap64; omega)]
theorem open_long (b : ByteArray) (h : 4 ≤ b.size) (hs : b.size ≤ 140737488351232) (k : Nat) (hk : b.size < k) :
    tally_Open.f k b = if (four (tv (sm (b.extract 0 (b.size - 4))))).toList = (b.extract (b.size - 4) b.size).toList then some (b.extract 0 (b.size - 4), 0) else some (⟨#[]⟩, 6) := by
  unfold tally_Open.f
  have hw : wrap64 ((b.size : Int) - 4) = ((b.size - 4 : Nat) : Int) := by unfold wrap64; omega
  rw [hw, if_neg (by omega), if_pos (by omega), if_pos (by omega), Int.toNat_natCast]
  rw [of_eq _ (by rw [ByteArray.size_extract]; omega) k (by rw [ByteArray.size_extract]; omega), Option.bind_some, bytes_eq, Option.bind_some]
theorem open_seal (s : ByteArray) (hs : s.size ≤ 140737488350000) (k : Nat) (hk : s.size + 4 < k) : tally_Open.f k (seal_ s) = some (s, 0) := by
  have hz := seal_size s
  rw [open_long _ (by omega) (by omega) k (by omega)]
  have e1 : (seal_ s).extract 0 ((seal_ s).size - 4) = s := by unfold seal_ at hz ⊢; exact ByteArray.extract_append_eq_left (by omega)
  have e2 : (seal_ s).extract ((seal_ s).size - 4) (seal_ s).size = four (tv (sm s)) := by unfold seal_ at hz ⊢; exact ByteArray.extract_append_eq_right (by omega) (by rw [four_size]; omega)
  rw [e1, e2, if_pos rfl]

theorem lay_eq (b : ByteArray) (hb : b.size ≤ 27) (k : Nat) (hk : 100 ≤ k) : leaf_Lay.f k b = some (pg b, 0) := by
  unfold leaf_Lay.f
  have h1 := one_size ((b.size : Int) % 256)
  have h2 := body_size b hb
  have hw : wrap64 (28 - ((strOfNums [(b.size : Int) % 256] ++ b).size : Int)) = ((27 - b.size : Nat) : Int) := by rw [ByteArray.size_append, h1]; unfold wrap64; omega
  rw [if_neg (by omega), Option.bind_some, if_pos (by omega)]
  unfold leaf_seal.f
  rw [hw, repeat_zero _ (by omega) (by omega), Option.bind_some, Int.toNat_natCast, if_pos (by rw [ByteArray.size_append, h1, zs_size]; omega), seal_eq _ (by omega) k (by omega)]
  rfl
theorem lay_no (b : ByteArray) (hb : 27 < b.size) (k : Nat) : leaf_Lay.f k b = some (⟨#[]⟩, 1) := by
  unfold leaf_Lay.f
  rw [if_pos (by omega)]
theorem read_pg (b : ByteArray) (hb : b.size ≤ 27) (k : Nat) (hk : 100 ≤ k) : leaf_Read.f k (pg b) = some (b, 0) := by
  have h2 := body_size b hb
  have h3 := pg_size b hb
  unfold leaf_Read.f leaf_open.f
  rw [if_pos (by omega)]
  have := open_seal (strOfNums [(b.size : Int) % 256] ++ b ++ zs (27 - b.size)) (by omega) k (by omega)
  rw [show tally_Open.f k (pg b) = _ from this, Option.bind_some, Option.bind_some]
  simp only
  rw [if_pos trivial, if_pos (by omega), body_first b hb]
  have hw : wrap64 (b.size : Int) = b.size := by unfold wrap64; omega
  have hw2 : wrap64 (1 + (b.size : Int)) = ((1 + b.size : Nat) : Int) := by unfold wrap64; omega
  rw [hw, hw2, if_neg (by omega), if_pos (by omega), if_pos (by omega), Int.toNat_natCast, body_cut b hb, lay_eq b hb k hk, Option.bind_some, if_pos rfl]
theorem parts_l : ∀ (n k : Nat) (s : ByteArray) (acc : List ByteArray), s.size ≤ n → n < k → acc.length + n < 8796093022208 → s.size ≤ 1000000 → leaf_Parts.l0 k s acc = some (acc ++ pts n s)
  | 0, k, s, acc, hs, hk, ha, hz => by
    obtain ⟨k, rfl⟩ : ∃ m, k = m + 1 := ⟨k - 1, by omega⟩
    simp only [leaf_Parts.l0]
    rw [if_neg (by omega)]
    show some acc = some (acc ++ [])
    rw [List.append_nil]
  | n + 1, k, s, acc, hs, hk, ha, hz => by
    obtain ⟨k, rfl⟩ : ∃ m, k = m + 1 := ⟨k - 1, by omega⟩
    simp only [leaf_Parts.l0]
    unfold pts
    by_cases h0 : s.size = 0
    · rw [if_neg (by omega), if_pos h0, List.append_nil]
    · have hm : mn (s.size : Int) 27 = ((min s.size 27 : Nat) : Int) := by unfold mn; split <;> omega
      rw [if_pos (by omega), if_neg h0, hm, if_pos (by omega), if_pos (by omega), if_pos (by omega), Int.toNat_natCast]
      rw [parts_l n k _ _ (by rw [ByteArray.size_extract]; omega) (by omega) (by rw [List.length_append]; simp only [List.length_cons, List.length_nil]; omega) (by rw [ByteArray.size_extract]; omega)]
      rw [List.append_assoc]; rfl
theorem parts_eq (s : ByteArray) (hs : s.size ≤ 1000000) (k : Nat) (hk : s.size < k) : leaf_Parts.f k s = some (pts s.size s) := by
  unfold leaf_Parts.f
  rw [parts_l s.size k s [] (Nat.le_refl _) hk (by simp only [List.length_nil]; omega) hs, List.nil_append]
def need (n : Int) : Int := if n < 1 then 0 else (n - 1) / 27 + 1
theorem need_eq (n : Int) (h0 : -9223372036854775808 ≤ n) (h1 : n ≤ 9223372036854775807) : leaf_Need.f n = some (need n) := by
  unfold leaf_Need.f need
  split
  · rfl
  · have hw : wrap64 (n - 1) = n - 1 := by unfold wrap64; omega
    rw [hw, Int.tdiv_eq_ediv_of_nonneg (by omega)]
    have hw2 : wrap64 ((n - 1) / 27) = (n - 1) / 27 := by unfold wrap64; omega
    rw [hw2]
    congr 1
    unfold wrap64; omega
theorem need_parts (s : ByteArray) : need (s.size : Int) = ((pts s.size s).length : Int) := by
  rw [len_pts _ _ (Nat.le_refl _)]
  unfold need
  split <;> omega
theorem alive_eq (k : Nat) (hk : 100 ≤ k) : emulsionlaw15_alive.f k = some true := by
  unfold emulsionlaw15_alive.f
  have hz : (⟨#[97, 98, 99]⟩ : ByteArray).size = 3 := rfl
  rw [lay_eq _ (by rw [hz]; omega) k hk, Option.bind_some, read_pg _ (by rw [hz]; omega) k hk, Option.bind_some, pg_size _ (by rw [hz]; omega)]
  simp only
  rw [if_pos trivial, if_pos (by rfl), if_pos trivial, if_pos (by rw [ByteArray.toList_eq]), need_eq _ (by omega) (by omega), Option.bind_some]
  rw [show need 28 = 2 by rfl, if_pos rfl, parts_eq _ (by rw [hz]; omega) k (by rw [hz]; omega), Option.bind_some]
  rw [len_pts _ _ (Nat.le_refl _), hz]
  rfl

theorem sum_l (s : ByteArray) (hs : s.size ≤ 600) (d : Nat) : ∀ (k i : Nat), i + d = (pts s.size s).length → d + 100 < k →
    emulsionlaw15_LeafParts.l0 k s (pts s.size s) ((cat ((pts s.size s).take i)).size : Int) (i : Int) = some true := by
  have hl := len_pts s.size s (Nat.le_refl _)
  have hP := pt_pts s.size s (Nat.le_refl _)
  have hc := cat_pts s.size s (Nat.le_refl _)
  have hn := need_parts s
  induction d with
  | zero =>
    intro k i hd hk
    obtain ⟨k, rfl⟩ : ∃ m, k = m + 1 := ⟨k - 1, by omega⟩
    simp only [emulsionlaw15_LeafParts.l0]
    rw [if_neg (by omega), List.take_of_length_le (by omega), hc, if_pos rfl, need_eq _ (by omega) (by omega), Option.bind_some, hn, if_pos rfl, need_eq _ (by omega) (by omega), Option.bind_some, if_pos (by rfl), need_eq _ (by omega) (by omega), Option.bind_some, if_pos (by rfl)]
    have hw : wrap64 ((s.size : Int) + 27) = (s.size : Int) + 27 := by unfold wrap64; omega
    have hw2 : wrap64 (((pts s.size s).length : Int) + 1) = ((pts s.size s).length : Int) + 1 := by unfold wrap64; omega
    rw [hw, hw2, need_eq _ (by omega) (by omega), Option.bind_some]
    have : need ((s.size : Int) + 27) = ((pts s.size s).length : Int) + 1 := by
      rw [← hn]; unfold need; split <;> split <;> omega
    rw [this, beq_self_eq_true]
  | succ d ih =>
    intro k i hd hk
    obtain ⟨k, rfl⟩ : ∃ m, k = m + 1 := ⟨k - 1, by omega⟩
    have hi : i < (pts s.size s).length := by omega
    have h := pt_at _ i hP hi
    have hs2 := cat_size_take (pts s.size s) (i + 1)
    have hs3 := cat_take (pts s.size s) i hi
    rw [hs3, ByteArray.size_append, hc] at hs2
    have hw : wrap64 ((i : Int) + 1) = ((i + 1 : Nat) : Int) := by unfold wrap64; omega
    have hw2 : wrap64 (((cat ((pts s.size s).take i)).size : Int) + ((rdOf ByteArray.empty (pts s.size s) (i : Int)).size : Int)) = ((cat ((pts s.size s).take (i + 1))).size : Int) := by
      rw [hs3, ByteArray.size_append]; unfold wrap64; omega
    simp only [emulsionlaw15_LeafParts.l0]
    rw [if_pos (by omega), hw, hw2]
    by_cases hlast : ((i + 1 : Nat) : Int) < ((pts s.size s).length : Int)
    · have := h.2.2 (by omega)
      rw [if_pos hlast, if_pos (by omega), if_pos (by omega), if_neg (by omega)]
      exact ih k (i + 1) (by omega) (by omega)
    · rw [if_neg hlast, if_pos (by omega), if_neg (by omega)]
      exact ih k (i + 1) (by omega) (by omega)
theorem LeafParts : emulsionlaw15_LeafParts.Pure := by
  intro s hs
  refine ⟨1000 + 1, ?_⟩
  unfold emulsionlaw15_LeafParts.f
  by_cases hg : (s.size : Int) > 600
  · rw [if_pos hg]
    simp only [emulsionlaw15_LeafParts.j0]
    rw [if_pos trivial, alive_eq _ (by omega)]; rfl
  rw [if_neg hg, alive_eq _ (by omega), Option.bind_some]
  simp only [emulsionlaw15_LeafParts.j0, Bool.not_true]
  have hl := len_pts s.size s (Nat.le_refl _)
  rw [if_neg (by decide), parts_eq s (by omega) _ (by omega), Option.bind_some]
  exact sum_l s (by omega) (pts s.size s).length 1000 0 (by omega) (by omega)

end Go.Proofs.Ytacmfpkmcefcfaa.Pure
