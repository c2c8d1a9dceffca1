/- Proved here: for every bytes of at most 600 and every page of at most 100, the page, the bytes, the parts and how many are the document's own; no condition. -/
import Derived.Test.YtacmfpkmcefcfaaOLeafTellsx
import Derived.Test.YtacmfpkmcefcfaaOLeafTellsx0
import Derived.Test.YtacmfpkmcefcfaaOLeafTellsx1
import Derived.Test.YtacmfpkmcefcfaaOLeafTellsx2
import Derived.Test.YtacmfpkmcefcfaaOLeafTellsx3
import Derived.Test.YtacmfpkmcefcfaaLeafs
namespace Go.Proofs.Ytacmfpkmcefcfaa.Pure
open Go.RowKit Go.Proofs.Ytacmfpkmcefcfaa Go.Proofs.Ytacmfpkmcefcfaa.OLeafTells Go.Proofs.YtacmfpkmcefcfaaW.PrintWords Go.Proofs.YtacmfpkmcefcfaaW.PrintLast Go.Proofs.Ytacmfpkmcefcfaa.Rot Go.Proofs.Ytacmfpkmcefcfaa.Fold Go.Proofs.Ytacmfpkmcefcfaa.Leafs
set_option linter.unusedVariables false
set_option linter.unusedSimpArgs false
set_option maxRecDepth 20000
theorem add_l (s : ByteArray) (hs : s.size ≤ 140737488351232) (d : Nat) : ∀ (k i : Nat) (p : Int × Int), ok p → i + d = s.size → d < k →
    tally_Add.l0 k s p.1 p.2 (s.size : Int) (i : Int) = some (tv (fd p ((bytesOf s).drop i))) := by
  induction d with
  | zero =>
    intro k i p hp hd hk
    obtain ⟨k, rfl⟩ : ∃ m, k = m + 1 := ⟨k - 1, by omega⟩
    have hn : (bytesOf s).drop i = [] := List.drop_eq_nil_of_le (by rw [bytes_size]; omega)
    simp only [tally_Add.l0]; rw [if_neg (by omega), hn, or_join hp.1 hp.2.1 hp.2.2.1 hp.2.2.2]; rfl
  | succ d ih =>
    intro k i p hp hd hk
    obtain ⟨k, rfl⟩ : ∃ m, k = m + 1 := ⟨k - 1, by omega⟩
    have hb := bt_in s i
    have hp' := hp
    unfold ok at hp'
    simp only [tally_Add.l0]; rw [if_pos (by omega), if_pos (by omega), if_pos (by omega)]
    rw [show (p.1 + bt s i % 4294967296) % 4294967296 % 65521 = (stp p (bt s i)).1 by unfold stp; show _ = (p.1 + bt s i) % 65521; omega]
    rw [show (p.2 + (stp p (bt s i)).1) % 4294967296 % 65521 = (stp p (bt s i)).2 by unfold stp; show (p.2 + (p.1 + bt s i) % 65521) % 4294967296 % 65521 = (p.2 + (p.1 + bt s i) % 65521) % 65521; omega]
    rw [show wrap64 ((i : Int) + 1) = ((i + 1 : Nat) : Int) by unfold wrap64; omega, bytes_drop s i (by omega)]
    have h4 := stp_lt p (bt s i)
    exact ih k (i + 1) (stp p (bt s i)) (by unfold ok; omega) (by omega) (by omega)
theorem add_eq (s : ByteArray) (hs : s.size ≤ 140737488351232) (p : Int × Int) (hp : ok p) (k : Nat) (hk : s.size < k) : tally_Add.f k (tv p) s = some (tv (fd p (bytesOf s))) := by
  unfold tally_Add.f
  rw [and_low (tv_in hp).1 (tv_in hp).2, tv_low hp, tv_high hp]
  have := add_l s hs s.size k 0 p hp (by omega) hk
  simpa using this
theorem of_eq (s : ByteArray) (hs : s.size ≤ 140737488351232) (k : Nat) (hk : s.size < k) : tally_Of.f k s = some (tv (sm s)) := by
  unfold tally_Of.f
  have := add_eq s hs p0 p0_ok k hk
  rw [show tv p0 = 44257 by unfold tv p0; omega] at this
  rw [this]; rfl
theorem bytes_eq (t : Int) : Tb.tally_bytes.f t = some (four t) := rfl
theorem seal_eq (s : ByteArray) (hs : s.size ≤ 140737488351232) (k : Nat) (hk : s.size < k) : tally_Seal.f k s = some (seal_ s) := by
  unfold tally_Seal.f
  rw [of_eq s hs k hk, Option.bind_some, bytes_eq, Option.bind_some, if_pos (by rw [four_size]; omega)]; rfl
theorem open_short (b : ByteArray) (h : b.size < 4) (k : Nat) : tally_Open.f k b = some (⟨#[]⟩, 8) := by
  unfold tally_Open.f
  rw [if_pos (by unfold wrap64; omega)]
theorem open_long (b : ByteArray) (h : 4 ≤ b.size) (hs : b.size ≤ 140737488351232) (k : Nat) (hk : b.size < k) :
    tally_Open.f k b = if (four (tv (sm (b.extract 0 (b.size - 4))))).toList = (b.extract (b.size - 4) b.size).toList then some (b.extract 0 (b.size - 4), 0) else some (⟨#[]⟩, 6) := by
  unfold tally_Open.f
  have hw : wrap64 ((b.size : Int) - 4) = ((b.size - 4 : Nat) : Int) := by unfold wrap64; omega
  rw [hw, if_neg (by omega), if_pos (by omega), if_pos (by omega), Int.toNat_natCast]
  rw [of_eq _ (by rw [ByteArray.size_extract]; omega) k (by rw [ByteArray.size_extract]; omega), Option.bind_some, bytes_eq, Option.bind_some]
theorem open_seal (s : ByteArray) (hs : s.size ≤ 140737488350000) (k : Nat) (hk : s.size + 4 < k) : tally_Open.f k (seal_ s) = some (s, 0) := by
  have hz := seal_size s
  rw [open_long _ (by omega) (by omega) k (by omega)]
  have e1 : (seal_ s).extract 0 ((seal_ s).size - 4) = s := by unfold seal_ at hz ⊢; exact ByteArray.extract_append_eq_left (by omega)
  have e2 : (seal_ s).extract ((seal_ s).size - 4) (seal_ s).size = four (tv (sm s)) := by unfold seal_ at hz ⊢; exact ByteArray.extract_append_eq_right (by omega) (by rw [four_size]; omega)
  rw [e1, e2, if_pos rfl]

theorem lay_eq (b : ByteArray) (hb : b.size ≤ 27) (k : Nat) (hk : 100 ≤ k) : leaf_Lay.f k b = some (pg b, 0) := by
  unfold leaf_Lay.f
  have h1 := one_size ((b.size : Int) % 256)
  have h2 := body_size b hb
  have hw : wrap64 (28 - ((strOfNums [(b.size : Int) % 256] ++ b).size : Int)) = ((27 - b.size : Nat) : Int) := by rw [ByteArray.size_append, h1]; unfold wrap64; omega
  rw [if_neg (by omega), Option.bind_some, if_pos (by omega)]
  unfold leaf_seal.f
  rw [hw, repeat_zero _ (by omega) (by omega), Option.bind_some, Int.toNat_natCast, if_pos (by rw [ByteArray.size_append, h1, zs_size]; omega), seal_eq _ (by omega) k (by omega)]
  rfl
theorem lay_no (b : ByteArray) (hb : 27 < b.size) (k : Nat) : leaf_Lay.f k b = some (⟨#[]⟩, 1) := by
  unfold leaf_Lay.f
  rw [if_pos (by omega)]
theorem read_pg (b : ByteArray) (hb : b.size ≤ 27) (k : Nat) (hk : 100 ≤ k) : leaf_Read.f k (pg b) = some (b, 0) := by
  have h2 := body_size b hb
  have h3 := pg_size b hb
  unfold leaf_Read.f leaf_open.f
  rw [if_pos (by omega)]
  have := open_seal (strOfNums [(b.size : Int) % 256] ++ b ++ zs (27 - b.size)) (by omega) k (by omega)
  rw [show tally_Open.f k (pg b) = _ from this, Option.bind_some, Option.bind_some]
  simp only
  rw [if_pos trivial, if_pos (by omega), body_first b hb]
  have hw : wrap64 (b.size : Int) = b.size := by unfold wrap64; omega
  have hw2 : wrap64 (1 + (b.size : Int)) = ((1 + b.size : Nat) : Int) := by unfold wrap64; omega
  rw [hw, hw2, if_neg (by omega), if_pos (by omega), if_pos (by omega), Int.toNat_natCast, body_cut b hb, lay_eq b hb k hk, Option.bind_some, if_pos rfl]
theorem parts_l : ∀ (n k : Nat) (s : ByteArray) (acc : List ByteArray), s.size ≤ n → n < k → acc.length + n < 8796093022208 → s.size ≤ 1000000 → leaf_Parts.l0 k s acc = some (acc ++ pts n s)
  | 0, k, s, acc, hs, hk, ha, hz => by
    obtain ⟨k, rfl⟩ : ∃ m, k = m + 1 := ⟨k - 1, by omega⟩
    simp only [leaf_Parts.l0]
    rw [if_neg (by omega)]
    show some acc = some (acc ++ [])
    rw [List.append_nil]
  | n + 1, k, s, acc, hs, hk, ha, hz => by
    obtain ⟨k, rfl⟩ : ∃ m, k = m + 1 := ⟨k - 1, by omega⟩
    simp only [leaf_Parts.l0]
    unfold pts
    by_cases h0 : s.size = 0
    · rw [if_neg (by omega), if_pos h0, List.append_nil]
    · have hm : mn (s.size : Int) 27 = ((min s.size 27 : Nat) : Int) := by unfold mn; split <;> omega
      rw [if_pos (by omega), if_neg h0, hm, if_pos (by omega), if_pos (by omega), if_pos (by omega), Int.toNat_natCast]
      rw [parts_l n k _ _ (by rw [ByteArray.size_extract]; omega) (by omega) (by rw [List.length_append]; simp only [List.length_cons, List.length_nil]; omega) (by rw [ByteArray.size_extract]; omega)]
      rw [List.append_assoc]; rfl
theorem parts_eq (s : ByteArray) (hs : s.size ≤ 1000000) (k : Nat) (hk : s.size < k) : leaf_Parts.f k s = some (pts s.size s) := by
  unfold leaf_Parts.f
  rw [parts_l s.size k s [] (Nat.le_refl _) hk (by simp only [List.length_nil]; omega) hs, List.nil_append]
def need (n : Int) : Int := if n < 1 then 0 else (n - 1) / 27 + 1
theorem need_eq (n : Int) (h0 : -9223372036854775808 ≤ n) (h1 : n ≤ 9223372036854775807) : leaf_Need.f n = some (need n) := by
  unfold leaf_Need.f need
  split
  · rfl
  · have hw : wrap64 (n - 1) = n - 1 := by unfold wrap64; omega
    rw [hw, Int.tdiv_eq_ediv_of_nonneg (by omega)]
    have hw2 : wrap64 ((n - 1) / 27) = (n - 1) / 27 := by unfold wrap64; omega
    rw [hw2]
    congr 1
    unfold wrap64; omega
theorem need_parts (s : ByteArray) : need (s.size : Int) = ((pts s.size s).length : Int) := by
  rw [len_pts _ _ (Nat.le_refl _)]
  unfold need
  split <;> omega
theorem alive_eq (k : Nat) (hk : 100 ≤ k) : emulsionlaw15_alive.f k = some true := by
  unfold emulsionlaw15_alive.f
  have hz : (⟨#[97, 98, 99]⟩ : ByteArray).size = 3 := rfl
  rw [lay_eq _ (by rw [hz]; omega) k hk, Option.bind_some, read_pg _ (by rw [hz]; omega) k hk, Option.bind_some, pg_size _ (by rw [hz]; omega)]
  simp only
  rw [if_pos trivial, if_pos (by rfl), if_pos trivial, if_pos (by rw [ByteArray.toList_eq]), need_eq _ (by omega) (by omega), Option.bind_some]
  rw [show need 28 = 2 by rfl, if_pos rfl, parts_eq _ (by rw [hz]; omega) k (by rw [hz]; omega), Option.bind_some]
  rw [len_pts _ _ (Nat.le_refl _), hz]
  rfl
theorem rsum_l (s : ByteArray) (hs : s.size ≤ 140737488351232) (d : Nat) : ∀ (k i : Nat) (p : Int × Int), ok p → i + d = s.size → d < k →
    emulsionref1_Tally.l0 k s p.1 p.2 (i : Int) = some (tv (fd p ((bytesOf s).drop i))) := by
  induction d with
  | zero =>
    intro k i p hp hd hk
    obtain ⟨k, rfl⟩ : ∃ m, k = m + 1 := ⟨k - 1, by omega⟩
    have hn : (bytesOf s).drop i = [] := List.drop_eq_nil_of_le (by rw [bytes_size]; omega)
    unfold ok at hp
    simp only [emulsionref1_Tally.l0]; rw [if_neg (by omega), hn]
    show some _ = some (p.2 * 65536 + p.1)
    congr 1
    omega
  | succ d ih =>
    intro k i p hp hd hk
    obtain ⟨k, rfl⟩ : ∃ m, k = m + 1 := ⟨k - 1, by omega⟩
    have hb := bt_in s i
    have hp' := hp
    unfold ok at hp'
    simp only [emulsionref1_Tally.l0]; rw [if_pos (by omega), if_pos (by omega)]
    rw [show (p.1 + bt s i % 4294967296) % 4294967296 % 65521 = (stp p (bt s i)).1 by unfold stp; show _ = (p.1 + bt s i) % 65521; omega]
    rw [show (p.2 + (stp p (bt s i)).1) % 4294967296 % 65521 = (stp p (bt s i)).2 by unfold stp; show (p.2 + (p.1 + bt s i) % 65521) % 4294967296 % 65521 = (p.2 + (p.1 + bt s i) % 65521) % 65521; omega]
    rw [show wrap64 ((i : Int) + 1) = ((i + 1 : Nat) : Int) by unfold wrap64; omega, bytes_drop s i (by omega)]
    have h4 := stp_lt p (bt s i)
    exact ih k (i + 1) (stp p (bt s i)) (by unfold ok; omega) (by omega) (by omega)
theorem rsum_eq (s : ByteArray) (hs : s.size ≤ 140737488351232) (k : Nat) (hk : s.size < k) : emulsionref1_Tally.f k s = some (tv (sm s)) := by
  unfold emulsionref1_Tally.f
  have := rsum_l s hs s.size k 0 p0 p0_ok (by omega) hk
  simpa [p0, sm] using this
theorem num_eq {t : Int} (t0 : 0 ≤ t) (t1 : t < 4294967296) (k : Nat) (hk : 5 ≤ k) : emulsionref1_Num.f k (wrap64 t) 4 = some (four t) := by
  obtain ⟨k, rfl⟩ : ∃ m, k = m + 5 := ⟨k - 5, by omega⟩
  have hw : wrap64 t = t := by unfold wrap64; omega
  have a1 : Go.bits .and .i64 t 255 % 256 = t % 256 := by rw [and_255 t0 t1]; omega
  have a2 : Go.bits .and .i64 (t / 256) 255 % 256 = t / 256 % 256 := by rw [and_255 (by omega) (by omega)]; omega
  have a3 : Go.bits .and .i64 (t / 65536) 255 % 256 = t / 65536 % 256 := by rw [and_255 (by omega) (by omega)]; omega
  have a4 : Go.bits .and .i64 (t / 16777216) 255 % 256 = t / 16777216 % 256 := by rw [and_255 (by omega) (by omega)]; omega
  have b1 : wrap64 (Int.tdiv t 256) = t / 256 := by rw [Int.tdiv_eq_ediv_of_nonneg t0]; unfold wrap64; omega
  have b2 : wrap64 (Int.tdiv (t / 256) 256) = t / 65536 := by rw [Int.tdiv_eq_ediv_of_nonneg (by omega)]; unfold wrap64; omega
  have b3 : wrap64 (Int.tdiv (t / 65536) 256) = t / 16777216 := by rw [Int.tdiv_eq_ediv_of_nonneg (by omega)]; unfold wrap64; omega
  have c1 : wrap64 (0 + 1) = 1 := by unfold wrap64; omega
  have c2 : wrap64 (1 + 1) = 2 := by unfold wrap64; omega
  have c3 : wrap64 (2 + 1) = 3 := by unfold wrap64; omega
  have c4 : wrap64 (3 + 1) = 4 := by unfold wrap64; omega
  unfold emulsionref1_Num.f
  rw [hw]
  simp only [emulsionref1_Num.l0, List.length_append, List.length_cons, List.length_nil, List.nil_append, a1, a2, a3, a4, b1, b2, b3, c1, c2, c3, c4]
  rw [if_pos (by omega), if_pos (by omega), if_pos (by omega), if_pos (by omega), if_pos (by omega), if_pos (by omega), if_pos (by omega), if_pos (by omega), if_neg (by omega)]
  rfl

theorem num1_eq {t : Int} (t0 : 0 ≤ t) (t1 : t < 4294967296) (k : Nat) (hk : 5 ≤ k) : emulsionref1_Num.f k t 1 = some (strOfNums [t % 256]) := by
  obtain ⟨k, rfl⟩ : ∃ m, k = m + 2 := ⟨k - 2, by omega⟩
  have a1 : Go.bits .and .i64 t 255 % 256 = t % 256 := by rw [and_255 t0 t1]; omega
  have c1 : wrap64 (0 + 1) = 1 := by unfold wrap64; omega
  unfold emulsionref1_Num.f
  simp only [emulsionref1_Num.l0, List.length_append, List.length_cons, List.length_nil, List.nil_append, a1, c1]
  rw [if_pos (by omega), if_pos (by omega), if_neg (by omega)]
theorem zeros_eq (n : Int) (h0 : 0 ≤ n) (h1 : n ≤ 1000000) : emulsionref1_Zeros.f n = some (zs n.toNat) := by
  unfold emulsionref1_Zeros.f
  rw [if_pos h0, if_pos (by omega)]; rfl
theorem leaf_eq (b : ByteArray) (hb : b.size ≤ 27) (k : Nat) (hk : 100 ≤ k) : emulsionref14_Leaf.f k b = some (pg b) := by
  unfold emulsionref14_Leaf.f
  have h1 := one_size ((b.size : Int) % 256)
  have h2 := body_size b hb
  have hw : wrap64 (28 - ((strOfNums [(b.size : Int) % 256] ++ b).size : Int)) = ((27 - b.size : Nat) : Int) := by rw [ByteArray.size_append, h1]; unfold wrap64; omega
  rw [num1_eq (by omega) (by omega) k (by omega), Option.bind_some, if_pos (by omega)]
  unfold emulsionref14_page.f
  have o2 := tv_in (sm_ok (strOfNums [(b.size : Int) % 256] ++ b ++ zs (27 - b.size)))
  rw [hw, zeros_eq _ (by omega) (by omega), Option.bind_some, Int.toNat_natCast, if_pos (by rw [ByteArray.size_append, h1, zs_size]; omega), rsum_eq _ (by omega) k (by omega), Option.bind_some, num_eq o2.1 o2.2 k (by omega), Option.bind_some, if_pos (by rw [h2, four_size]; omega)]
  rfl
/-- A page's bytes, or none. -/
theorem same (p : ByteArray) (hp : p.size ≤ 100) (k : Nat) (hk : 200 ≤ k) : ∃ (b : ByteArray) (ok : Bool) (t : ByteArray) (f : Int), emulsionref14_Unleaf.f k p = some (b, ok) ∧ leaf_Read.f k p = some (t, f) ∧
    t = (if ok = true then b else ⟨#[]⟩) ∧ f = (if ok = true then 0 else if (p.size : Int) = 32 then 6 else 8) := by
  by_cases h32' : p.size ≠ 32
  · refine ⟨⟨#[]⟩, false, ⟨#[]⟩, 8, ?_, ?_, rfl, ?_⟩
    · unfold emulsionref14_Unleaf.f
      rw [if_neg (by omega)]
    · unfold leaf_Read.f leaf_open.f
      rw [if_neg (by omega), Option.bind_some]
      rfl
    · rw [if_neg (by decide), if_neg (by omega)]
  have h32 : p.size = 32 := by omega
  have hb0 := bt_in p 0
  have hc0 : bt (p.extract 0 28) 0 = bt p 0 := by have := bt_cut p 0 28 0 (by omega) (by omega); simpa using this
  have hO := open_long p (by omega) (by omega) k (by omega)
  rw [h32] at hO
  have hw1 : wrap64 (bt p 0) = bt p 0 := by unfold wrap64; omega
  by_cases h27 : bt p 0 > 27
  · refine ⟨⟨#[]⟩, false, ⟨#[]⟩, 6, ?_, ?_, rfl, ?_⟩
    · unfold emulsionref14_Unleaf.f
      rw [if_pos (by omega), if_pos (by omega), if_pos h27]
    · unfold leaf_Read.f leaf_open.f
      rw [if_pos (by omega), hO]
      by_cases he : (four (tv (sm (p.extract 0 28)))).toList = (p.extract 28 32).toList
      · rw [show 32 - 4 = 28 from rfl, if_pos he, Option.bind_some, Option.bind_some]
        simp only
        rw [if_pos trivial, if_pos (by rw [ByteArray.size_extract]; omega), hc0, hw1, if_pos h27]
      · rw [show 32 - 4 = 28 from rfl, if_neg he, Option.bind_some, Option.bind_some]
        rfl
    · rw [if_neg (by decide), if_pos (by omega)]
  obtain ⟨m, hm⟩ := Int.eq_ofNat_of_zero_le hb0.1
  have hw2 : wrap64 (1 + (m : Int)) = ((1 + m : Nat) : Int) := by unfold wrap64; omega
  rw [hm] at hw1
  have hz : (p.extract 1 (1 + m)).size = m := by rw [ByteArray.size_extract]; omega
  have hU : emulsionref14_Unleaf.f k p = some (p.extract 1 (1 + m), (pg (p.extract 1 (1 + m))).toList == p.toList) := by
    unfold emulsionref14_Unleaf.f
    rw [if_pos (by omega), if_pos (by omega), if_neg h27, hm, hw1, hw2, if_pos (by omega), if_pos (by omega), Int.toNat_natCast, leaf_eq _ (by omega) k (by omega), Option.bind_some]
  by_cases he : pg (p.extract 1 (1 + m)) = p
  · refine ⟨p.extract 1 (1 + m), true, p.extract 1 (1 + m), 0, ?_, ?_, rfl, rfl⟩
    · rw [hU, he, beq_self_eq_true]
    · have := read_pg (p.extract 1 (1 + m)) (by omega) k (by omega)
      rwa [he] at this
  · refine ⟨p.extract 1 (1 + m), false, ⟨#[]⟩, 6, ?_, ?_, rfl, by rw [if_neg (by decide), if_pos (by omega)]⟩
    · rw [hU]
      have : ((pg (p.extract 1 (1 + m))).toList == p.toList) = false := by
        rw [beq_eq_false_iff_ne]
        exact fun h => he (toList_inj h)
      rw [this]
    · unfold leaf_Read.f leaf_open.f
      rw [if_pos (by omega), hO]
      by_cases hq : (four (tv (sm (p.extract 0 28)))).toList = (p.extract 28 32).toList
      · rw [show 32 - 4 = 28 from rfl, if_pos hq, Option.bind_some, Option.bind_some]
        simp only
        rw [if_pos trivial, if_pos (by rw [ByteArray.size_extract]; omega), hc0, hm, hw1, if_neg (by omega), hw2, if_pos (by omega), if_pos (by rw [ByteArray.size_extract]; omega), Int.toNat_natCast, cut_cut p 1 (1 + m) 28 (by omega), lay_eq _ (by omega) k (by omega), Option.bind_some]
        rw [if_neg (fun h => he (toList_inj h))]
      · rw [show 32 - 4 = 28 from rfl, if_neg hq, Option.bind_some, Option.bind_some]
        rfl
theorem tells_l (s : ByteArray) (hs : s.size ≤ 600) (n : Int) (n0 : -9223372036854775808 ≤ n) (n1 : n ≤ 9223372036854775807) (w : ByteArray) (e : Int) (d : Nat) : ∀ (k i : Nat), i + d = (pts s.size s).length → d + 100 < k →
    emulsionlaw15_LeafTells.l0 k s n w e w e (pts s.size s) (cat ((pts s.size s).take i)) (i : Int) = some true := by
  have hl := len_pts s.size s (Nat.le_refl _)
  have hP := pt_pts s.size s (Nat.le_refl _)
  have hc := cat_pts s.size s (Nat.le_refl _)
  have hn := need_parts s
  induction d with
  | zero =>
    intro k i hd hk
    obtain ⟨k, rfl⟩ : ∃ m, k = m + 1 + 1 := ⟨k - 2, by omega⟩
    have hN := need_eq (s.size : Int) (by omega) (by omega)
    rw [hn] at hN
    have hM := need_eq n n0 n1
    have hJ (y : Int) (b : Bool) (hb : b = decide (1 ≤ n ∧ n ≤ 1099511627776)) (hy : ¬ (1 ≤ n) → y = 0) : emulsionlaw15_LeafTells.j6 (k + 1) s n w e w e (pts s.size s) s y b = some true := by
      simp only [emulsionlaw15_LeafTells.j6]
      by_cases h1 : b = true
      · rw [if_pos h1]
        rw [hb] at h1
        have h2 := of_decide_eq_true h1
        unfold emulsionref14_Need.f
        rw [Option.bind_some, if_pos trivial, if_pos trivial, if_pos trivial, hN, Option.bind_some, if_pos rfl, if_neg (by omega), hM, Option.bind_some]
        have hw : wrap64 (n + 26) = n + 26 := by unfold wrap64; omega
        have : wrap64 (mx (n + 26) 0 / 27) = need n := by
          unfold mx need
          rw [if_neg (show ¬ n < 1 by omega)]
          split <;> (unfold wrap64; omega)
        rw [hw, this, beq_self_eq_true]
      · rw [if_neg h1, if_pos trivial, if_pos trivial, if_pos trivial, hN, Option.bind_some, if_pos rfl]
        rw [hb] at h1
        by_cases h3 : n > 1099511627776
        · rw [if_pos h3]
        · rw [if_neg h3, hM, Option.bind_some]
          have h4 : ¬ (1 ≤ n) := fun h5 => h1 (decide_eq_true ⟨h5, by omega⟩)
          rw [hy h4]
          unfold need
          rw [if_pos (by omega)]
          rfl
    simp only [emulsionlaw15_LeafTells.l0]
    rw [if_neg (by omega), List.take_of_length_le (by omega), hc]
    by_cases h1 : n ≥ 1
    · rw [if_pos h1]
      exact hJ 0 _ (by by_cases h2 : n ≤ 1099511627776 <;> simp [h1, h2]) (fun _ => rfl)
    · rw [if_neg h1]
      exact hJ 0 _ (by simp [h1]) (fun _ => rfl)
  | succ d ih =>
    intro k i hd hk
    clear n0 n1
    obtain ⟨k, rfl⟩ : ∃ m, k = m + 1 := ⟨k - 1, by omega⟩
    have hi : i < (pts s.size s).length := by omega
    have h := pt_at _ i hP hi
    have hs2 := cat_size_take (pts s.size s) (i + 1)
    have hs3 := cat_take (pts s.size s) i hi
    rw [hs3, ByteArray.size_append, hc] at hs2
    have hw : wrap64 ((i : Int) + 1) = ((i + 1 : Nat) : Int) := by unfold wrap64; omega
    simp only [emulsionlaw15_LeafTells.l0]
    have q1 : (i : Int) < ((pts s.size s).length : Int) := by omega
    have q2 : (0 : Int) ≤ (i : Int) := by omega
    have q3 : (cat ((pts s.size s).take i)).size + (rdOf ByteArray.empty (pts s.size s) (i : Int)).size ≤ 9223372036854775807 := Nat.le_trans (show (cat ((pts s.size s).take i)).size + (rdOf ByteArray.empty (pts s.size s) (i : Int)).size ≤ 600 by omega) (by decide)
    have q4 : ¬ ((rdOf ByteArray.empty (pts s.size s) (i : Int)).size : Int) < 1 := by omega
    have q5 : ¬ ((rdOf ByteArray.empty (pts s.size s) (i : Int)).size : Int) > 27 := by omega
    rw [if_pos q1, if_pos q2, if_pos q3, if_neg q4, if_neg q5, hw, ← hs3]
    by_cases hlast : ((i + 1 : Nat) : Int) < ((pts s.size s).length : Int)
    · have := h.2.2 (by omega)
      rw [if_pos hlast, if_pos (by omega)]
      exact ih k (i + 1) (by omega) (by omega)
    · rw [if_neg hlast]
      exact ih k (i + 1) (by omega) (by omega)
theorem LeafTells : emulsionlaw15_LeafTells.Pure := by
  intro s p n hs hp wn
  obtain ⟨n0, n1⟩ := wf64 wn
  refine ⟨1000 + 1 + 1 + 1 + 1 + 1, ?_⟩
  unfold emulsionlaw15_LeafTells.f
  have hal : emulsionlaw15_LeafTells.j0 (1000 + 1 + 1 + 1 + 1 + 1) s p n true = some true := by
    simp only [emulsionlaw15_LeafTells.j0]
    rw [if_pos trivial, alive_eq _ (by omega)]; rfl
  by_cases hg : (s.size : Int) > 600
  · rw [if_pos hg]; exact hal
  rw [if_neg hg]
  by_cases hg2 : (p.size : Int) > 100
  · rw [if_pos hg2]; exact hal
  rw [if_neg hg2, alive_eq _ (by omega), Option.bind_some]
  have hl := len_pts s.size s (Nat.le_refl _)
  have hlast (w : ByteArray) (e : Int) : emulsionlaw15_LeafTells.j4 (1000 + 1) s n w e w e = some true := by
    simp only [emulsionlaw15_LeafTells.j4]
    rw [parts_eq s (by omega) _ (by omega), Option.bind_some]
    exact tells_l s (by omega) n n0 n1 w e (pts s.size s).length 1000 0 (by omega) (by omega)
  have hj1 : emulsionlaw15_LeafTells.j1 (1000 + 1 + 1 + 1 + 1) s p n = some true := by
    simp only [emulsionlaw15_LeafTells.j1]
    obtain ⟨b, ok, t, f, hU, hR, rfl, rfl⟩ := same p (by omega) (1000 + 1 + 1 + 1) (by omega)
    rw [hR, Option.bind_some, hU, Option.bind_some]
    cases ok with
    | true =>
      simp only [if_true]
      simp only [emulsionlaw15_LeafTells.j2, emulsionlaw15_LeafTells.j3, if_true]
      split <;> exact hlast _ _
    | false =>
      simp only [Bool.false_eq_true, if_false]
      simp only [emulsionlaw15_LeafTells.j2, emulsionlaw15_LeafTells.j3, Bool.false_eq_true, if_false]
      split <;> exact hlast _ _
  simp only [emulsionlaw15_LeafTells.j0, Bool.not_true]
  rw [if_neg (by decide)]
  by_cases h27 : (s.size : Int) > 27
  · rw [lay_no s (by omega), Option.bind_some, if_pos h27]
    simp only
    rw [if_pos trivial, if_pos (by rw [ByteArray.toList_eq])]
    exact hj1
  · rw [lay_eq s (by omega) _ (by omega), Option.bind_some, if_neg h27]
    simp only
    rw [if_pos trivial, leaf_eq s (by omega) _ (by omega), Option.bind_some, if_pos rfl]
    exact hj1

end Go.Proofs.Ytacmfpkmcefcfaa.Pure
