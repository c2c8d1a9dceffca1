/- Proved here: for every bytes of at most 3000, the sum, the sum that goes on, the sealed bytes and what opens are the document's own; no condition. -/
import Derived.Test.YthlegbnbefmfkaaETallyTellsx1
import Derived.Test.YthlegbnbefmfkaaETallyTellsx2
import Derived.Test.YthlegbnbefmfkaaFold
namespace Go.Proofs.Ythlegbnbefmfkaa.Pure
open Go.RowKit Go.Proofs.Ythlegbnbefmfkaa Go.Proofs.Ythlegbnbefmfkaa.ETallyTells Go.Proofs.YthlegbnbefmfkaaW.PrintWords Go.Proofs.YthlegbnbefmfkaaW.PrintLast Go.Proofs.Ythlegbnbefmfkaa.Rot Go.Proofs.Ythlegbnbefmfkaa.Fold
set_option linter.unusedVariables false
set_option linter.unusedSimpArgs false
set_option maxRecDepth 20000

theorem wf64 {x : Int} (h : (Lit.int .i64 x).wf = true) : -9223372036854775808 ≤ x ∧ x ≤ 9223372036854775807 := by
  simp [Lit.wf, IntKind.min, IntKind.max, IntKind.signed, IntKind.bits] at h; omega
theorem add_l (s : ByteArray) (hs : s.size ≤ 140737488351232) (d : Nat) : ∀ (k i : Nat) (p : Int × Int), ok p → i + d = s.size → d < k →
    tally_Add.l0 k s p.1 p.2 (s.size : Int) (i : Int) = some (tv (fd p ((bytesOf s).drop i))) := by
  induction d with
  | zero =>
    intro k i p hp hd hk
    obtain ⟨k, rfl⟩ : ∃ m, k = m + 1 := ⟨k - 1, by omega⟩
    have hn : (bytesOf s).drop i = [] := List.drop_eq_nil_of_le (by rw [bytes_size]; omega)
    simp only [tally_Add.l0]; rw [if_neg (by omega), hn, or_join hp.1 hp.2.1 hp.2.2.1 hp.2.2.2]; rfl
  | succ d ih =>
    intro k i p hp hd hk
    obtain ⟨k, rfl⟩ : ∃ m, k = m + 1 := ⟨k - 1, by omega⟩
    have hb := bt_in s i
    have hp' := hp
    unfold ok at hp'
    simp only [tally_Add.l0]; rw [if_pos (by omega), if_pos (by omega), if_pos (by omega)]
    rw [show (p.1 + bt s i % 4294967296) % 4294967296 % 65521 = (stp p (bt s i)).1 by unfold stp; show _ = (p.1 + bt s i) % 65521; omega]
    rw [show (p.2 + (stp p (bt s i)).1) % 4294967296 % 65521 = (stp p (bt s i)).2 by unfold stp; show (p.2 + (p.1 + bt s i) % 65521) % 4294967296 % 65521 = (p.2 + (p.1 + bt s i) % 65521) % 65521; omega]
    rw [show wrap64 ((i : Int) + 1) = ((i + 1 : Nat) : Int) by unfold wrap64; omega, bytes_drop s i (by omega)]
    have h4 := stp_lt p (bt s i)
    exact ih k (i + 1) (stp p (bt s i)) (by unfold ok; omega) (by omega) (by omega)
theorem add_eq (s : ByteArray) (hs : s.size ≤ 140737488351232) (p : Int × Int) (hp : ok p) (k : Nat) (hk : s.size < k) : tally_Add.f k (tv p) s = some (tv (fd p (bytesOf s))) := by
  unfold tally_Add.f
  rw [and_low (tv_in hp).1 (tv_in hp).2, tv_low hp, tv_high hp]
  have := add_l s hs s.size k 0 p hp (by omega) hk
  simpa using this
theorem of_eq (s : ByteArray) (hs : s.size ≤ 140737488351232) (k : Nat) (hk : s.size < k) : tally_Of.f k s = some (tv (sm s)) := by
  unfold tally_Of.f
  have := add_eq s hs p0 p0_ok k hk
  rw [show tv p0 = 44257 by unfold tv p0; omega] at this
  rw [this]; rfl
theorem bytes_eq (t : Int) : Tb.tally_bytes.f t = some (four t) := rfl
def seal_ (s : ByteArray) : ByteArray := s ++ four (tv (sm s))
theorem seal_size (s : ByteArray) : (seal_ s).size = s.size + 4 := by unfold seal_; rw [ByteArray.size_append, four_size]
theorem seal_eq (s : ByteArray) (hs : s.size ≤ 140737488351232) (k : Nat) (hk : s.size < k) : tally_Seal.f k s = some (seal_ s) := by
  unfold tally_Seal.f
  rw [of_eq s hs k hk, Option.bind_some, bytes_eq, Option.bind_some, if_pos (by rw [four_size]; omega)]; rfl
theorem open_short (b : ByteArray) (h : b.size < 4) (k : Nat) : tally_Open.f k b = some (⟨#[]⟩, 8) := by
  unfold tally_Open.f
  rw [if_pos (by unfold wrap64; omega)]
theorem open_long (b : ByteArray) (h : 4 ≤ b.size) (hs : b.size ≤ 140737488351232) (k : Nat) (hk : b.size < k) :
    tally_Open.f k b = if (four (tv (sm (b.extract 0 (b.size - 4))))).toList = (b.extract (b.size - 4) b.size).toList then some (b.extract 0 (b.size - 4), 0) else some (⟨#[]⟩, 6) := by
  unfold tally_Open.f
  have hw : wrap64 ((b.size : Int) - 4) = ((b.size - 4 : Nat) : Int) := by unfold wrap64; omega
  rw [hw, if_neg (by omega), if_pos (by omega), if_pos (by omega), Int.toNat_natCast]
  rw [of_eq _ (by rw [ByteArray.size_extract]; omega) k (by rw [ByteArray.size_extract]; omega), Option.bind_some, bytes_eq, Option.bind_some]
theorem open_seal (s : ByteArray) (hs : s.size ≤ 140737488350000) (k : Nat) (hk : s.size + 4 < k) : tally_Open.f k (seal_ s) = some (s, 0) := by
  have hz := seal_size s
  rw [open_long _ (by omega) (by omega) k (by omega)]
  have e1 : (seal_ s).extract 0 ((seal_ s).size - 4) = s := by unfold seal_ at hz ⊢; exact ByteArray.extract_append_eq_left (by omega)
  have e2 : (seal_ s).extract ((seal_ s).size - 4) (seal_ s).size = four (tv (sm s)) := by unfold seal_ at hz ⊢; exact ByteArray.extract_append_eq_right (by omega) (by rw [four_size]; omega)
  rw [e1, e2, if_pos rfl]
theorem alive_eq (k : Nat) (hk : 40 ≤ k) : emulsionlaw12_alive.f k = some true := by
  unfold emulsionlaw12_alive.f
  have hz : (⟨#[97, 98, 99]⟩ : ByteArray).size = 3 := rfl
  have hn : (⟨#[]⟩ : ByteArray).size = 0 := rfl
  rw [seal_eq _ (by rw [hz]; omega) k (by rw [hz]; omega), Option.bind_some, open_seal _ (by rw [hz]; omega) k (by rw [hz]; omega), Option.bind_some, of_eq _ (by rw [hn]; omega) k (by rw [hn]; omega), Option.bind_some]
  rw [show tv (sm ⟨#[]⟩) = 44257 by decide, if_pos rfl, if_pos rfl, if_pos (by simp [ByteArray.toList_eq]), seal_eq _ (by rw [hn]; omega) k (by rw [hn]; omega), Option.bind_some, seal_size, hn]
  rfl

theorem rsum_l (s : ByteArray) (hs : s.size ≤ 140737488351232) (d : Nat) : ∀ (k i : Nat) (p : Int × Int), ok p → i + d = s.size → d < k →
    emulsionref1_Tally.l0 k s p.1 p.2 (i : Int) = some (tv (fd p ((bytesOf s).drop i))) := by
  induction d with
  | zero =>
    intro k i p hp hd hk
    obtain ⟨k, rfl⟩ : ∃ m, k = m + 1 := ⟨k - 1, by omega⟩
    have hn : (bytesOf s).drop i = [] := List.drop_eq_nil_of_le (by rw [bytes_size]; omega)
    unfold ok at hp
    simp only [emulsionref1_Tally.l0]; rw [if_neg (by omega), hn]
    show some _ = some (p.2 * 65536 + p.1)
    congr 1
    omega
  | succ d ih =>
    intro k i p hp hd hk
    obtain ⟨k, rfl⟩ : ∃ m, k = m + 1 := ⟨k - 1, by omega⟩
    have hb := bt_in s i
    have hp' := hp
    unfold ok at hp'
    simp only [emulsionref1_Tally.l0]; rw [if_pos (by omega), if_pos (by omega)]
    rw [show (p.1 + bt s i % 4294967296) % 4294967296 % 65521 = (stp p (bt s i)).1 by unfold stp; show _ = (p.1 + bt s i) % 65521; omega]
    rw [show (p.2 + (stp p (bt s i)).1) % 4294967296 % 65521 = (stp p (bt s i)).2 by unfold stp; show (p.2 + (p.1 + bt s i) % 65521) % 4294967296 % 65521 = (p.2 + (p.1 + bt s i) % 65521) % 65521; omega]
    rw [show wrap64 ((i : Int) + 1) = ((i + 1 : Nat) : Int) by unfold wrap64; omega, bytes_drop s i (by omega)]
    have h4 := stp_lt p (bt s i)
    exact ih k (i + 1) (stp p (bt s i)) (by unfold ok; omega) (by omega) (by omega)
theorem rsum_eq (s : ByteArray) (hs : s.size ≤ 140737488351232) (k : Nat) (hk : s.size < k) : emulsionref1_Tally.f k s = some (tv (sm s)) := by
  unfold emulsionref1_Tally.f
  have := rsum_l s hs s.size k 0 p0 p0_ok (by omega) hk
  simpa [p0, sm] using this
theorem num_eq {t : Int} (t0 : 0 ≤ t) (t1 : t < 4294967296) (k : Nat) (hk : 5 ≤ k) : emulsionref1_Num.f k (wrap64 t) 4 = some (four t) := by
  obtain ⟨k, rfl⟩ : ∃ m, k = m + 5 := ⟨k - 5, by omega⟩
  have hw : wrap64 t = t := by unfold wrap64; omega
  have a1 : Go.bits .and .i64 t 255 % 256 = t % 256 := by rw [and_255 t0 t1]; omega
  have a2 : Go.bits .and .i64 (t / 256) 255 % 256 = t / 256 % 256 := by rw [and_255 (by omega) (by omega)]; omega
  have a3 : Go.bits .and .i64 (t / 65536) 255 % 256 = t / 65536 % 256 := by rw [and_255 (by omega) (by omega)]; omega
  have a4 : Go.bits .and .i64 (t / 16777216) 255 % 256 = t / 16777216 % 256 := by rw [and_255 (by omega) (by omega)]; omega
  have b1 : wrap64 (Int.tdiv t 256) = t / 256 := by rw [Int.tdiv_eq_ediv_of_nonneg t0]; unfold wrap64; omega
  have b2 : wrap64 (Int.tdiv (t / 256) 256) = t / 65536 := by rw [Int.tdiv_eq_ediv_of_nonneg (by omega)]; unfold wrap64; omega
  have b3 : wrap64 (Int.tdiv (t / 65536) 256) = t / 16777216 := by rw [Int.tdiv_eq_ediv_of_nonneg (by omega)]; unfold wrap64; omega
  have c1 : wrap64 (0 + 1) = 1 := by unfold wrap64; omega
  have c2 : wrap64 (1 + 1) = 2 := by unfold wrap64; omega
  have c3 : wrap64 (2 + 1) = 3 := by unfold wrap64; omega
  have c4 : wrap64 (3 + 1) = 4 := by unfold wrap64; omega
  unfold emulsionref1_Num.f
  rw [hw]
  simp only [emulsionref1_Num.l0, List.length_append, List.length_cons, List.length_nil, List.nil_append, a1, a2, a3, a4, b1, b2, b3, c1, c2, c3, c4]
  rw [if_pos (by omega), if_pos (by omega), if_pos (by omega), if_pos (by omega), if_pos (by omega), if_pos (by omega), if_pos (by omega), if_pos (by omega), if_neg (by omega)]
  rfl
theorem tells1 (a b : ByteArray) (ha : a.size ≤ 3000) (hb : b.size ≤ 3000) (w : ByteArray) (e : Int) (k : Nat) (hk : a.size + b.size + 50 < k) : emulsionlaw12_TallyTells.j1 (k + 1) a b w e w e = some true := by
  simp only [emulsionlaw12_TallyTells.j1]
  have o1 := sm_ok a
  have o2 := tv_in o1
  have hz : (a ++ b).size = a.size + b.size := ByteArray.size_append
  have h3 : fd (sm a) (bytesOf b) = sm (a ++ b) := by unfold sm; rw [bytes_app, fd_append]
  rw [of_eq a (by omega) k (by omega), Option.bind_some, rsum_eq a (by omega) k (by omega), Option.bind_some, if_pos rfl, Option.bind_some, add_eq b (by omega) _ o1 k (by omega), Option.bind_some, if_pos (by omega), rsum_eq (a ++ b) (by omega) k (by omega), Option.bind_some, h3, if_pos rfl]
  rw [seal_eq a (by omega) k (by omega), Option.bind_some, Option.bind_some, num_eq o2.1 o2.2 k (by omega), Option.bind_some, if_pos (by rw [four_size]; omega)]
  rw [if_pos (by rfl), if_pos trivial, beq_self_eq_true]
theorem TallyTells : emulsionlaw12_TallyTells.Pure := by
  intro a b ha hb
  refine ⟨a.size + b.size + 98 + 1 + 1, ?_⟩
  unfold emulsionlaw12_TallyTells.f
  have hal : emulsionlaw12_TallyTells.j0 (a.size + b.size + 98 + 1 + 1) a b true = some true := by
    simp only [emulsionlaw12_TallyTells.j0]
    rw [if_pos trivial, alive_eq _ (by omega)]; rfl
  by_cases hg : (a.size : Int) > 3000
  · rw [if_pos hg]; exact hal
  rw [if_neg hg]
  by_cases hg2 : (b.size : Int) > 3000
  · rw [if_pos hg2]; exact hal
  rw [if_neg hg2, alive_eq _ (by omega), Option.bind_some]
  have T (w : ByteArray) (e : Int) := tells1 a b (by omega) (by omega) w e (a.size + b.size + 98) (by omega)
  simp only [emulsionlaw12_TallyTells.j0, Bool.not_true]
  rw [if_neg (by decide)]
  by_cases h4 : b.size < 4
  · rw [open_short b h4, Option.bind_some, if_neg (by unfold wrap64; omega)]
    exact T _ _
  · have hw : wrap64 ((b.size : Int) - 4) = ((b.size - 4 : Nat) : Int) := by unfold wrap64; omega
    have z1 : (b.extract 0 (b.size - 4)).size ≤ b.size := by rw [ByteArray.size_extract]; omega
    have o1 := tv_in (sm_ok (b.extract 0 (b.size - 4)))
    rw [open_long b (by omega) (by omega) _ (by omega), hw, Int.toNat_natCast]
    by_cases he : (four (tv (sm (b.extract 0 (b.size - 4))))).toList = (b.extract (b.size - 4) b.size).toList
    · rw [if_pos he, Option.bind_some, if_pos (by omega), if_pos (by omega), if_pos (by omega), rsum_eq _ (by omega) _ (by omega), Option.bind_some, num_eq o1.1 o1.2 _ (by omega), Option.bind_some, if_pos he.symm]
      exact T _ _
    · rw [if_neg he, Option.bind_some, if_pos (by omega), if_pos (by omega), if_pos (by omega), rsum_eq _ (by omega) _ (by omega), Option.bind_some, num_eq o1.1 o1.2 _ (by omega), Option.bind_some, if_neg (fun h => he h.symm)]
      exact T _ _

end Go.Proofs.Ythlegbnbefmfkaa.Pure
