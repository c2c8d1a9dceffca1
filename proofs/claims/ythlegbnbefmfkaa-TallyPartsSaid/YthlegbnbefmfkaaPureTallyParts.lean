/- Proved here: a sum goes on where it was left, wherever bytes of at most 3000 are cut; no condition. -/
import Derived.Test.YthlegbnbefmfkaaETallyPartsx1
import Derived.Test.YthlegbnbefmfkaaFold
namespace Go.Proofs.Ythlegbnbefmfkaa.Pure
open Go.RowKit Go.Proofs.Ythlegbnbefmfkaa Go.Proofs.Ythlegbnbefmfkaa.ETallyParts Go.Proofs.YthlegbnbefmfkaaW.PrintWords Go.Proofs.YthlegbnbefmfkaaW.PrintLast Go.Proofs.Ythlegbnbefmfkaa.Rot Go.Proofs.Ythlegbnbefmfkaa.Fold
set_option linter.unusedVariables false
set_option linter.unusedSimpArgs false
set_option maxRecDepth 20000

theorem wf64 {x : Int} (h : (Lit.int .i64 x).wf = true) : -9223372036854775808 ≤ x ∧ x ≤ 9223372036854775807 := by
  simp [Lit.wf, IntKind.min, IntKind.max, IntKind.signed, IntKind.bits] at h; omega
theorem add_l (s : ByteArray) (hs : s.size ≤ 140737488351232) (d : Nat) : ∀ (k i : Nat) (p : Int × Int), ok p → i + d = s.size → d < k →
    tally_Add.l0 k s p.1 p.2 (s.size : Int) (i : Int) = some (tv (fd p ((bytesOf s).drop i))) := by
  induction d with
  | zero =>
    intro k i p hp hd hk
    obtain ⟨k, rfl⟩ : ∃ m, k = m + 1 := ⟨k - 1, by omega⟩
    have hn : (bytesOf s).drop i = [] := List.drop_eq_nil_of_le (by rw [bytes_size]; omega)
    simp only [tally_Add.l0]; rw [if_neg (by omega), hn, or_join hp.1 hp.2.1 hp.2.2.1 hp.2.2.2]; rfl
  | succ d ih =>
    intro k i p hp hd hk
    obtain ⟨k, rfl⟩ : ∃ m, k = m + 1 := ⟨k - 1, by omega⟩
    have hb := bt_in s i
    have hp' := hp
    unfold ok at hp'
    simp only [tally_Add.l0]; rw [if_pos (by omega), if_pos (by omega), if_pos (by omega)]
    rw [show (p.1 + bt s i % 4294967296) % 4294967296 % 65521 = (stp p (bt s i)).1 by unfold stp; show _ = (p.1 + bt s i) % 65521; omega]
    rw [show (p.2 + (stp p (bt s i)).1) % 4294967296 % 65521 = (stp p (bt s i)).2 by unfold stp; show (p.2 + (p.1 + bt s i) % 65521) % 4294967296 % 65521 = (p.2 + (p.1 + bt s i) % 65521) % 65521; omega]
    rw [show wrap64 ((i : Int) + 1) = ((i + 1 : Nat) : Int) by unfold wrap64; omega, bytes_drop s i (by omega)]
    have h4 := stp_lt p (bt s i)
    exact ih k (i + 1) (stp p (bt s i)) (by unfold ok; omega) (by omega) (by omega)
theorem add_eq (s : ByteArray) (hs : s.size ≤ 140737488351232) (p : Int × Int) (hp : ok p) (k : Nat) (hk : s.size < k) : tally_Add.f k (tv p) s = some (tv (fd p (bytesOf s))) := by
  unfold tally_Add.f
  rw [and_low (tv_in hp).1 (tv_in hp).2, tv_low hp, tv_high hp]
  have := add_l s hs s.size k 0 p hp (by omega) hk
  simpa using this
theorem of_eq (s : ByteArray) (hs : s.size ≤ 140737488351232) (k : Nat) (hk : s.size < k) : tally_Of.f k s = some (tv (sm s)) := by
  unfold tally_Of.f
  have := add_eq s hs p0 p0_ok k hk
  rw [show tv p0 = 44257 by unfold tv p0; omega] at this
  rw [this]; rfl
theorem bytes_eq (t : Int) : Tb.tally_bytes.f t = some (four t) := rfl
def seal_ (s : ByteArray) : ByteArray := s ++ four (tv (sm s))
theorem seal_size (s : ByteArray) : (seal_ s).size = s.size + 4 := by unfold seal_; rw [ByteArray.size_append, four_size]
theorem seal_eq (s : ByteArray) (hs : s.size ≤ 140737488351232) (k : Nat) (hk : s.size < k) : tally_Seal.f k s = some (seal_ s) := by
  unfold tally_Seal.f
  rw [of_eq s hs k hk, Option.bind_some, bytes_eq, Option.bind_some, if_pos (by rw [four_size]; omega)]; rfl
theorem open_short (b : ByteArray) (h : b.size < 4) (k : Nat) : tally_Open.f k b = some (⟨#[]⟩, 8) := by
  unfold tally_Open.f
  rw [if_pos (by unfold wrap64; omega)]
theorem open_long (b : ByteArray) (h : 4 ≤ b.size) (hs : b.size ≤ 140737488351232) (k : Nat) (hk : b.size < k) :
    tally_Open.f k b = if (four (tv (sm (b.extract 0 (b.size - 4))))).toList = (b.extract (b.size - 4) b.size).toList then some (b.extract 0 (b.size - 4), 0) else some (⟨#[]⟩, 6) := by
  unfold tally_Open.f
  have hw : wrap64 ((b.size : Int) - 4) = ((b.size - 4 : Nat) : Int) := by unfold wrap64; omega
  rw [hw, if_neg (by omega), if_pos (by omega), if_pos (by omega), Int.toNat_natCast]
  rw [of_eq _ (by rw [ByteArray.size_extract]; omega) k (by rw [ByteArray.size_extract]; omega), Option.bind_some, bytes_eq, Option.bind_some]
theorem open_seal (s : ByteArray) (hs : s.size ≤ 140737488350000) (k : Nat) (hk : s.size + 4 < k) : tally_Open.f k (seal_ s) = some (s, 0) := by
  have hz := seal_size s
  rw [open_long _ (by omega) (by omega) k (by omega)]
  have e1 : (seal_ s).extract 0 ((seal_ s).size - 4) = s := by unfold seal_ at hz ⊢; exact ByteArray.extract_append_eq_left (by omega)
  have e2 : (seal_ s).extract ((seal_ s).size - 4) (seal_ s).size = four (tv (sm s)) := by unfold seal_ at hz ⊢; exact ByteArray.extract_append_eq_right (by omega) (by rw [four_size]; omega)
  rw [e1, e2, if_pos rfl]
theorem alive_eq (k : Nat) (hk : 40 ≤ k) : emulsionlaw12_alive.f k = some true := by
  unfold emulsionlaw12_alive.f
  have hz : (⟨#[97, 98, 99]⟩ : ByteArray).size = 3 := rfl
  have hn : (⟨#[]⟩ : ByteArray).size = 0 := rfl
  rw [seal_eq _ (by rw [hz]; omega) k (by rw [hz]; omega), Option.bind_some, open_seal _ (by rw [hz]; omega) k (by rw [hz]; omega), Option.bind_some, of_eq _ (by rw [hn]; omega) k (by rw [hn]; omega), Option.bind_some]
  rw [show tv (sm ⟨#[]⟩) = 44257 by decide, if_pos rfl, if_pos rfl, if_pos (by simp [ByteArray.toList_eq]), seal_eq _ (by rw [hn]; omega) k (by rw [hn]; omega), Option.bind_some, seal_size, hn]
  rfl

theorem place {n a : Int} (n0 : 0 ≤ n) (n1 : n ≤ 3000) : ∃ r : Nat, Int.tmod (wrap64 ((wrap64 ((Int.tmod a (wrap64 (n + 1))) + n)) + 1)) (wrap64 (n + 1)) = (r : Int) ∧ (r : Int) ≤ n := by
  have h1 : wrap64 (n + 1) = n + 1 := by unfold wrap64; omega
  rw [h1]
  have hm : -(n + 1) < Int.tmod a (n + 1) ∧ Int.tmod a (n + 1) < n + 1 := ⟨by have := Int.lt_tmod_of_pos a (b := n + 1) (by omega); omega, Int.tmod_lt_of_pos a (by omega)⟩
  have h2 : wrap64 (Int.tmod a (n + 1) + n) = Int.tmod a (n + 1) + n := by unfold wrap64; omega
  have h3 : wrap64 (Int.tmod a (n + 1) + n + 1) = Int.tmod a (n + 1) + n + 1 := by unfold wrap64; omega
  rw [h2, h3]
  have h4 : 0 ≤ Int.tmod (Int.tmod a (n + 1) + n + 1) (n + 1) := Int.tmod_nonneg _ (by omega)
  have h5 := Int.tmod_lt_of_pos (Int.tmod a (n + 1) + n + 1) (b := n + 1) (by omega)
  exact ⟨(Int.tmod (Int.tmod a (n + 1) + n + 1) (n + 1)).toNat, by omega, by omega⟩
theorem three (l : List Int) (a b : Nat) (h : a ≤ b) (hb : b ≤ l.length) (p : Int × Int) : fd (fd (fd p ((l.drop 0).take (a - 0))) ((l.drop a).take (b - a))) ((l.drop b).take (l.length - b)) = fd p l := by
  rw [← fd_append, ← fd_append, List.drop_zero, Nat.sub_zero, ← List.append_assoc, ← List.take_add, show a + (b - a) = b by omega, ← List.take_add, show b + (l.length - b) = l.length by omega, List.take_length]
theorem parts (s : ByteArray) (hs : s.size ≤ 3000) (a b : Nat) (h : a ≤ b) (hb : b ≤ s.size) (k : Nat) (hk : s.size < k) : emulsionlaw12_TallyParts.j1 (k + 1) s (a : Int) (b : Int) = some true := by
  simp only [emulsionlaw12_TallyParts.j1]
  have z1 : (s.extract 0 a).size ≤ s.size := by rw [ByteArray.size_extract]; omega
  have z2 : (s.extract a b).size ≤ s.size := by rw [ByteArray.size_extract]; omega
  have z3 : (s.extract b s.size).size ≤ s.size := by rw [ByteArray.size_extract]; omega
  have o1 := sm_ok (s.extract 0 a)
  have o2 := fd_ok (bytesOf (s.extract a b)) _ o1
  rw [Int.toNat_natCast, Int.toNat_natCast, if_pos (by omega), if_pos (by omega), of_eq _ (by omega) k (by omega), Option.bind_some, if_pos (by omega), if_pos (by omega), add_eq _ (by omega) _ o1 k (by omega), Option.bind_some, if_pos (by omega), add_eq _ (by omega) _ o2 k (by omega), Option.bind_some, of_eq s (by omega) k hk, Option.bind_some]
  have e : fd (fd (sm (s.extract 0 a)) (bytesOf (s.extract a b))) (bytesOf (s.extract b s.size)) = sm s := by
    unfold sm
    rw [bytes_cut, bytes_cut, bytes_cut]
    have := three (bytesOf s) a b h (by rw [bytes_size]; exact hb) p0
    rwa [bytes_size] at this
  have hn : (⟨#[]⟩ : ByteArray).size = 0 := rfl
  rw [e, if_pos rfl, add_eq _ (by rw [hn]; omega) _ (sm_ok s) k (by rw [hn]; omega), Option.bind_some]
  rw [show bytesOf ⟨#[]⟩ = [] from rfl]
  show some (tv (sm s) == tv (sm s)) = some true
  rw [beq_self_eq_true]
theorem TallyParts : emulsionlaw12_TallyParts.Pure := by
  intro s a b hs wa wb
  refine ⟨s.size + 98 + 1 + 1, ?_⟩
  unfold emulsionlaw12_TallyParts.f
  by_cases hg : (s.size : Int) > 3000
  · rw [if_pos hg]
    simp only [emulsionlaw12_TallyParts.j0]
    rw [if_pos trivial, alive_eq _ (by omega)]; rfl
  rw [if_neg hg, alive_eq _ (by omega), Option.bind_some]
  simp only [emulsionlaw12_TallyParts.j0, Bool.not_true]
  obtain ⟨x, hx, hx1⟩ := place (n := (s.size : Int)) (a := a) (by omega) (by omega)
  obtain ⟨y, hy, hy1⟩ := place (n := (s.size : Int)) (a := b) (by omega) (by omega)
  rw [if_neg (by decide), if_neg (by unfold wrap64; omega), hx, hy]
  by_cases h : (x : Int) > (y : Int)
  · rw [if_pos h]; exact parts s (by omega) y x (by omega) (by omega) _ (by omega)
  · rw [if_neg h]; exact parts s (by omega) x y (by omega) (by omega) _ (by omega)

end Go.Proofs.Ythlegbnbefmfkaa.Pure
