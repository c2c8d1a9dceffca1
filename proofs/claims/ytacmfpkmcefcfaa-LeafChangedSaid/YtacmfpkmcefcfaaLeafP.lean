/- Pages of bytes and slots: what the functions come to (over their printed forms). -/
import Derived.Test.YtacmfpkmcefcfaaLeafs
import Derived.Test.YtacmfpkmcefcfaaSlot
import Derived.Test.YtacmfpkmcefcfaaAx30
import Derived.Test.YtacmfpkmcefcfaaAx31
import Derived.Test.YtacmfpkmcefcfaaAx33
import Derived.Test.YtacmfpkmcefcfaaAx34
import Derived.Test.YtacmfpkmcefcfaaAx35
import Derived.Test.YtacmfpkmcefcfaaAx5
import Derived.Test.YtacmfpkmcefcfaaAx6
namespace Go.Proofs.Ytacmfpkmcefcfaa.LeafP
open Go.RowKit Go.Proofs.Ytacmfpkmcefcfaa Go.Proofs.Ytacmfpkmcefcfaa.A Go.Proofs.YtacmfpkmcefcfaaW.PrintWords Go.Proofs.YtacmfpkmcefcfaaW.PrintLast Go.Proofs.Ytacmfpkmcefcfaa.Rot Go.Proofs.Ytacmfpkmcefcfaa.Fold Go.Proofs.Ytacmfpkmcefcfaa.Leafs Go.Proofs.Ytacmfpkmcefcfaa.Slot
set_option linter.unusedVariables false
set_option linter.unusedSimpArgs false
set_option maxRecDepth 20000
theorem add_l (s : ByteArray) (hs : s.size ≤ 140737488351232) (d : Nat) : ∀ (k i : Nat) (p : Int × Int), ok p → i + d = s.size → d < k →
    tally_Add.l0 k s p.1 p.2 (s.size : Int) (i : Int) = some (tv (fd p ((bytesOf s).drop i))) := by
  induction d with
  | zero =>
    intro k i p hp hd hk
    obtain ⟨k, rfl⟩ : ∃ m, k = m + 1 := ⟨k - 1, by omega⟩
    have hn : (bytesOf s).drop i = [] := List.drop_eq_nil_of_le (by rw [bytes_size]; omega)
    simp only [tally_Add.l0]; rw [if_neg (by omega), hn, or_join hp.1 hp.2.1 hp.2.2.1 hp.2.2.2]; rfl
  | succ d ih =>
    intro k i p hp hd hk
    obtain ⟨k, rfl⟩ : ∃ m, k = m + 1 := ⟨k - 1, by omega⟩
    have hb := bt_in s i
    have hp' := hp
    unfold ok at hp'
    simp only [tally_Add.l0]; rw [if_pos (by omega), if_pos (by omega), if_pos (by omega)]
    rw [show (p.1 + bt s i % 4294967296) % 4294967296 % 65521 = (stp p (bt s i)).1 by unfold stp; show _ = (p.1 + bt s i) % 65521; omega]
    rw [show (p.2 + (stp p (bt s i)).1) % 4294967296 % 65521 = (stp p (bt s i)).2 by unfold stp; show (p.2 + (p.1 + bt s i) % 65521) % 4294967296 % 65521 = (p.2 + (p.1 + bt s i) % 65521) % 65521; omega]
    rw [show wrap64 ((i : Int) + 1) = ((i + 1 : Nat) : Int) by unfold wrap64; omega, bytes_drop s i (by omega)]
    have h4 := stp_lt p (bt s i)
    exact ih k (i + 1) (stp p (bt s i)) (by unfold ok; omega) (by omega) (by omega)
theorem add_eq (s : ByteArray) (hs : s.size ≤ 140737488351232) (p : Int × Int) (hp : ok p) (k : Nat) (hk : s.size < k) : tally_Add.f k (tv p) s = some (tv (fd p (bytesOf s))) := by
  unfold tally_Add.f
  rw [and_low (tv_in hp).1 (tv_in hp).2, tv_low hp, tv_high hp]
  have := add_l s hs s.size k 0 p hp (by omega) hk
  simpa using this
theorem of_eq (s : ByteArray) (hs : s.size ≤ 140737488351232) (k : Nat) (hk : s.size < k) : tally_Of.f k s = some (tv (sm s)) := by
  unfold tally_Of.f
  have := add_eq s hs p0 p0_ok k hk
  rw [show tv p0 = 44257 by unfold tv p0; omega] at this
  rw [this]; rfl
theorem bytes_eq (t : Int) : Tb.tally_bytes.f t = some (four t) := rfl
theorem seal_eq (s : ByteArray) (hs : s.size ≤ 140737488351232) (k : Nat) (hk : s.size < k) : tally_Seal.f k s = some (seal_ s) := by
  unfold tally_Seal.f
  rw [of_eq s hs k hk, Option.bind_some, bytes_eq, Option.bind_some, if_pos (by rw [four_size]; omega)]; rfl
theorem open_short (b : ByteArray) (h : b.size < 4) (k : Nat) : tally_Open.f k b = some (⟨#[]⟩, 8) := by
  unfold tally_Open.f
  rw [if_pos (by unfold wrap64; omega)]
theorem open_long (b : ByteArray) (h : 4 ≤ b.size) (hs : b.size ≤ 140737488351232) (k : Nat) (hk : b.size < k) :
    tally_Open.f k b = if (four (tv (sm (b.extract 0 (b.size - 4))))).toList = (b.extract (b.size - 4) b.size).toList then some (b.extract 0 (b.size - 4), 0) else some (⟨#[]⟩, 6) := by
  unfold tally_Open.f
  have hw : wrap64 ((b.size : Int) - 4) = ((b.size - 4 : Nat) : Int) := by unfold wrap64; omega
  rw [hw, if_neg (by omega), if_pos (by omega), if_pos (by omega), Int.toNat_natCast]
  rw [of_eq _ (by rw [ByteArray.size_extract]; omega) k (by rw [ByteArray.size_extract]; omega), Option.bind_some, bytes_eq, Option.bind_some]
theorem open_seal (s : ByteArray) (hs : s.size ≤ 140737488350000) (k : Nat) (hk : s.size + 4 < k) : tally_Open.f k (seal_ s) = some (s, 0) := by
  have hz := seal_size s
  rw [open_long _ (by omega) (by omega) k (by omega)]
  have e1 : (seal_ s).extract 0 ((seal_ s).size - 4) = s := by unfold seal_ at hz ⊢; exact ByteArray.extract_append_eq_left (by omega)
  have e2 : (seal_ s).extract ((seal_ s).size - 4) (seal_ s).size = four (tv (sm s)) := by unfold seal_ at hz ⊢; exact ByteArray.extract_append_eq_right (by omega) (by rw [four_size]; omega)
  rw [e1, e2, if_pos rfl]
theorem lay_eq (b : ByteArray) (hb : b.size ≤ 27) (k : Nat) (hk : 100 ≤ k) : leaf_Lay.f k b = some (pg b, 0) := by
  unfold leaf_Lay.f
  have h1 := one_size ((b.size : Int) % 256)
  have h2 := body_size b hb
  have hw : wrap64 (28 - ((strOfNums [(b.size : Int) % 256] ++ b).size : Int)) = ((27 - b.size : Nat) : Int) := by rw [ByteArray.size_append, h1]; unfold wrap64; omega
  rw [if_neg (by omega), Option.bind_some, if_pos (by omega)]
  unfold leaf_seal.f
  rw [hw, repeat_zero _ (by omega) (by omega), Option.bind_some, Int.toNat_natCast, if_pos (by rw [ByteArray.size_append, h1, zs_size]; omega), seal_eq _ (by omega) k (by omega)]
  rfl
theorem lay_no (b : ByteArray) (hb : 27 < b.size) (k : Nat) : leaf_Lay.f k b = some (⟨#[]⟩, 1) := by
  unfold leaf_Lay.f
  rw [if_pos (by omega)]
theorem read_pg (b : ByteArray) (hb : b.size ≤ 27) (k : Nat) (hk : 100 ≤ k) : leaf_Read.f k (pg b) = some (b, 0) := by
  have h2 := body_size b hb
  have h3 := pg_size b hb
  unfold leaf_Read.f leaf_open.f
  rw [if_pos (by omega)]
  have := open_seal (strOfNums [(b.size : Int) % 256] ++ b ++ zs (27 - b.size)) (by omega) k (by omega)
  rw [show tally_Open.f k (pg b) = _ from this, Option.bind_some, Option.bind_some]
  simp only
  rw [if_pos trivial, if_pos (by omega), body_first b hb]
  have hw : wrap64 (b.size : Int) = b.size := by unfold wrap64; omega
  have hw2 : wrap64 (1 + (b.size : Int)) = ((1 + b.size : Nat) : Int) := by unfold wrap64; omega
  rw [hw, hw2, if_neg (by omega), if_pos (by omega), if_pos (by omega), Int.toNat_natCast, body_cut b hb, lay_eq b hb k hk, Option.bind_some, if_pos rfl]
theorem parts_l : ∀ (n k : Nat) (s : ByteArray) (acc : List ByteArray), s.size ≤ n → n < k → acc.length + n < 8796093022208 → s.size ≤ 1000000 → leaf_Parts.l0 k s acc = some (acc ++ pts n s)
  | 0, k, s, acc, hs, hk, ha, hz => by
    obtain ⟨k, rfl⟩ : ∃ m, k = m + 1 := ⟨k - 1, by omega⟩
    simp only [leaf_Parts.l0]
    rw [if_neg (by omega)]
    show some acc = some (acc ++ [])
    rw [List.append_nil]
  | n + 1, k, s, acc, hs, hk, ha, hz => by
    obtain ⟨k, rfl⟩ : ∃ m, k = m + 1 := ⟨k - 1, by omega⟩
    simp only [leaf_Parts.l0]
    unfold pts
    by_cases h0 : s.size = 0
    · rw [if_neg (by omega), if_pos h0, List.append_nil]
    · have hm : mn (s.size : Int) 27 = ((min s.size 27 : Nat) : Int) := by unfold mn; split <;> omega
      rw [if_pos (by omega), if_neg h0, hm, if_pos (by omega), if_pos (by omega), if_pos (by omega), Int.toNat_natCast]
      rw [parts_l n k _ _ (by rw [ByteArray.size_extract]; omega) (by omega) (by rw [List.length_append]; simp only [List.length_cons, List.length_nil]; omega) (by rw [ByteArray.size_extract]; omega)]
      rw [List.append_assoc]; rfl
theorem parts_eq (s : ByteArray) (hs : s.size ≤ 1000000) (k : Nat) (hk : s.size < k) : leaf_Parts.f k s = some (pts s.size s) := by
  unfold leaf_Parts.f
  rw [parts_l s.size k s [] (Nat.le_refl _) hk (by simp only [List.length_nil]; omega) hs, List.nil_append]
def need (n : Int) : Int := if n < 1 then 0 else (n - 1) / 27 + 1
theorem need_eq (n : Int) (h0 : -9223372036854775808 ≤ n) (h1 : n ≤ 9223372036854775807) : leaf_Need.f n = some (need n) := by
  unfold leaf_Need.f need
  split
  · rfl
  · have hw : wrap64 (n - 1) = n - 1 := by unfold wrap64; omega
    rw [hw, Int.tdiv_eq_ediv_of_nonneg (by omega)]
    have hw2 : wrap64 ((n - 1) / 27) = (n - 1) / 27 := by unfold wrap64; omega
    rw [hw2]
    congr 1
    unfold wrap64; omega
theorem need_parts (s : ByteArray) : need (s.size : Int) = ((pts s.size s).length : Int) := by
  rw [len_pts _ _ (Nat.le_refl _)]
  unfold need
  split <;> omega

/-! ### a seal, whatever is sealed -/
def bd (b : ByteArray) : ByteArray := b ++ zs (28 - b.size)
theorem bd_size (b : ByteArray) (h : b.size ≤ 28) : (bd b).size = 28 := by unfold bd; rw [ByteArray.size_append, zs_size]; omega
theorem lseal_eq (b : ByteArray) (hb : b.size ≤ 28) (k : Nat) (hk : 100 ≤ k) : leaf_seal.f k b = some (seal_ (bd b)) := by
  unfold leaf_seal.f
  have hw : wrap64 (28 - (b.size : Int)) = ((28 - b.size : Nat) : Int) := by unfold wrap64; omega
  rw [hw, repeat_zero _ (by omega) (by omega), Option.bind_some, Int.toNat_natCast, if_pos (by rw [zs_size]; omega), seal_eq _ (by rw [ByteArray.size_append, zs_size]; omega) k (by rw [ByteArray.size_append, zs_size]; omega)]
  rfl
theorem slot_body_size (gen : Int) (l : List Int) (h : l.length ≤ 11) : (leaf_Slot.body gen l).size ≤ 28 := by
  unfold leaf_Slot.body
  rw [strOfNums_size]
  simp only [List.length_append, Hand.leB_length]
  omega
/-- leaf.Slot tells something in any case; a page that it tells begins with 165. -/
theorem slot_tot (gen : Int) (l : List Int) (k : Nat) (hk : 100 ≤ k) : ∃ s e, leaf_Slot.f k gen l = some (s, e) ∧ (e = 0 → ∃ X, s = seal_ X ∧ X.size = 28 ∧ bt X 0 = 165) := by
  unfold leaf_Slot.f
  by_cases g1 : gen < 1
  · rw [if_pos g1]; exact ⟨_, _, rfl, fun h => by cases h⟩
  rw [if_neg g1]
  by_cases g2 : 1000000000 < gen
  · rw [if_pos g2]; exact ⟨_, _, rfl, fun h => by cases h⟩
  rw [if_neg g2]
  by_cases g3 : 11 < l.length
  · rw [if_pos g3]; exact ⟨_, _, rfl, fun h => by cases h⟩
  rw [if_neg g3]
  by_cases g4 : l.all okP = true
  · have hs := slot_body_size gen l (by omega)
    rw [if_pos g4, lseal_eq _ hs k hk, Option.bind_some]
    refine ⟨_, _, rfl, fun _ => ⟨_, rfl, bd_size _ hs, ?_⟩⟩
    have e : bytesOf (bd (leaf_Slot.body gen l)) = 165 :: (bytesOf (bd (leaf_Slot.body gen l))).drop 1 := by
      unfold bd leaf_Slot.body
      rw [bytes_app]
      rfl
    rw [← rd_bytesOf, e]
    rfl
  · rw [if_neg g4]; exact ⟨_, _, rfl, fun h => by cases h⟩
theorem slot_ok (gen : Int) (l : List Int) (h1 : 1 ≤ gen) (h2 : gen ≤ 1000000000) (h3 : l.length ≤ 11) (h4 : l.all okP = true) (k : Nat) (hk : 100 ≤ k) : ∃ X, leaf_Slot.f k gen l = some (seal_ X, 0) ∧ X.size = 28 ∧ bt X 0 = 165 := by
  obtain ⟨s, e, hs, hx⟩ := slot_tot gen l k hk
  have hs2 := slot_body_size gen l h3
  have : leaf_Slot.f k gen l = some (seal_ (bd (leaf_Slot.body gen l)), 0) := by
    unfold leaf_Slot.f
    rw [if_neg (by omega), if_neg (by omega), if_neg (by omega), if_pos h4, lseal_eq _ hs2 k hk, Option.bind_some]
  rw [this] at hs
  injection hs with hs
  injection hs with h5 h6
  obtain ⟨X, hX, hX2, hX3⟩ := hx h6.symm
  exact ⟨X, by rw [this, h5, hX], hX2, hX3⟩
theorem slot_no (gen : Int) (l : List Int) (h1 : gen < 1 ∨ 1000000000 < gen) (k : Nat) : leaf_Slot.f k gen l = some (⟨#[]⟩, 1) := by
  unfold leaf_Slot.f
  rcases h1 with h1 | h1
  · rw [if_pos h1]
  · rw [if_neg (by omega), if_pos h1]
theorem open_seal28 (X : ByteArray) (h : X.size = 28) (k : Nat) (hk : 100 ≤ k) : leaf_open.f k (seal_ X) = some (X, 0) := by
  unfold leaf_open.f
  rw [if_pos (by rw [seal_size]; omega), open_seal X (by omega) k (by omega), Option.bind_some]
/-- Another first byte: it is no page of bytes. -/
theorem read_slot (X : ByteArray) (h : X.size = 28) (hb : bt X 0 = 165) (k : Nat) (hk : 100 ≤ k) : leaf_Read.f k (seal_ X) = some (⟨#[]⟩, 6) := by
  unfold leaf_Read.f
  rw [open_seal28 X h k hk, Option.bind_some]
  simp only
  rw [if_pos trivial, if_pos (by omega), hb, if_pos (by unfold wrap64; decide)]
/-! ### numbers that are read tell something in any case -/
theorem take_tot (s : ByteArray) (bad : Bool) (n : Nat) : ∃ x is b bad', octets_In_take.f s bad (n : Int) = some (x, is, b, bad') ∧ (is = true → x.size = n) := by
  unfold octets_In_take.f
  by_cases h : bad = true
  · rw [if_pos h]; exact ⟨_, _, _, _, rfl, fun h => by cases h⟩
  rw [if_neg h]
  by_cases h2 : (n : Int) > (s.size : Int)
  · rw [if_pos h2]
    exact ⟨_, _, _, _, rfl, fun h => by cases h⟩
  · rw [if_neg h2, if_pos (by omega), if_pos (by omega)]
    exact ⟨_, _, _, _, rfl, fun _ => by rw [Int.toNat_natCast, ByteArray.size_extract]; omega⟩
theorem num_tot1 (s : ByteArray) (bad : Bool) (k : Nat) : ∃ v b bad', octets_In_Num.f (k + 2) s bad 1 = some (v, b, bad') := by
  obtain ⟨x, is, b, bad', h, hs⟩ := take_tot s bad 1
  unfold octets_In_Num.f
  rw [if_neg (by omega)]
  simp only [octets_In_Num.j0, octets_In_Num.j1]
  rw [if_neg (by decide)]
  rw [show octets_In_take.f s bad 1 = some (x, is, b, bad') from h, Option.bind_some]
  simp only
  by_cases hi : is = true
  · have := hs hi
    rw [if_pos hi, if_neg (by omega), if_neg (by omega), if_neg (by omega), if_pos trivial, if_pos (by omega)]
    exact ⟨_, _, _, rfl⟩
  · rw [if_neg hi]; exact ⟨_, _, _, rfl⟩
theorem num_tot4 (s : ByteArray) (bad : Bool) (k : Nat) : ∃ v b bad', octets_In_Num.f (k + 2) s bad 4 = some (v, b, bad') := by
  obtain ⟨x, is, b, bad', h, hs⟩ := take_tot s bad 4
  unfold octets_In_Num.f
  rw [if_neg (by omega)]
  simp only [octets_In_Num.j0, octets_In_Num.j1]
  rw [if_neg (by decide)]
  rw [show octets_In_take.f s bad 4 = some (x, is, b, bad') from h, Option.bind_some]
  simp only
  by_cases hi : is = true
  · have := hs hi
    rw [if_pos hi, if_pos trivial, if_pos (by omega), if_pos (by omega), if_pos (by omega), if_pos (by omega)]
    exact ⟨_, _, _, rfl⟩
  · rw [if_neg hi]; exact ⟨_, _, _, rfl⟩
/-! ### one byte is another -/
def lsum : List Int → Int
  | [] => 0
  | x :: l => x + lsum l
theorem lsum_app : ∀ a b : List Int, lsum (a ++ b) = lsum a + lsum b
  | [], b => by show lsum b = 0 + lsum b; omega
  | x :: a, b => by show x + lsum (a ++ b) = x + lsum a + lsum b; rw [lsum_app a b]; omega
theorem fd1 : ∀ (l : List Int) (p : Int × Int), 0 ≤ p.1 → p.1 < 65521 → (fd p l).1 = (p.1 + lsum l) % 65521
  | [], p, h0, h1 => by show p.1 = (p.1 + 0) % 65521; omega
  | c :: l, p, h0, h1 => by
    have hs := stp_lt p c
    show (fd (stp p c) l).1 = (p.1 + (c + lsum l)) % 65521
    rw [fd1 l (stp p c) hs.1 hs.2.1]
    show ((p.1 + c) % 65521 + lsum l) % 65521 = _
    omega
theorem four_bytes {t : Int} : bytesOf (four t) = [t % 256, t / 256 % 256, t / 65536 % 256, t / 16777216 % 256] := by
  unfold four
  have h : ∀ x : Int, ((UInt8.ofNat (x % 256).toNat).toNat : Int) = x % 256 := by intro x; simp; omega
  unfold bytesOf strOfNums
  simp only [List.map_cons, List.map_nil, h]
theorem four_inj {t u : Int} (t0 : 0 ≤ t) (t1 : t < 4294967296) (u0 : 0 ≤ u) (u1 : u < 4294967296) (h : bytesOf (four t) = bytesOf (four u)) : t = u := by
  rw [four_bytes, four_bytes] at h
  simp only [List.cons.injEq] at h
  omega
def chg (p : ByteArray) (k : Nat) (c : Int) : ByteArray := p.extract 0 k ++ strOfNums [c] ++ p.extract (k + 1) p.size
theorem chg_bytes (p : ByteArray) (k : Nat) (c : Int) (c0 : 0 ≤ c) (c1 : c < 256) : bytesOf (chg p k c) = (bytesOf p).take k ++ c :: (bytesOf p).drop (k + 1) := by
  unfold chg
  rw [bytes_app, bytes_app, bytes_cut, bytes_cut, List.append_assoc]
  have h1 : bytesOf (strOfNums [c]) = [c] := by
    unfold bytesOf strOfNums
    simp only [List.map_cons, List.map_nil]
    have : ((UInt8.ofNat c.toNat).toNat : Int) = c := by simp; omega
    rw [this]
  rw [h1, Nat.sub_zero, List.drop_zero]
  have : ((bytesOf p).drop (k + 1)).take (p.size - (k + 1)) = (bytesOf p).drop (k + 1) := List.take_of_length_le (by rw [List.length_drop, bytes_size]; exact Nat.le_refl _)
  rw [this]; rfl
theorem chg_size (p : ByteArray) (k : Nat) (c : Int) (h : k < p.size) : (chg p k c).size = p.size := by
  unfold chg
  rw [ByteArray.size_append, ByteArray.size_append, ByteArray.size_extract, ByteArray.size_extract, strOfNums_size]
  simp only [List.length_cons, List.length_nil]
  omega
/-- A sealed page of which one byte is another is not opened. -/
theorem open_chg (X : ByteArray) (hX : X.size = 28) (i : Nat) (hi : i < 32) (c : Int) (c0 : 0 ≤ c) (c1 : c < 256) (hne : bt (seal_ X) (i : Int) ≠ c) (k : Nat) (hk : 100 ≤ k) : leaf_open.f k (chg (seal_ X) i c) = some (⟨#[]⟩, 6) := by
  have hz : (seal_ X).size = 32 := by rw [seal_size]; omega
  have hz2 := chg_size (seal_ X) i c (by omega)
  unfold leaf_open.f
  rw [if_pos (by omega), open_long _ (by omega) (by omega) k (by omega), hz2, hz]
  rw [if_neg]
  · rfl
  intro h
  have h := congrArg bytesOf (toList_inj h)
  rw [bytes_cut, chg_bytes _ _ _ c0 c1] at h
  unfold sm at h
  rw [bytes_cut, chg_bytes _ _ _ c0 c1] at h
  have hL : bytesOf (seal_ X) = bytesOf X ++ bytesOf (four (tv (sm X))) := by unfold seal_; rw [bytes_app]
  have hXl : (bytesOf X).length = 28 := by rw [bytes_size, hX]
  have hFl : (bytesOf (four (tv (sm X)))).length = 4 := by rw [bytes_size, four_size]
  have hLl : (bytesOf (seal_ X)).length = 32 := by rw [bytes_size, hz]
  have hget : bt (seal_ X) (i : Int) = (bytesOf (seal_ X)).getD i 0 := by rw [← rd_bytesOf]; unfold rd; rw [Int.toNat_natCast]
  rw [hget] at hne
  generalize bytesOf (seal_ X) = L at *
  simp only [show 32 - 4 = 28 from rfl, List.drop_zero, Nat.sub_zero, show 32 - 28 = 4 from rfl] at h
  have hLi : L = L.take i ++ L.getD i 0 :: L.drop (i + 1) := by
    have e : L.getD i 0 = L[i]'(by omega) := by rw [List.getD_eq_getElem?_getD, List.getElem?_eq_getElem (by omega)]; rfl
    rw [e, ← List.drop_eq_getElem_cons (by omega), List.take_append_drop]
  have htl : (L.take i).length = i := by rw [List.length_take]; omega
  by_cases h28 : i < 28
  · -- within what is summed
    have e1 : (L.take i ++ c :: L.drop (i + 1)).take 28 = L.take i ++ c :: (L.drop (i + 1)).take (27 - i) := by
      rw [List.take_append, htl, List.take_of_length_le (show (L.take i).length ≤ 28 by omega), show 28 - i = (27 - i) + 1 by omega, List.take_succ_cons]
    have e2 : (L.take i ++ c :: L.drop (i + 1)).drop 28 = L.drop 28 := by
      rw [List.drop_append, htl, List.drop_of_length_le (show (L.take i).length ≤ 28 by omega), List.nil_append, show 28 - i = (27 - i) + 1 by omega, List.drop_succ_cons, List.drop_drop, show i + 1 + (27 - i) = 28 by omega]
    have e3 : L.drop 28 = bytesOf (four (tv (sm X))) := by rw [hL, ← hXl, List.drop_left]
    have e4 : bytesOf X = L.take i ++ L.getD i 0 :: (L.drop (i + 1)).take (27 - i) := by
      have : bytesOf X = L.take 28 := by rw [hL, ← hXl, List.take_left]
      rw [this]
      conv => lhs; rw [hLi]
      rw [List.take_append, htl, List.take_of_length_le (show (L.take i).length ≤ 28 by omega), show 28 - i = (27 - i) + 1 by omega, List.take_succ_cons]
    rw [e1, e2, e3, List.take_of_length_le (show (bytesOf (four (tv (sm X)))).length ≤ 4 by omega)] at h
    have hb := (bt_in (seal_ X) (i : Int))
    have k1 := fd_lt (L.take i ++ c :: (L.drop (i + 1)).take (27 - i)) p0 p0_lt
    have k2 := fd_lt (bytesOf X) p0 p0_lt
    have o1 : ok (fd p0 (L.take i ++ c :: (L.drop (i + 1)).take (27 - i))) := fd_ok _ _ p0_ok
    have h5 := four_inj (tv_in o1).1 (tv_in o1).2 (tv_in (sm_ok X)).1 (tv_in (sm_ok X)).2 h
    have h6 : (fd p0 (L.take i ++ c :: (L.drop (i + 1)).take (27 - i))).1 = (fd p0 (bytesOf X)).1 := by
      have a1 := tv_low o1
      have a2 := tv_low (sm_ok X)
      rw [h5, a2] at a1
      exact a1.symm
    rw [fd1 _ _ p0_lt.1 p0_lt.2.1, fd1 _ _ p0_lt.1 p0_lt.2.1, e4, lsum_app, lsum_app] at h6
    rw [hget] at hb
    simp only [lsum] at h6
    omega
  · -- within the sum itself
    have e1 : (L.take i ++ c :: L.drop (i + 1)).take 28 = bytesOf X := by
      rw [List.take_append, htl, show 28 - i = 0 by omega, List.take_zero, List.append_nil, List.take_take, show min 28 i = 28 by omega, hL, ← hXl, List.take_left]
    rw [e1] at h
    have e3 : L.drop 28 = bytesOf (four (tv (sm X))) := by rw [hL, ← hXl, List.drop_left]
    have h7 : (L.take i ++ c :: L.drop (i + 1)).drop 28 = L.drop 28 := by
      rw [List.take_of_length_le (by simp only [List.length_drop, List.length_append, List.length_cons, htl]; omega)] at h
      rw [e3]
      exact h.symm
    have h8 := congrArg (fun l => l.getD (i - 28) 0) h7
    simp only [List.getD_eq_getElem?_getD, List.getElem?_drop, show 28 + (i - 28) = i by omega] at h8
    rw [List.getElem?_append_right (by omega), htl, Nat.sub_self] at h8
    simp only [List.getElem?_cons_zero, Option.getD_some] at h8
    rw [List.getD_eq_getElem?_getD] at hne
    exact hne h8.symm
end Go.Proofs.Ytacmfpkmcefcfaa.LeafP
