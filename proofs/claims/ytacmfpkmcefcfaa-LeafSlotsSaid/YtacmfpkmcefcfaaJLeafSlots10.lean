/- Parts of the proof for LeafSlots: RefIn, Li13, SlotP, WaLeafSlots. -/
import Derived.Test.YtacmfpkmcefcfaaJLeafSlots5
import Derived.Test.YtacmfpkmcefcfaaJLeafSlots6
import Derived.Test.YtacmfpkmcefcfaaJLeafSlots4
import Derived.Test.YtacmfpkmcefcfaaJLeafSlots1
import Derived.Test.YtacmfpkmcefcfaaJLeafSlots7
import Derived.Test.YtacmfpkmcefcfaaJLeafSlots8
import Derived.Test.YtacmfpkmcefcfaaJLeafSlots9
section
namespace Go.Proofs.Ytacmfpkmcefcfaa.Hand
open Go.RowKit Go.Proofs.YtacmfpkmcefcfaaW.PrintWords Go.Proofs.YtacmfpkmcefcfaaW.PrintLast Go.Proofs.YtacmfpkmcefcfaaW.PrintMore Go.Proofs.Ytacmfpkmcefcfaa.A Go.Proofs.Ytacmfpkmcefcfaa.Maps Go.Proofs.Ytacmfpkmcefcfaa.ExtP
set_option linter.unusedVariables false
set_option linter.unusedSimpArgs false
attribute [local go_sem] max2_int min2_int max_two min_two max_three min_three max_four min_four
/-- The reference's In. -/
def RefAt (w : World) (base g : Nat) (s : ByteArray) (b : Bool) : Prop := Blk w g 50 #[.string s, .bool b] ∧ base ≤ g
theorem RefAt.keep {w w1 : World} {base g : Nat} {s : ByteArray} {b : Bool} (h : RefAt w base g s b) (hb : Below w.heap.size w w1) : RefAt w1 base g s b := ⟨h.1.keep hb, h.2⟩
theorem leV_lt : ∀ l : List Int, (∀ x ∈ l, 0 ≤ x ∧ x < 256) → leV l < 256 ^ l.length
  | [], _ => by simp [leV]
  | x :: l, h => by
    have h1 := h x (by simp)
    have h2 := leV_lt l (fun y hy => h y (by simp [hy]))
    unfold leV
    rw [List.length_cons, Int.pow_succ]
    omega
theorem rvalue_l0 (s : ByteArray) (hs : s.size ≤ 4) : ∀ (d k : Nat) (v : Int), d ≤ s.size → d < k → v = leV ((bytesOf s).drop d) → emulsionref1_Value.l0 k s v ((d : Int) - 1) = some (leV (bytesOf s))
  | 0, k, v, hd, hk, hv => by
    obtain ⟨k, rfl⟩ : ∃ m, k = m + 1 := ⟨k - 1, by omega⟩
    simp only [emulsionref1_Value.l0]
    rw [if_neg (by omega), hv, List.drop_zero]
  | d + 1, k, v, hd, hk, hv => by
    obtain ⟨k, rfl⟩ : ∃ m, k = m + 1 := ⟨k - 1, by omega⟩
    simp only [emulsionref1_Value.l0]
    have e : ((d + 1 : Nat) : Int) - 1 = (d : Int) := by omega
    have hl : d < (bytesOf s).length := by rw [bytesOf_length]; omega
    have hdr : (bytesOf s).drop d = bt s (d : Int) :: (bytesOf s).drop (d + 1) := by rw [← bytes_get s d hl]; exact List.drop_eq_getElem_cons hl
    have hb := bt_range s (d : Int)
    have h0 : 0 ≤ v := by rw [hv]; exact leV_in _ (fun x hx => bytes_in s x (List.mem_of_mem_drop hx))
    have h1 : v < 256 ^ 3 := by
      rw [hv]
      have h2 := leV_lt ((bytesOf s).drop (d + 1)) (fun x hx => bytes_in s x (List.mem_of_mem_drop hx))
      have h3 : ((bytesOf s).drop (d + 1)).length ≤ 3 := by rw [List.length_drop, bytesOf_length]; omega
      generalize ((bytesOf s).drop (d + 1)).length = q at *
      rcases (show q = 0 ∨ q = 1 ∨ q = 2 ∨ q = 3 by omega) with rfl | rfl | rfl | rfl <;> omega
    have h1' : v < 16777216 := h1
    rw [e, if_pos (by omega), if_pos (by omega), if_pos (by omega)]
    have hw : wrap64 (wrap64 (v * 256) + wrap64 (bt s (d : Int))) = v * 256 + bt s (d : Int) := by unfold wrap64; omega
    have hw2 : wrap64 ((d : Int) - 1) = (d : Int) - 1 := by unfold wrap64; omega
    rw [hw, hw2]
    refine rvalue_l0 s hs d k _ (by omega) (by omega) ?_
    rw [hdr]
    unfold leV
    rw [hv]
    omega
theorem rvalue (s : ByteArray) (hs : s.size ≤ 4) (k : Nat) (hk : 5 < k) : emulsionref1_Value.f k s = some (leV (bytesOf s)) := by
  unfold emulsionref1_Value.f
  have : wrap64 ((s.size : Int) - 1) = (s.size : Int) - 1 := by unfold wrap64; omega
  rw [this]
  exact rvalue_l0 s hs s.size k 0 (Nat.le_refl _) (by omega) (by rw [List.drop_of_length_le (by rw [bytesOf_length]; omega)]; rfl)
end Go.Proofs.Ytacmfpkmcefcfaa.Hand
end
section
namespace Go.Proofs.Ytacmfpkmcefcfaa.Hand
open Go.RowKit Go.Proofs.YtacmfpkmcefcfaaW.PrintWords Go.Proofs.YtacmfpkmcefcfaaW.PrintLast Go.Proofs.YtacmfpkmcefcfaaW.PrintMore Go.Proofs.Ytacmfpkmcefcfaa.A Go.Proofs.Ytacmfpkmcefcfaa.Maps Go.Proofs.Ytacmfpkmcefcfaa.ExtP
set_option linter.unusedVariables false
set_option linter.unusedSimpArgs false
attribute [local go_sem] max2_int min2_int max_two min_two max_three min_three max_four min_four
theorem rnum_l0 : ∀ (d k i : Nat) (v : Int) (acc : List Int), d < k → 0 ≤ v → v ≤ 4294967295 → acc.length = i → i + d ≤ 1000 → emulsionref1_Num.l0 k v ((i + d : Nat) : Int) acc (i : Int) = some (strOfNums (acc ++ leB d v))
  | 0, k, i, v, acc, hk, _, _, _, _ => by
    obtain ⟨k, rfl⟩ : ∃ m, k = m + 1 := ⟨k - 1, by omega⟩
    simp only [emulsionref1_Num.l0]
    rw [if_neg (by omega)]
    simp [leB]
  | d + 1, k, i, v, acc, hk, h0, h1, hl, hd => by
    obtain ⟨k, rfl⟩ : ∃ m, k = m + 1 := ⟨k - 1, by omega⟩
    simp only [emulsionref1_Num.l0]
    rw [if_pos (by omega), if_pos (by omega)]
    have e1 : wrap64 (Int.tdiv v 256) = v / 256 := by rw [Int.tdiv_eq_ediv_of_nonneg h0]; unfold wrap64; omega
    have e2 : Go.bits .and .i64 v 255 % 256 = v % 256 := by rw [Fold.and_255 h0 (by omega)]; omega
    have e3 : wrap64 ((i : Int) + 1) = ((i + 1 : Nat) : Int) := by unfold wrap64; omega
    rw [e1, e2, e3, show i + (d + 1) = (i + 1) + d by omega, rnum_l0 d k (i + 1) (v / 256) (acc ++ [v % 256]) (by omega) (by omega) (by omega) (by rw [List.length_append, hl]; rfl) (by omega)]
    simp [leB, List.append_assoc]
theorem rnum (v : Int) (n : Nat) (h0 : 0 ≤ v) (h1 : v ≤ 4294967295) (hn : n ≤ 1000) (k : Nat) (hk : n < k) : emulsionref1_Num.f k v (n : Int) = some (strOfNums (leB n v)) := by
  unfold emulsionref1_Num.f
  have := rnum_l0 n k 0 v [] hk h0 h1 rfl (by omega)
  rw [Nat.zero_add] at this
  exact this
theorem str_app (a b : List Int) : strOfNums (a ++ b) = strOfNums a ++ strOfNums b := by
  apply ba_ext
  unfold strOfNums
  simp
end Go.Proofs.Ytacmfpkmcefcfaa.Hand
end
section
namespace Go.Proofs.Ytacmfpkmcefcfaa.SlotP
open Go.RowKit Go.Proofs.Ytacmfpkmcefcfaa Go.Proofs.YtacmfpkmcefcfaaW.PrintWords Go.Proofs.YtacmfpkmcefcfaaW.PrintLast Go.Proofs.Ytacmfpkmcefcfaa.A Go.Proofs.Ytacmfpkmcefcfaa.B Go.Proofs.Ytacmfpkmcefcfaa.Fold Go.Proofs.Ytacmfpkmcefcfaa.Leafs Go.Proofs.Ytacmfpkmcefcfaa.LeafP Go.Proofs.Ytacmfpkmcefcfaa.Slot
set_option linter.unusedVariables false
set_option linter.unusedSimpArgs false
set_option maxRecDepth 20000
/-- May a slot be? -/
def okS (gen : Int) (l : List Int) : Prop := 1 ≤ gen ∧ gen ≤ 1000000000 ∧ l.length ≤ 11 ∧ l.all okP = true
instance (gen : Int) (l : List Int) : Decidable (okS gen l) := by unfold okS; infer_instance
def slotB (gen : Int) (l : List Int) : ByteArray := seal_ (bd (leaf_Slot.body gen l))
theorem slot_full (gen : Int) (l : List Int) (k : Nat) (hk : 100 ≤ k) : leaf_Slot.f k gen l = some (if okS gen l then (slotB gen l, 0) else (⟨#[]⟩, 1)) := by
  unfold leaf_Slot.f
  by_cases h1 : gen < 1
  · rw [if_pos h1, if_neg (fun h : okS gen l => by have := h.1; omega)]
  rw [if_neg h1]
  by_cases h2 : 1000000000 < gen
  · rw [if_pos h2, if_neg (fun h : okS gen l => by have := h.2.1; omega)]
  rw [if_neg h2]
  by_cases h3 : 11 < l.length
  · rw [if_pos h3, if_neg (fun h : okS gen l => by have := h.2.2.1; omega)]
  rw [if_neg h3]
  by_cases h4 : l.all okP = true
  · rw [if_pos h4, lseal_eq _ (slot_body_size gen l (by omega)) k hk, Option.bind_some, if_pos (show okS gen l from ⟨by omega, by omega, by omega, h4⟩)]
    rfl
  · rw [if_neg h4, if_neg (fun h : okS gen l => h4 h.2.2.2)]
theorem rzeros (n : Int) (h0 : 0 ≤ n) (h1 : n ≤ 1000000) : emulsionref1_Zeros.f n = some (zs n.toNat) := by
  unfold emulsionref1_Zeros.f
  rw [if_pos h0, if_pos (by omega)]; rfl
theorem rsum_l (s : ByteArray) (hs : s.size ≤ 140737488351232) (d : Nat) : ∀ (k i : Nat) (p : Int × Int), ok p → i + d = s.size → d < k →
    emulsionref1_Tally.l0 k s p.1 p.2 (i : Int) = some (tv (fd p ((bytesOf s).drop i))) := by
  induction d with
  | zero =>
    intro k i p hp hd hk
    obtain ⟨k, rfl⟩ : ∃ m, k = m + 1 := ⟨k - 1, by omega⟩
    have hn : (bytesOf s).drop i = [] := List.drop_eq_nil_of_le (by rw [bytes_size]; omega)
    unfold ok at hp
    simp only [emulsionref1_Tally.l0]; rw [if_neg (by omega), hn]
    show some _ = some (p.2 * 65536 + p.1)
    congr 1
    omega
  | succ d ih =>
    intro k i p hp hd hk
    obtain ⟨k, rfl⟩ : ∃ m, k = m + 1 := ⟨k - 1, by omega⟩
    have hb := bt_in s i
    have hp' := hp
    unfold ok at hp'
    simp only [emulsionref1_Tally.l0]; rw [if_pos (by omega), if_pos (by omega)]
    rw [show (p.1 + bt s i % 4294967296) % 4294967296 % 65521 = (stp p (bt s i)).1 by unfold stp; show _ = (p.1 + bt s i) % 65521; omega]
    rw [show (p.2 + (stp p (bt s i)).1) % 4294967296 % 65521 = (stp p (bt s i)).2 by unfold stp; show (p.2 + (p.1 + bt s i) % 65521) % 4294967296 % 65521 = (p.2 + (p.1 + bt s i) % 65521) % 65521; omega]
    rw [show wrap64 ((i : Int) + 1) = ((i + 1 : Nat) : Int) by unfold wrap64; omega, bytes_drop s i (by omega)]
    have h4 := stp_lt p (bt s i)
    exact ih k (i + 1) (stp p (bt s i)) (by unfold ok; omega) (by omega) (by omega)
theorem rsum_eq (s : ByteArray) (hs : s.size ≤ 140737488351232) (k : Nat) (hk : s.size < k) : emulsionref1_Tally.f k s = some (tv (sm s)) := by
  unfold emulsionref1_Tally.f
  have := rsum_l s hs s.size k 0 p0 p0_ok (by omega) hk
  simpa [p0, sm] using this
theorem four_le (t : Int) (h0 : 0 ≤ t) (h1 : t < 4294967296) : four t = strOfNums (Hand.leB 4 t) := by
  rw [Hand.leB_4 t h0 (by omega)]
  unfold four
  rw [show t / 16777216 % 256 = t / 16777216 by omega]
theorem rpage (b : ByteArray) (hb : b.size ≤ 28) (k : Nat) (hk : 100 ≤ k) : emulsionref14_page.f k b = some (seal_ (bd b)) := by
  unfold emulsionref14_page.f
  have hw : wrap64 (28 - (b.size : Int)) = ((28 - b.size : Nat) : Int) := by unfold wrap64; omega
  have hz : (b ++ zs (28 - b.size)).size = 28 := bd_size b hb
  have o2 := tv_in (sm_ok (b ++ zs (28 - b.size)))
  have hw2 : wrap64 (tv (sm (b ++ zs (28 - b.size)))) = tv (sm (b ++ zs (28 - b.size))) := by unfold wrap64; omega
  rw [hw, rzeros _ (by omega) (by omega), Option.bind_some, Int.toNat_natCast, if_pos (by rw [zs_size]; omega), rsum_eq _ (by omega) k (by omega), Option.bind_some, hw2, show (4 : Int) = ((4 : Nat) : Int) from rfl, Hand.rnum _ 4 o2.1 (by omega) (by omega) k (by omega), Option.bind_some, if_pos (by rw [hz, strOfNums_size, Hand.leB_length]; omega)]
  show some _ = some (b ++ zs (28 - b.size) ++ four (tv (sm (b ++ zs (28 - b.size)))))
  rw [four_le _ o2.1 o2.2]
theorem rslot_l0 (gen : Int) (l : List Int) (hl : l.length ≤ 11) : ∀ (d k i : Nat) (M : List Int), i + d = l.length → 110 + d < k → M.length = 6 + i →
    emulsionref14_Slot.l0 k l (strOfNums M) (i : Int) = some (if (l.drop i).all okP = true then (seal_ (bd (strOfNums (M ++ l.drop i))), true) else (⟨#[]⟩, false))
  | 0, k, i, M, hd, hk, hM => by
    obtain ⟨k, rfl⟩ : ∃ m, k = m + 1 := ⟨k - 1, by omega⟩
    simp only [emulsionref14_Slot.l0]
    rw [if_neg (by omega), List.drop_of_length_le (by omega), List.append_nil, if_pos (show ([] : List Int).all okP = true from rfl), rpage _ (by rw [strOfNums_size]; omega) k (by omega), Option.bind_some]
  | d + 1, k, i, M, hd, hk, hM => by
    obtain ⟨k, rfl⟩ : ∃ m, k = m + 1 := ⟨k - 1, by omega⟩
    have hi : i < l.length := by omega
    simp only [emulsionref14_Slot.l0]
    rw [if_pos (by omega), if_pos (by omega), rd_at l i hi]
    have hdr : l.drop i = l[i] :: l.drop (i + 1) := List.drop_eq_getElem_cons hi
    rw [hdr, List.all_cons]
    generalize l[i] = x
    by_cases h1 : x < 2
    · have : okP x = false := by unfold okP; rw [decide_eq_false (by omega)]; rfl
      rw [if_pos h1, this, Bool.false_and, if_neg Bool.false_ne_true]
    rw [if_neg h1]
    by_cases h2 : x ≥ 250
    · have : okP x = false := by unfold okP; rw [decide_eq_false (show ¬ x < 250 by omega), Bool.and_false]
      rw [if_pos h2, this, Bool.false_and, if_neg Bool.false_ne_true]
    have hx : okP x = true := by unfold okP; rw [decide_eq_true (by omega), decide_eq_true (by omega)]; rfl
    have hw : wrap64 ((i : Int) + 1) = ((i + 1 : Nat) : Int) := by unfold wrap64; omega
    rw [if_neg h2, hx, Bool.true_and, show (1 : Int) = ((1 : Nat) : Int) from rfl, Hand.rnum _ 1 (by omega) (by omega) (by omega) k (by omega), Option.bind_some, Hand.leB_1, Int.emod_eq_of_lt (by omega) (by omega), if_pos (by rw [strOfNums_size, strOfNums_size]; simp; omega), show ((1 : Nat) : Int) = 1 from rfl, hw, ← Hand.str_app, rslot_l0 gen l hl d k (i + 1) (M ++ [x]) (by omega) (by omega) (by rw [List.length_append, List.length_singleton]; omega)]
    rw [List.append_assoc]
    rfl
theorem rslot_full (gen : Int) (l : List Int) (k : Nat) (hk : 150 ≤ k) : emulsionref14_Slot.f k gen l = some (if okS gen l then (slotB gen l, true) else (⟨#[]⟩, false)) := by
  obtain ⟨k, rfl⟩ : ∃ m, k = m + 1 := ⟨k - 1, by omega⟩
  unfold emulsionref14_Slot.f
  by_cases h1 : gen < 1
  · rw [if_pos h1, if_neg (fun h : okS gen l => by have := h.1; omega)]
    simp only [emulsionref14_Slot.j0]
    rfl
  rw [if_neg h1]
  by_cases h2 : gen > 1000000000
  · rw [if_pos h2, if_neg (fun h : okS gen l => by have := h.2.1; omega)]
    simp only [emulsionref14_Slot.j0]
    rfl
  rw [if_neg h2]
  by_cases h3 : 11 < l.length
  · rw [decide_eq_true (show (l.length : Int) > 11 by omega), if_neg (fun h : okS gen l => by have := h.2.2.1; omega)]
    simp only [emulsionref14_Slot.j0]
    rfl
  rw [decide_eq_false (show ¬ (l.length : Int) > 11 by omega)]
  simp only [emulsionref14_Slot.j0]
  rw [if_neg Bool.false_ne_true]
  have e1 := Hand.rnum gen 4 (by omega) (by omega) (by omega) k (by omega)
  have e2 := Hand.rnum (l.length : Int) 1 (by omega) (by omega) (by omega) k (by omega)
  rw [show ((4 : Nat) : Int) = 4 from rfl] at e1
  rw [show ((1 : Nat) : Int) = 1 from rfl] at e2
  have e3 : (⟨#[165]⟩ : ByteArray) = strOfNums (Hand.leB 1 165) := by decide
  rw [e1, Option.bind_some, if_pos (by rw [strOfNums_size, Hand.leB_length]; omega), e2, Option.bind_some, e3, ← Hand.str_app, if_pos (by rw [strOfNums_size, strOfNums_size, List.length_append, Hand.leB_length, Hand.leB_length, Hand.leB_length]; omega), ← Hand.str_app]
  have h := rslot_l0 gen l (by omega) l.length k 0 (Hand.leB 1 165 ++ Hand.leB 4 gen ++ Hand.leB 1 (l.length : Int)) (by omega) (by omega) (by simp [Hand.leB_length])
  rw [List.drop_zero] at h
  rw [show ((0 : Nat) : Int) = 0 from rfl] at h
  rw [h]
  by_cases h4 : l.all okP = true
  · rw [if_pos h4, if_pos (show okS gen l from ⟨by omega, by omega, by omega, h4⟩)]
    rfl
  · rw [if_neg h4, if_neg (fun h : okS gen l => h4 h.2.2.2)]
theorem body_bytes (gen : Int) (l : List Int) (h : okS gen l) : bytesOf (leaf_Slot.body gen l) = 165 :: (Hand.leB 4 gen ++ ((l.length : Int) :: l)) := by
  unfold leaf_Slot.body
  have hl : ∀ x ∈ l, 0 ≤ x ∧ x < 256 := fun x hx => by
    have := okP_iff (List.all_eq_true.1 h.2.2.2 x hx)
    omega
  rw [Hand.bytes_str _ (fun x hx => ?_), Hand.leB_1, Hand.leB_1]
  · have h3 := h.2.2.1
    rw [Int.emod_eq_of_lt (show (0 : Int) ≤ (l.length : Int) by omega) (by omega)]
    simp
  · simp only [List.mem_append] at hx
    rcases hx with ((hx | hx) | hx) | hx
    · exact Hand.leB_in _ _ x hx
    · exact Hand.leB_in _ _ x hx
    · exact Hand.leB_in _ _ x hx
    · exact hl x hx
theorem slotB_bytes (gen : Int) (l : List Int) (h : okS gen l) : ∃ R, bytesOf (slotB gen l) = 165 :: (Hand.leB 4 gen ++ ((l.length : Int) :: (l ++ R))) := by
  refine ⟨bytesOf (zs (28 - (leaf_Slot.body gen l).size)) ++ bytesOf (four (tv (sm (bd (leaf_Slot.body gen l))))), ?_⟩
  unfold slotB seal_
  rw [bytes_app]
  conv => lhs; arg 1; unfold bd
  rw [bytes_app, body_bytes gen l h]
  simp
theorem slotB_size (gen : Int) (l : List Int) (h : okS gen l) : (slotB gen l).size = 32 := by
  unfold slotB
  rw [seal_size, bd_size _ (slot_body_size gen l h.2.2.1)]
/-- What a page says, if it is a slot. -/
def genP (p : ByteArray) : Int := Hand.leV (((bytesOf p).drop 1).take 4)
def cntP (p : ByteArray) : Int := bt p 5
def psP (p : ByteArray) : List Int := ((bytesOf p).drop 6).take (cntP p).toNat
theorem slotB_says (gen : Int) (l : List Int) (h : okS gen l) : genP (slotB gen l) = gen ∧ cntP (slotB gen l) = (l.length : Int) ∧ psP (slotB gen l) = l := by
  obtain ⟨R, hR⟩ := slotB_bytes gen l h
  have h4 := Hand.leB_length 4 gen
  have hc : cntP (slotB gen l) = (l.length : Int) := by
    unfold cntP
    have hlen : 5 < (bytesOf (slotB gen l)).length := by rw [bytes_size, slotB_size gen l h]; omega
    have := Hand.bytes_get (slotB gen l) 5 hlen
    rw [show ((5 : Nat) : Int) = 5 from rfl] at this
    rw [← this]
    have e : (bytesOf (slotB gen l))[5]? = some (l.length : Int) := by
      rw [hR, List.getElem?_cons_succ, List.getElem?_append_right (by omega), h4]
      rfl
    rw [List.getElem?_eq_getElem hlen] at e
    injection e
  refine ⟨?_, hc, ?_⟩
  · unfold genP
    rw [hR, List.drop_succ_cons, List.drop_zero, List.take_append_of_le_length (by omega), List.take_of_length_le (by omega), Hand.leV_leB 4 gen (by have := h.1; omega) (by have := h.2.1; omega)]
  · unfold psP
    rw [hc, Int.toNat_natCast, hR, List.drop_succ_cons, List.drop_append, List.drop_of_length_le (by omega), List.nil_append, h4]
    show List.take l.length (l ++ R) = l
    rw [List.take_left']
    rfl
/-- Is a page a slot? -/
def accP (p : ByteArray) : Prop := okS (genP p) (psP p) ∧ slotB (genP p) (psP p) = p
theorem acc_slotB (gen : Int) (l : List Int) (h : okS gen l) : accP (slotB gen l) := by
  obtain ⟨h1, _, h3⟩ := slotB_says gen l h
  unfold accP
  rw [h1, h3]
  exact ⟨h, rfl⟩
theorem acc_size {p : ByteArray} (h : accP p) : p.size = 32 ∧ cntP p ≤ 11 := by
  have h1 := slotB_size _ _ h.1
  have h2 := (slotB_says _ _ h.1).2.1
  rw [h.2] at h1 h2
  refine ⟨h1, ?_⟩
  have := h.1.2.2.1
  omega
theorem num_rdk (n : Int) (s : ByteArray) (b : Bool) (hb : b = true → s = Hand.nix) : ∀ k, 2 ≤ k → octets_In_Num.f k s b n = some (Hand.rdNum n s b) := by
  intro k hk
  induction k with
  | zero => omega
  | succ k ih =>
    by_cases h : k = 1
    · subst h; exact Hand.num_rd n s b hb
    · exact octets_In_Num.mono _ _ _ _ _ (ih (by omega))
theorem rd_drop (n : Nat) (hn : 1 ≤ n) (hn4 : n ≤ 4) (s : ByteArray) (hs : n ≤ s.size) : ∃ s', Hand.rdNum (n : Int) s false = (Hand.leV ((bytesOf s).take n), s', false) ∧ bytesOf s' = (bytesOf s).drop n := by
  refine ⟨s.extract n s.size, ?_, ?_⟩
  · unfold Hand.rdNum
    rw [if_neg Bool.false_ne_true, if_neg (by omega), if_neg (by omega), if_neg (by omega), Int.toNat_natCast, bytes_cut, List.drop_zero, Nat.sub_zero]
  · rw [bytes_cut, List.take_of_length_le (by rw [List.length_drop, bytes_size]; omega)]
theorem toList_iff (a b : ByteArray) : a.toList = b.toList ↔ a = b := ⟨Leafs.toList_inj, fun h => by rw [h]⟩
theorem un_l0 (p : ByteArray) (gen : Int) (m : Nat) (hm : m ≤ 11) : ∀ (d k i : Nat) (acc : List Int) (s : ByteArray), i + d = m → 200 + d < k → acc.length = i → d ≤ s.size →
    leaf_Unslot.l0 k p gen acc (m : Int) (i : Int) s false = some (if okS gen (acc ++ (bytesOf s).take d) ∧ slotB gen (acc ++ (bytesOf s).take d) = p then (gen, acc ++ (bytesOf s).take d, 0) else (0, [], 6))
  | 0, k, i, acc, s, hd, hk, ha, hs => by
    obtain ⟨k, rfl⟩ : ∃ m, k = m + 1 := ⟨k - 1, by omega⟩
    simp only [leaf_Unslot.l0]
    rw [if_neg (by omega), slot_full gen acc k (by omega), Option.bind_some, List.take_zero, List.append_nil]
    by_cases h : okS gen acc
    · rw [if_pos h]
      simp only
      rw [if_pos trivial]
      by_cases h2 : slotB gen acc = p
      · rw [if_pos ((toList_iff _ _).2 h2), if_pos ⟨h, h2⟩]
      · rw [if_neg (fun e => h2 ((toList_iff _ _).1 e)), if_neg (fun e => h2 e.2)]
    · rw [if_neg h, if_neg (fun e : okS gen acc ∧ slotB gen acc = p => h e.1)]
      rfl
  | d + 1, k, i, acc, s, hd, hk, ha, hs => by
    obtain ⟨k, rfl⟩ : ∃ m, k = m + 1 := ⟨k - 1, by omega⟩
    obtain ⟨s', h1, h2⟩ := rd_drop 1 (by omega) (by omega) s (by omega)
    have hlen : 0 < (bytesOf s).length := by rw [bytes_size]; omega
    obtain ⟨x, l, hx⟩ : ∃ x l, bytesOf s = x :: l := by
      cases hb : bytesOf s with
      | nil => rw [hb] at hlen; simp at hlen
      | cons x l => exact ⟨x, l, rfl⟩
    rw [hx] at h1 h2
    rw [show ((1 : Nat) : Int) = 1 from rfl] at h1
    have hw : wrap64 ((i : Int) + 1) = ((i + 1 : Nat) : Int) := by unfold wrap64; omega
    have hs' : d ≤ s'.size := by rw [← bytes_size, h2]; have := bytes_size s; rw [hx] at this; simp at this ⊢; omega
    simp only [leaf_Unslot.l0]
    rw [if_pos (by omega), num_rdk 1 s false (fun h => by cases h) k (by omega), Option.bind_some, h1]
    simp only
    rw [if_pos (by omega), hw, un_l0 p gen m hm d k (i + 1) _ s' (by omega) (by omega) (by rw [List.length_append, List.length_singleton]; omega) hs', hx]
    have e : acc ++ [Hand.leV (List.take 1 (x :: l))] ++ (bytesOf s').take d = acc ++ List.take (d + 1) (x :: l) := by
      rw [h2, List.append_assoc]
      simp [Hand.leV]
    rw [e]
theorem unslot_eq (p : ByteArray) (k : Nat) (hk : 400 ≤ k) (r : Int × List Int × Int) (hy : accP p → r = (genP p, psP p, 0)) (hn : ¬ accP p → r = (0, [], if p.size = 32 then 6 else 8)) : leaf_Unslot.f k p = some r := by
  unfold leaf_Unslot.f leaf_open.f
  by_cases h32 : p.size = 32
  · rw [if_pos (by omega), open_long p (by omega) (by omega) k (by omega)]
    by_cases ht : (four (tv (sm (p.extract 0 (p.size - 4))))).toList = (p.extract (p.size - 4) p.size).toList
    · rw [if_pos ht, Option.bind_some, Option.bind_some]
      simp only
      rw [if_pos trivial]
      show ((some (p.extract 0 (p.size - 4), false)).bind _) = _
      rw [Option.bind_some]
      have hz : (p.extract 0 (p.size - 4)).size = 28 := by rw [ByteArray.size_extract]; omega
      have hb : bytesOf (p.extract 0 (p.size - 4)) = (bytesOf p).take 28 := by rw [bytes_cut, List.drop_zero, h32]
      generalize p.extract 0 (p.size - 4) = b at *
      obtain ⟨s1, a1, a2⟩ := rd_drop 1 (by omega) (by omega) b (by omega)
      have z1 : s1.size = 27 := by rw [← bytes_size, a2, List.length_drop, bytes_size, hz]
      obtain ⟨s2, a3, a4⟩ := rd_drop 4 (by omega) (by omega) s1 (by omega)
      have z2 : s2.size = 23 := by rw [← bytes_size, a4, List.length_drop, bytes_size, z1]
      obtain ⟨s3, a5, a6⟩ := rd_drop 1 (by omega) (by omega) s2 (by omega)
      have z3 : s3.size = 22 := by rw [← bytes_size, a6, List.length_drop, bytes_size, z2]
      rw [show ((1 : Nat) : Int) = 1 from rfl] at a1 a5
      rw [show ((4 : Nat) : Int) = 4 from rfl] at a3
      have hg : Hand.leV ((bytesOf s1).take 4) = genP p := by
        unfold genP
        rw [a2, hb, List.drop_take, List.take_take]
        rfl
      have hlen5 : 5 < (bytesOf p).length := by rw [bytes_size]; omega
      have hc5 : (bytesOf p)[5]'hlen5 = cntP p := Hand.bytes_get p 5 hlen5
      have hc : Hand.leV ((bytesOf s2).take 1) = cntP p := by
        rw [a4, a2, hb, List.drop_drop, List.drop_take, List.take_take]
        show Hand.leV (((bytesOf p).drop 5).take 1) = _
        rw [List.drop_eq_getElem_cons hlen5, hc5]
        simp [Hand.leV]
      have h6 : bytesOf s3 = ((bytesOf p).drop 6).take 22 := by
        rw [a6, a4, a2, hb, List.drop_drop, List.drop_drop, List.drop_take]
      have hcr := bt_range p 5
      rw [hg] at a3
      rw [hc] at a5
      rw [num_rdk 1 b false (fun h => by cases h) k (by omega), Option.bind_some, a1]
      simp only
      rw [num_rdk 4 s1 false (fun h => by cases h) k (by omega), Option.bind_some, a3]
      simp only
      rw [num_rdk 1 s2 false (fun h => by cases h) k (by omega), Option.bind_some, a5]
      simp only
      obtain ⟨m, hm⟩ : ∃ m : Nat, mn (cntP p) 11 = (m : Int) := ⟨(mn (cntP p) 11).toNat, by unfold mn cntP; split <;> omega⟩
      have hm11 : m ≤ 11 ∧ (m : Int) ≤ cntP p ∧ ((m : Int) = cntP p ∨ m = 11) := by
        have h := hm
        unfold mn at h
        split at h <;> omega
      rw [hm]
      have := un_l0 p (genP p) m (by omega) m k 0 [] s3 (by omega) (by omega) rfl (by omega)
      rw [show ((0 : Nat) : Int) = 0 from rfl] at this
      rw [this, List.nil_append, h6, List.take_take, Nat.min_eq_left (by omega)]
      by_cases hle : cntP p ≤ 11
      · have hps : ((bytesOf p).drop 6).take m = psP p := by unfold psP; rw [show (cntP p).toNat = m by omega]
        rw [hps]
        by_cases ha : accP p
        · have hy1 := hy ha
          unfold accP at ha
          rw [if_pos ha, hy1]
        · have hn1 := hn ha
          unfold accP at ha
          rw [if_neg ha, hn1, if_pos h32]
      · have hna : ¬ accP p := fun h => hle (acc_size h).2
        rw [if_neg, hn hna, if_pos h32]
        rintro ⟨h1, h2⟩
        have h3 := (slotB_says _ _ h1).2.1
        rw [h2, List.length_take, List.length_drop, bytes_size] at h3
        omega
    · have hna : ¬ accP p := fun h => by
        apply ht
        have h1 := slot_body_size (genP p) (psP p) h.1.2.2.1
        have h2 : p = seal_ (bd (leaf_Slot.body (genP p) (psP p))) := h.2.symm
        have h3 := bd_size _ h1
        generalize bd (leaf_Slot.body (genP p) (psP p)) = X at *
        have h4 := open_seal X (by omega) 100 (by omega)
        rw [← h2, open_long p (by omega) (by omega) 100 (by omega)] at h4
        by_cases hq : (four (tv (sm (p.extract 0 (p.size - 4))))).toList = (p.extract (p.size - 4) p.size).toList
        · exact hq
        · rw [if_neg hq] at h4
          injection h4 with h4
          injection h4 with _ h4
          cases h4
      rw [if_neg ht, Option.bind_some, Option.bind_some]
      simp only
      rw [if_neg (by decide), hn hna, if_pos h32]
  · have hna : ¬ accP p := fun h => h32 (acc_size h).1
    rw [if_neg (by omega), Option.bind_some]
    simp only
    rw [if_neg (by decide), hn hna, if_neg h32]
theorem wrap_bt (s : ByteArray) (j : Int) : wrap64 (bt s j) = bt s j := by
  have h := bt_range s j
  generalize bt s j = x at *
  unfold wrap64
  omega
theorem run_l0 (p : ByteArray) (gen : Int) (hp : p.size = 32) (c : Nat) (hc : Aside0 (bt p 5 = (c : Int))) (hc11 : c ≤ 11) : ∀ (d k i : Nat) (acc : List Int), i + d = c → 200 + d < k → acc.length = i →
    emulsionref14_Unslot.l0 k p gen acc (i : Int) = some (if okS gen (acc ++ ((bytesOf p).drop (6 + i)).take d) ∧ slotB gen (acc ++ ((bytesOf p).drop (6 + i)).take d) = p then (gen, acc ++ ((bytesOf p).drop (6 + i)).take d) else (0, []))
  | 0, k, i, acc, hd, hk, ha => by
    obtain ⟨k, rfl⟩ : ∃ m, k = m + 1 := ⟨k - 1, by omega⟩
    have hwc : wrap64 (c : Int) = (c : Int) := by unfold wrap64; omega
    simp only [emulsionref14_Unslot.l0]
    rw [if_pos (by omega), hc.out, hwc, if_neg (by omega), rslot_full gen acc k (by omega), Option.bind_some, List.take_zero, List.append_nil]
    by_cases h : okS gen acc
    · rw [if_pos h]
      simp only
      rw [if_pos trivial]
      by_cases h2 : slotB gen acc = p
      · rw [if_pos ((toList_iff _ _).2 h2), if_pos ⟨h, h2⟩]
      · rw [if_neg (fun e => h2 ((toList_iff _ _).1 e)), if_neg (fun e => h2 e.2)]
    · rw [if_neg h, if_neg (fun e : okS gen acc ∧ slotB gen acc = p => h e.1)]
      rfl
  | d + 1, k, i, acc, hd, hk, ha => by
    obtain ⟨k, rfl⟩ : ∃ m, k = m + 1 := ⟨k - 1, by omega⟩
    have q0 : (5 : Int) < (p.size : Int) := by rw [hp]; decide
    have q1 : (i : Int) < (c : Int) := by omega
    have q3 : ((6 + i : Nat) : Int) < (p.size : Int) := by rw [hp]; omega
    have q2 : (0 : Int) ≤ ((6 + i : Nat) : Int) := Int.natCast_nonneg _
    have q4 : acc.length < 17592186044416 := Nat.lt_of_le_of_lt (show acc.length ≤ 11 by omega) (by decide)
    have r1 : i + 1 + d = c := by omega
    have r2 : 200 + d < k := by omega
    have hlen : 6 + i < (bytesOf p).length := by rw [bytes_size]; exact Int.ofNat_lt.1 q3
    have hwc : wrap64 (c : Int) = (c : Int) := by unfold wrap64; omega
    have hw0 : wrap64 (6 + (i : Int)) = ((6 + i : Nat) : Int) := by unfold wrap64; omega
    have hw1 := wrap_bt p ((6 + i : Nat) : Int)
    have hw : wrap64 ((i : Int) + 1) = ((i + 1 : Nat) : Int) := by unfold wrap64; omega
    simp only [emulsionref14_Unslot.l0]
    rw [if_pos q0, hc.out, hwc, if_pos q1, hw0, if_pos q2, if_pos q3, if_pos q4, hw1, hw, run_l0 p gen hp c hc hc11 d k (i + 1) _ r1 r2 (by rw [List.length_append, List.length_singleton, ha])]
    have e : acc ++ [bt p ((6 + i : Nat) : Int)] ++ ((bytesOf p).drop (6 + (i + 1))).take d = acc ++ ((bytesOf p).drop (6 + i)).take (d + 1) := by
      rw [List.drop_eq_getElem_cons hlen, Hand.bytes_get p (6 + i) hlen, List.take_succ_cons, List.append_assoc]
      rfl
    rw [e]
theorem runslot_eq (p : ByteArray) (k : Nat) (hk : 400 ≤ k) (r : Int × List Int) (hy : accP p → r = (genP p, psP p)) (hn : ¬ accP p → r = (0, [])) : emulsionref14_Unslot.f k p = some r := by
  obtain ⟨k, rfl⟩ : ∃ m, k = m + 1 := ⟨k - 1, by omega⟩
  unfold emulsionref14_Unslot.f
  by_cases h32 : p.size = 32
  · rw [if_pos (by omega), if_pos (by omega)]
    have hcr := bt_range p 5
    have hcc : bt p 5 = cntP p := rfl
    by_cases hc : cntP p ≤ 11
    · rw [decide_eq_false (show ¬ bt p 5 > 11 by omega)]
      simp only [emulsionref14_Unslot.j0]
      rw [if_neg Bool.false_ne_true, if_pos (by decide), if_pos (by omega), Hand.rvalue _ (by rw [ByteArray.size_extract]; omega) k (by omega), Option.bind_some]
      have hg : Hand.leV (bytesOf (p.extract 1 5)) = genP p := by rw [bytes_cut]; rfl
      rw [hg]
      have h := run_l0 p (genP p) h32 (cntP p).toNat ⟨by omega⟩ (by omega) (cntP p).toNat k 0 [] (by omega) (by omega) rfl
      rw [show ((0 : Nat) : Int) = 0 from rfl] at h
      rw [h, List.nil_append]
      by_cases ha : accP p
      · rw [hy ha]; exact congrArg some (if_pos ha)
      · rw [hn ha]; exact congrArg some (if_neg ha)
    · rw [decide_eq_true (show bt p 5 > 11 by omega), hn (fun h => hc (acc_size h).2)]
      simp only [emulsionref14_Unslot.j0]
      rfl
  · rw [if_neg (by omega), hn (fun h => h32 (acc_size h).1)]
    simp only [emulsionref14_Unslot.j0]
    rfl
end Go.Proofs.Ytacmfpkmcefcfaa.SlotP
end
section
namespace Go.Proofs.Ytacmfpkmcefcfaa.WLeafSlots
open Go.RowKit Go.Proofs.Ytacmfpkmcefcfaa Go.Proofs.YtacmfpkmcefcfaaW.PrintWords Go.Proofs.YtacmfpkmcefcfaaW.PrintLast Go.Proofs.YtacmfpkmcefcfaaW.PrintMore Go.Proofs.Ytacmfpkmcefcfaa.A Go.Proofs.Ytacmfpkmcefcfaa.B Go.Proofs.Ytacmfpkmcefcfaa.C Go.Proofs.Ytacmfpkmcefcfaa.Hand Go.Proofs.Ytacmfpkmcefcfaa.SlotP Go.Proofs.Ytacmfpkmcefcfaa.Leafs Go.Proofs.Ytacmfpkmcefcfaa.LeafP
set_option linter.unusedVariables false
set_option linter.unusedSimpArgs false
attribute [local go_sem] max2_int min2_int max_two min_two max_three min_three max_four min_four
theorem alive_eq (k : Nat) (hk : 100 ≤ k) : emulsionlaw15_alive.f k = some true := by
  unfold emulsionlaw15_alive.f
  have hz : (⟨#[97, 98, 99]⟩ : ByteArray).size = 3 := rfl
  rw [lay_eq _ (by rw [hz]; omega) k hk, Option.bind_some, read_pg _ (by rw [hz]; omega) k hk, Option.bind_some, pg_size _ (by rw [hz]; omega)]
  simp only
  rw [if_pos trivial, if_pos (by rfl), if_pos trivial, if_pos (by rw [ByteArray.toList_eq]), need_eq _ (by omega) (by omega), Option.bind_some]
  rw [show need 28 = 2 by rfl, if_pos rfl, parts_eq _ (by rw [hz]; omega) k (by rw [hz]; omega), Option.bind_some]
  rw [len_pts _ _ (Nat.le_refl _), hz]
  rfl
theorem gen_pos {p : ByteArray} (h : accP p) : 0 < genP p := by have := h.1.1; omega
abbrev IRow (w : World) (base : Nat) (v : Value) (l : List Int) : Prop := Kd.R (Kd.int .i64) 3 w base (fun _ => True) v l
theorem lent_Ci {w : World} {B c' : Nat} {A' : Option Addr} {l : List Int} {mk : Int} (h : IRow w B (.slice A' (l.length + 1) c') (l ++ [mk])) : Kd.C (Kd.int .i64) w A' l.length l := by
  obtain ⟨A2, c2, he, _, hC⟩ := Kd.R_reads h
  injection he with h1 _ _
  subst h1
  have := Kd.C_take (m := l.length) hC (by simp)
  rw [List.take_left'] at this
  · exact this
  · rfl
/-- What Unslot tells. -/
theorem un_any (p : ByteArray) : ∃ x y e, leaf_Unslot.f 500 p = some (x, y, e) ∧ emulsionref14_Unslot.f 500 p = some (x, y) ∧ y.length ≤ 255 ∧ ((0 < x ∧ e = 0) ∨ (x = 0 ∧ e = if p.size = 32 then 6 else 8)) := by
  by_cases ha : accP p
  · refine ⟨genP p, psP p, 0, unslot_eq p 500 (by omega) _ (fun _ => rfl) (fun h => absurd ha h), runslot_eq p 500 (by omega) _ (fun _ => rfl) (fun h => absurd ha h), by have := ha.1.2.2.1; omega, .inl ⟨gen_pos ha, rfl⟩⟩
  · exact ⟨0, [], _, unslot_eq p 500 (by omega) _ (fun h => absurd h ha) (fun _ => rfl), runslot_eq p 500 (by omega) _ (fun h => absurd h ha) (fun _ => rfl), by simp, .inr ⟨rfl, rfl⟩⟩
set_option maxRecDepth 100000 in
theorem early (gen : Int) (A : Option Addr) (n c : Nat) (p : ByteArray) (w : World) (h : 40 < (n : Int) ∨ (¬ 40 < (n : Int) ∧ 100 < (p.size : Int))) :
    Calls Try.prog 11 #[.int .i64 gen, .slice A n c, .string p] w fun e w' => e = .returned (.bool true) ∧ Below w.heap.size w w' := by
  have ha := alive_eq 200 (by omega)
  rcases h with h | ⟨h0, h⟩
  all_goals
    go_enter Try.func11, Try.ntmps11
    go_wp2_with (go_at_call 39; refine (emulsionlaw15_alive.calls 200 true _ ha).mono ?_; rintro e w1 ⟨rfl, hB⟩)
    go_ret
    exact ⟨rfl, hB⟩
set_option maxRecDepth 100000 in
set_option maxHeartbeats 4000000 in
theorem main (gen : Int) (A : Option Addr) (c : Nat) (l : List Int) (p : ByteArray) (w : World) (hl : l.length ≤ 40) (hp : p.size ≤ 100) (hC : Kd.C (Kd.int .i64) w A l.length l) (hc : l.length ≤ c) :
    Calls Try.prog 11 #[.int .i64 gen, .slice A l.length c, .string p] w fun e w' => e = .returned (.bool true) ∧ Below w.heap.size w w' := by
  have n0 : ¬ 40 < (l.length : Int) := by omega
  have n1 : ¬ 100 < (p.size : Int) := by omega
  have HC := Aside0.mk hC
  have Hc := Aside0.mk hc
  have Hl := Aside0.mk hl
  have HB := Aside0.mk (Below.refl w.heap.size w)
  have HA := Aside0.mk (alive_eq 200 (by omega))
  have HS := Aside0.mk (slot_full gen l 500 (by omega))
  have HR := Aside0.mk (rslot_full gen l 500 (by omega))
  obtain ⟨x, y, er, u1, u2, u3, u4⟩ := un_any p
  have HU1 := Aside0.mk u1
  have HU2 := Aside0.mk u2
  have HU3 := Aside0.mk u3
  have HU4 := Aside0.mk u4
  clear hC hc hl hp u1 u2 u3 u4
  go_enter Try.func11, Try.ntmps11
  go_wp2_with fail
  refine (emulsionlaw15_alive.calls 200 true _ HA.out).mono ?_
  rintro e w1 ⟨rfl, hb⟩
  replace HB := Aside0.mk hb
  clear hb HA
  go_wp2_with fail
  refine (lent_Ints A c l (by have := Hl.out; omega) _ (Kd.C_below HC.out HB.out)).mono ?_
  rintro e w2 ⟨A9, c9, rfl, hm, hb⟩
  have HM := Aside0.mk hm
  replace HB := Aside0.mk (below_step HB.out hb)
  clear hm hb
  by_cases hok : okS gen l
  · rw [if_pos hok] at HS HR
    have HAC := Aside0.mk (acc_slotB gen l hok)
    have HSY := Aside0.mk (slotB_says gen l hok)
    generalize slotB gen l = S at *
    have HUS : Aside0 (leaf_Unslot.f 500 S = some (gen, l, 0)) := ⟨unslot_eq S 500 (by omega) _ (fun _ => by rw [HSY.out.1, HSY.out.2.2]) (fun h => absurd HAC.out h)⟩
    clear hok HAC HSY
    go_wp2_with fail
    refine (Slot.leaf_Slot.calls 500 gen A9 c9 l S 0 _ (lent_Ci HM.out) (by have := (R_len HM.out).2; omega) HS.out).mono ?_
    rintro e w3 ⟨rfl, hb⟩
    replace HM := Aside0.mk (Kd.R_below HM.out hb)
    replace HB := Aside0.mk (below_step HB.out hb)
    clear hb
    go_wp2_with fail
    refine (emulsionref14_Slot.calls 500 gen A c l S true _ (Kd.C_below HC.out HB.out) Hc.out HR.out).mono ?_
    rintro e w4 ⟨rfl, hb⟩
    replace HM := Aside0.mk (Kd.R_below HM.out hb)
    replace HB := Aside0.mk (below_step HB.out hb)
    clear hb
    go_wp2_with fail
    refine (stays_Ints A9 c9 A c l (by have := Hl.out; omega) _ HM.out Hc.out (Kd.C_below HC.out HB.out)).mono ?_
    rintro e w5 ⟨rfl, hb⟩
    replace HB := Aside0.mk (below_step HB.out hb)
    clear hb HM
    go_wp2_with fail
    refine calls_abs (fun Z => Below w.heap.size w Z ∧ KeptAt Z w.heap.size w5.heap.size (fun k => Z.heap.size ≤ k) [] [] []) ⟨below_alloc HB.out _, KeptAt.new' _ _ _ rfl HB.out.size⟩ ?_
    rintro w6 ⟨q1, q2⟩
    replace HB := Aside0.mk q1
    have HK := Aside0.mk q2
    clear q1 q2
    generalize w5.heap.size = gB at *
    refine (leaf_Unslot.calls 500 p x y er _ HU1.out).mono ?_
    rintro e w7 ⟨v1, rfl, hv1, hb⟩
    have HF1 : Aside0 (∀ k, v1.ownBlock = some k → w6.heap.size ≤ k) := ⟨fun k hk => Kd.R_base hv1 k hk⟩
    have HV1 := Aside0.mk (Kd.R_lower hv1 HB.out.size)
    replace HK := Aside0.mk (HK.out.keep hb)
    replace HB := Aside0.mk (below_step HB.out hb)
    obtain ⟨A1, c1, hv1e, _, _⟩ := Kd.R_reads HV1.out
    subst hv1e
    clear hv1 hb
    go_wp2_with fail
    refine (emulsionref14_Unslot.calls 500 p x y _ HU2.out).mono ?_
    rintro e w8 ⟨v2, rfl, hv2, hb⟩
    have HV2 := Aside0.mk (Kd.R_lower hv2 HB.out.size)
    replace HV1 := Aside0.mk (Kd.R_below HV1.out hb)
    replace HK := Aside0.mk (HK.out.keep hb)
    replace HB := Aside0.mk (below_step HB.out hb)
    obtain ⟨A2, c2, hv2e, _, _⟩ := Kd.R_reads HV2.out
    subst hv2e
    clear hv2 hb
    go_wp2_with fail
    refine (kept_I gB w.heap.size _ [] [] [] _ y _ HK.out HV1.out (by have := HU3.out; omega) (by simp) HF1.out HB.out.size).mono ?_
    rintro e w9 ⟨rfl, hk1, hfx⟩
    obtain ⟨cs0, hkb⟩ := HK.out.book
    replace HV1 := Aside0.mk (hfx.Rr rfl hkb HV1.out (by decide) (by decide))
    replace HV2 := Aside0.mk (hfx.Rr rfl hkb HV2.out (by decide) (by decide))
    replace HB := Aside0.mk (HB.out.trans hfx.1)
    replace HK := Aside0.mk hk1.top
    clear hk1 hfx hkb cs0 HF1
    have hfin : ∀ (z : Prop), z → z := fun _ h => h
    obtain ⟨want, hw⟩ : ∃ want : Int, want = er := ⟨_, rfl⟩
    have h4 := HU4.out
    rcases h4 with ⟨x1, rfl⟩ | ⟨rfl, rfl⟩
    all_goals by_cases h32 : p.size = 32
    all_goals
      first
        | (have t32 : (p.size : Int) = 32 := by omega)
        | (have t32 : ¬ (p.size : Int) = 32 := by omega)
      first
        | rw [if_pos h32]
        | rw [if_neg h32]
        | skip
      clear h32
      go_wp2_with fail
      refine (same_I _ _ y _ HV1.out HV2.out (by have := HU3.out; omega)).mono ?_
      rintro e w10 ⟨rfl, hb⟩
      replace HK := Aside0.mk (HK.out.keep hb)
      replace HB := Aside0.mk (below_step HB.out hb)
      have hs10 := Aside0.mk hb.size
      clear hb HV1 HV2
      go_wp2_with fail
      refine (leaf_Unslot.calls 500 S gen l 0 _ HUS.out).mono ?_
      rintro e w11 ⟨v3, rfl, hv3, hb⟩
      have HF3 : Aside0 (∀ k, v3.ownBlock = some k → w9.heap.size ≤ k) := ⟨fun k hk => Nat.le_trans hs10.out (Kd.R_base hv3 k hk)⟩
      have HV3 := Aside0.mk (Kd.R_lower hv3 HB.out.size)
      replace HK := Aside0.mk (HK.out.keep hb)
      replace HB := Aside0.mk (below_step HB.out hb)
      obtain ⟨A3, c3, rfl, hc3, hC3⟩ := Kd.R_reads HV3.out
      clear hv3 hb hc3 hC3
      go_wp2_with fail
      refine (kept_I gB w.heap.size _ ([] ++ [y]) [] [] _ l _ HK.out HV3.out (by have := Hl.out; omega) (by simp) HF3.out HB.out.size).mono ?_
      rintro e w12 ⟨rfl, hk1, hfx⟩
      obtain ⟨cs0, hkb⟩ := HK.out.book
      replace HV3 := Aside0.mk (hfx.Rr rfl hkb HV3.out (by decide) (by decide))
      replace HB := Aside0.mk (HB.out.trans hfx.1)
      replace HK := Aside0.mk hk1.top
      clear hk1 hfx hkb cs0 HF3
      obtain ⟨A3', c3', he3, hc3, hC3⟩ := Kd.R_reads HV3.out
      injection he3 with e1 e2 e3
      subst e1 e3
      have Hc3 := Aside0.mk hc3
      have HC3 := Aside0.mk hC3
      clear e2 hc3 hC3
      go_wp2_with fail
      refine (emulsionbook_SameInts.calls (l.length + 1) A3 c3 l A c l true _ HC3.out Hc3.out (Kd.C_below HC.out HB.out) Hc.out (sameInts_f l (by have := Hl.out; omega) _ (by omega))).mono ?_
      rintro e w13 ⟨rfl, hd⟩
      replace HK := Aside0.mk (HK.out.keep (drawnB hd))
      replace HB := Aside0.mk (below_step HB.out (drawnB hd))
      clear hd
      go_wp2_with fail
      refine (kept_apart gB w.heap.size _ ([] ++ [y] ++ [l]) [] [] _ HK.out ⟨by simp, fun z hz => by simp at hz; rcases hz with rfl | rfl; (have := HU3.out; omega); (have := Hl.out; omega)⟩ ⟨by simp, by simp⟩ ⟨by simp, by simp⟩ HB.out.size).mono ?_
      rintro e w14 ⟨rfl, hb⟩
      go_wp2_with fail
      go_ret
      exact ⟨rfl, HB.out.trans hb⟩
  · rw [if_neg hok] at HS HR
    clear hok
    go_wp2_with fail
    refine (Slot.leaf_Slot.calls 500 gen A9 c9 l ⟨#[]⟩ 1 _ (lent_Ci HM.out) (by have := (R_len HM.out).2; omega) HS.out).mono ?_
    rintro e w3 ⟨rfl, hb⟩
    replace HM := Aside0.mk (Kd.R_below HM.out hb)
    replace HB := Aside0.mk (below_step HB.out hb)
    clear hb
    go_wp2_with fail
    refine (emulsionref14_Slot.calls 500 gen A c l ⟨#[]⟩ false _ (Kd.C_below HC.out HB.out) Hc.out HR.out).mono ?_
    rintro e w4 ⟨rfl, hb⟩
    replace HM := Aside0.mk (Kd.R_below HM.out hb)
    replace HB := Aside0.mk (below_step HB.out hb)
    clear hb
    go_wp2_with fail
    refine (stays_Ints A9 c9 A c l (by have := Hl.out; omega) _ HM.out Hc.out (Kd.C_below HC.out HB.out)).mono ?_
    rintro e w5 ⟨rfl, hb⟩
    replace HB := Aside0.mk (below_step HB.out hb)
    clear hb HM
    go_wp2_with fail
    refine calls_abs (fun Z => Below w.heap.size w Z ∧ KeptAt Z w.heap.size w5.heap.size (fun k => Z.heap.size ≤ k) [] [] []) ⟨below_alloc HB.out _, KeptAt.new' _ _ _ rfl HB.out.size⟩ ?_
    rintro w6 ⟨q1, q2⟩
    replace HB := Aside0.mk q1
    have HK := Aside0.mk q2
    clear q1 q2
    generalize w5.heap.size = gB at *
    refine (leaf_Unslot.calls 500 p x y er _ HU1.out).mono ?_
    rintro e w7 ⟨v1, rfl, hv1, hb⟩
    have HF1 : Aside0 (∀ k, v1.ownBlock = some k → w6.heap.size ≤ k) := ⟨fun k hk => Kd.R_base hv1 k hk⟩
    have HV1 := Aside0.mk (Kd.R_lower hv1 HB.out.size)
    replace HK := Aside0.mk (HK.out.keep hb)
    replace HB := Aside0.mk (below_step HB.out hb)
    obtain ⟨A1, c1, hv1e, _, _⟩ := Kd.R_reads HV1.out
    subst hv1e
    clear hv1 hb
    go_wp2_with fail
    refine (emulsionref14_Unslot.calls 500 p x y _ HU2.out).mono ?_
    rintro e w8 ⟨v2, rfl, hv2, hb⟩
    have HV2 := Aside0.mk (Kd.R_lower hv2 HB.out.size)
    replace HV1 := Aside0.mk (Kd.R_below HV1.out hb)
    replace HK := Aside0.mk (HK.out.keep hb)
    replace HB := Aside0.mk (below_step HB.out hb)
    obtain ⟨A2, c2, hv2e, _, _⟩ := Kd.R_reads HV2.out
    subst hv2e
    clear hv2 hb
    go_wp2_with fail
    refine (kept_I gB w.heap.size _ [] [] [] _ y _ HK.out HV1.out (by have := HU3.out; omega) (by simp) HF1.out HB.out.size).mono ?_
    rintro e w9 ⟨rfl, hk1, hfx⟩
    obtain ⟨cs0, hkb⟩ := HK.out.book
    replace HV1 := Aside0.mk (hfx.Rr rfl hkb HV1.out (by decide) (by decide))
    replace HV2 := Aside0.mk (hfx.Rr rfl hkb HV2.out (by decide) (by decide))
    replace HB := Aside0.mk (HB.out.trans hfx.1)
    replace HK := Aside0.mk hk1.top
    clear hk1 hfx hkb cs0 HF1
    have hfin : ∀ (z : Prop), z → z := fun _ h => h
    obtain ⟨want, hw⟩ : ∃ want : Int, want = er := ⟨_, rfl⟩
    have h4 := HU4.out
    rcases h4 with ⟨x1, rfl⟩ | ⟨rfl, rfl⟩
    all_goals by_cases h32 : p.size = 32
    all_goals
      first
        | (have t32 : (p.size : Int) = 32 := by omega)
        | (have t32 : ¬ (p.size : Int) = 32 := by omega)
      first
        | rw [if_pos h32]
        | rw [if_neg h32]
        | skip
      clear h32
      go_wp2_with fail
      refine (same_I _ _ y _ HV1.out HV2.out (by have := HU3.out; omega)).mono ?_
      rintro e w10 ⟨rfl, hb⟩
      replace HK := Aside0.mk (HK.out.keep hb)
      replace HB := Aside0.mk (below_step HB.out hb)
      have hs10 := Aside0.mk hb.size
      clear hb HV1 HV2
      go_wp2_with fail
      refine (kept_apart gB w.heap.size _ ([] ++ [y]) [] [] _ HK.out ⟨by simp, fun z hz => by simp at hz; subst hz; have := HU3.out; omega⟩ ⟨by simp, by simp⟩ ⟨by simp, by simp⟩ HB.out.size).mono ?_
      rintro e w14 ⟨rfl, hb⟩
      go_wp2_with fail
      go_ret
      exact ⟨rfl, HB.out.trans hb⟩
theorem walk (gen : Int) (A : Option Addr) (c : Nat) (l : List Int) (p : ByteArray) (w : World) (_ : (Lit.int .i64 gen).wf = true) (hc : l.length ≤ c) (hC : Kd.C (Kd.int .i64) w A l.length l) (_ : p.size ≤ 140737488351232) :
    Calls Try.prog 11 #[.int .i64 gen, .slice A l.length c, .string p] w fun e w' => e = .returned (.bool true) ∧ Below w.heap.size w w' := by
  by_cases h : 40 < (l.length : Int) ∨ (¬ 40 < (l.length : Int) ∧ 100 < (p.size : Int))
  · exact early gen A l.length c p w h
  · exact main gen A c l p w (by omega) (by omega) hC hc
end Go.Proofs.Ytacmfpkmcefcfaa.WLeafSlots
end
