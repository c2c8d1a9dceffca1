/- leaf.Slot, walked: a page that names pages. -/
import Derived.Test.YtacmfpkmcefcfaaOcts
import Derived.Test.YtacmfpkmcefcfaaAx31
namespace Go.Proofs.Ytacmfpkmcefcfaa.Slot
open Go.RowKit Go.Proofs.Ytacmfpkmcefcfaa Go.Proofs.YtacmfpkmcefcfaaW.PrintWords Go.Proofs.YtacmfpkmcefcfaaW.PrintLast Go.Proofs.YtacmfpkmcefcfaaW.PrintMore Go.Proofs.Ytacmfpkmcefcfaa.A Go.Proofs.Ytacmfpkmcefcfaa.Hand
set_option linter.unusedVariables false
set_option linter.unusedSimpArgs false
attribute [local go_sem] max2_int min2_int max_two min_two max_three min_three max_four min_four
def okP (p : Int) : Bool := decide (2 ≤ p) && decide (p < 250)
def leaf_Slot.body (gen : Int) (l : List Int) : ByteArray := strOfNums (leB 1 165 ++ leB 4 gen ++ leB 1 (l.length : Int) ++ l)
def leaf_Slot.f (k : Nat) (gen : Int) (l : List Int) : Option (ByteArray × Int) :=
  if gen < 1 then some (⟨#[]⟩, 1) else if 1000000000 < gen then some (⟨#[]⟩, 1) else if 11 < l.length then some (⟨#[]⟩, 1)
  else if l.all okP = true then (leaf_seal.f k (leaf_Slot.body gen l)).bind fun s => some (s, 0) else some (⟨#[]⟩, 1)
theorem leaf_Slot.mono : ∀ a l k, LeO (leaf_Slot.f k a l) (leaf_Slot.f (k + 1) a l) := by
  intro a l k r h
  unfold leaf_Slot.f at h ⊢
  repeat' split
  all_goals first
    | (rw [if_pos (by assumption)] at h; exact h)
    | skip
  all_goals (repeat' (first | rw [if_neg (by assumption)] at h | rw [if_pos (by assumption)] at h))
  all_goals first
    | exact h
    | skip
  obtain ⟨s, hs, h⟩ := Option.bind_eq_some_iff.mp h
  rw [leaf_seal.mono _ _ _ hs]
  exact h
theorem bel2 {B : Nat} {w w1 w2 : World} (h : Below B w w1) (k : Below B w1 w2) : Below B w w2 :=
  ⟨k.os.trans h.os, k.tape.trans h.tape, k.output.trans h.output, Nat.le_trans h.size k.size, fun i hi => (k.block i hi).trans (h.block i hi)⟩
theorem okP_iff {p : Int} (h : okP p = true) : 2 ≤ p ∧ p < 250 := by
  unfold okP at h
  simpa using h
theorem rd_at (l : List Int) (i : Nat) (h : i < l.length) : rd l (i : Int) = l[i] := by
  unfold rd
  rw [Int.toNat_natCast, List.getD_eq_getElem?_getD, List.getElem?_eq_getElem h]; rfl
set_option maxRecDepth 100000 in
set_option maxHeartbeats 1600000 in
theorem leaf_Slot.calls (k : Nat) (a0 : Int) (A1 : Option Addr) (c1 : Nat) (l1 : List Int) (r1 : ByteArray) (r2 : Int) (w : World) (hr1 : Kd.C (Kd.int .i64) w A1 l1.length l1) (hc1 : l1.length ≤ c1) (h : leaf_Slot.f k a0 l1 = some (r1, r2)) :
    Calls Try.prog 48 #[.int .i64 a0, .slice A1 l1.length c1] w fun e w' => e = .returned (.tuple #[.string r1, .int .i64 r2]) ∧ Below w.heap.size w w' := by
  have HR := Aside0.mk hr1
  have HC := Aside0.mk hc1
  unfold leaf_Slot.f at h
  clear hr1 hc1
  by_cases g1 : a0 < 1
  · rw [if_pos g1] at h
    injection h with h
    injection h with h1 h2
    subst h1 h2
    go_enter Try.func48, Try.ntmps48
    go_wp2_with fail
    go_ret2
    exact ⟨rfl, Below.refl _ _⟩
  rw [if_neg g1] at h
  by_cases g2 : 1000000000 < a0
  · rw [if_pos g2] at h
    injection h with h
    injection h with h1 h2
    subst h1 h2
    go_enter Try.func48, Try.ntmps48
    go_wp2_with fail
    go_ret2
    exact ⟨rfl, Below.refl _ _⟩
  rw [if_neg g2] at h
  by_cases g3 : 11 < l1.length
  · rw [if_pos g3] at h
    injection h with h
    injection h with h1 h2
    subst h1 h2
    have g3' : (11 : Int) < (l1.length : Int) := by omega
    go_enter Try.func48, Try.ntmps48
    go_wp2_with fail
    go_ret2
    exact ⟨rfl, Below.refl _ _⟩
  rw [if_neg g3] at h
  have g3' : ¬ (11 : Int) < (l1.length : Int) := by omega
  have H := Aside0.mk h
  have HL := Aside0.mk g3
  have HG := Aside0.mk (And.intro g1 g2)
  clear h
  go_enter Try.func48, Try.ntmps48
  go_wp2_with fail
  clear g1 g2 g3 g3'
  refine (out_num1 w.heap.size _ [] 0 165 _ (OutAt.new w _ (Nat.le_refl _)) (by simp) (by decide) (by decide) (by decide)).mono ?_
  rintro r w1 ⟨rfl, ho, hB⟩
  have HO := Aside0.mk ho
  have HB := Aside0.mk (bel2 (below_alloc (Below.refl w.heap.size w) _) hB)
  clear ho hB
  go_wp2_with fail
  refine (out_num4 w.heap.size _ _ 0 a0 _ HO.out HB.out.size (by have := HG.out; omega) (by have := HG.out; omega) (by simp only [List.length_append, leB_length, List.length_nil]; omega)).mono ?_
  rintro r w2 ⟨rfl, ho, hB⟩
  have HO2 := Aside0.mk ho
  have HB2 := Aside0.mk (bel2 HB.out hB)
  clear ho hB HO HB
  go_wp2_with fail
  refine (out_num1 w.heap.size _ _ 0 (l1.length : Int) _ HO2.out HB2.out.size (by omega) (by have := HL.out; omega) (by simp only [List.length_append, leB_length, List.length_nil]; omega)).mono ?_
  rintro r w3 ⟨rfl, ho, hB⟩
  rw [List.nil_append] at ho
  have HO3 := Aside0.mk ho
  have HB3 := Aside0.mk (bel2 HB2.out hB)
  clear ho hB HO2 HB2
  go_wp2_with fail
  generalize hgb : w.heap.size = gb at *
  go_loopg [8, 30] l1.length (fun kq u v wq => ∃ i : Nat, i + kq = l1.length ∧ v = .int .i64 (i : Int) ∧ Aside0 ((l1.take i).all okP = true) ∧ Aside0 (Below gb w wq) ∧ Aside0 (OutAt wq gb gb (leB 1 165 ++ leB 4 a0 ++ leB 1 (l1.length : Int) ++ l1.take i) 0))
  case atStart => exact ⟨0, by omega, rfl, ⟨rfl⟩, HB3, ⟨by rw [List.take_zero, List.append_nil]; exact HO3.out⟩⟩
  case round =>
    clear HB3 HO3
    obtain ⟨i, hi, rfl, HP, HB, HO⟩ := hrel
    by_cases hlt : i < l1.length
    · have hC := Kd.C_below HR.out (show Below w.heap.size w wr by rw [hgb]; exact HB.out)
      obtain ⟨ad, e1, x0⟩ := Kd.at_int hC (i : Int) (by omega) (by omega)
      subst e1
      rw [Int.toNat_natCast, rd_at l1 i hlt] at x0
      clear hC
      have hlt' : (i : Int) < (l1.length : Int) := by omega
      have hnat : (0 : Int) ≤ (i : Int) := by omega
      have Hx := Aside0.mk (show l1[i] = l1[i] from rfl)
      have HT : Aside0 (l1.take (i + 1) = l1.take i ++ [l1[i]]) := ⟨by rw [List.take_add_one, List.getElem?_eq_getElem hlt]; rfl⟩
      have HA : Aside0 (okP l1[i] = false → l1.all okP = false) := ⟨fun hx => by
        rw [List.all_eq_false]
        exact ⟨l1[i], List.getElem_mem hlt, by rw [hx]; decide⟩⟩
      obtain ⟨kk, rfl⟩ : ∃ z, gk = z + 1 := ⟨gk - 1, by omega⟩
      generalize l1[i] = p at *
      by_cases hp : okP p = true
      · obtain ⟨p1, p2⟩ := okP_iff hp
        have p3 : ¬ p < 2 := by omega
        have p4 : ¬ 250 ≤ p := by omega
        have Hp := Aside0.mk hp
        clear hp
        go_wp2_with fail
        refine (out_num1 gb _ _ 0 p _ HO.out (by have := HB.out.size; omega) (by omega) (by omega) (by have := HL.out; simp only [List.length_append, leB_length, List.length_take]; omega)).mono ?_
        rintro r w5 ⟨rfl, ho, hB⟩
        rw [leB_1 p, show p % 256 = p by omega, List.append_assoc, ← HT.out] at ho
        have HO5 := Aside0.mk ho
        have HB5 := Aside0.mk (bel2 HB.out hB)
        clear ho hB HO HB
        go_wp2_with fail
        go_roundg kk
        case measure => omega
        case rel => exact ⟨i + 1, by omega, by have := HL.out; simp; unfold wrap64; omega, ⟨by rw [HT.out, List.all_append, HP.out]; simpa using Hp.out⟩, HB5, HO5⟩
      · have hp' : okP p = false := by simpa using hp
        have h0 := H.out
        rw [if_neg (by rw [HA.out hp']; decide)] at h0
        injection h0 with h0
        injection h0 with h1 h2
        subst h1 h2
        have HBx := Aside0.mk (show Below w.heap.size w wr by rw [hgb]; exact HB.out)
        by_cases p1 : p < 2
        · clear hp hp' HA H HT
          go_wp2_with fail
          go_ret2
          exact ⟨rfl, by rw [← hgb]; exact HBx.out⟩
        · have p2 : 250 ≤ p := by
            unfold okP at hp'
            simp at hp'
            omega
          clear hp hp' HA H HT
          go_wp2_with fail
          go_ret2
          exact ⟨rfl, by rw [← hgb]; exact HBx.out⟩
    · obtain rfl : i = l1.length := by omega
      have hlt' : ¬ (l1.length : Int) < (l1.length : Int) := by omega
      rw [List.take_length] at HP HO
      have h0 := H.out
      rw [if_pos HP.out] at h0
      obtain ⟨s, hs, h0⟩ := Option.bind_eq_some_iff.mp h0
      injection h0 with h0
      injection h0 with h1 h2
      subst h1 h2
      have HS := Aside0.mk hs
      clear hs H
      go_wp2_with fail
      refine (out_done gb _ _ _ HO.out).mono ?_
      rintro r w6 ⟨rfl, rfl⟩
      go_wp2_with fail
      refine (leaf_seal.calls k (leaf_Slot.body a0 l1) _ _ HS.out).mono ?_
      rintro r w7 ⟨rfl, hB⟩
      have HB7 := Aside0.mk (below_step (show Below w.heap.size w w6 by rw [hgb]; exact HB.out) hB)
      clear hB
      go_wp2_with fail
      go_ret2
      exact ⟨rfl, HB7.out⟩
end Go.Proofs.Ytacmfpkmcefcfaa.Slot
