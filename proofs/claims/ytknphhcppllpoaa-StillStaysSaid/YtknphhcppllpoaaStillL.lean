/- The first call of chapter 5; what two frozen ones show. -/
import Derived.Test.YtknphhcppllpoaaStill
import Derived.Test.YtknphhcppllpoaaAx5
namespace Go.Proofs.Ytknphhcppllpoaa.Hand
open Go.RowKit Go.Proofs.YtknphhcppllpoaaW.PrintWords Go.Proofs.YtknphhcppllpoaaW.PrintLast Go.Proofs.YtknphhcppllpoaaW.PrintMore Go.Proofs.Ytknphhcppllpoaa.A Go.Proofs.Ytknphhcppllpoaa.Bits
set_option linter.unusedVariables false
set_option linter.unusedSimpArgs false
attribute [local go_sem] max2_int min2_int max_two min_two max_three min_three max_four min_four
theorem blkS_size (l : List UInt8) (b k : Nat) (hl : l.length = 8 * b) (h : k < b) : (blkS l k).size = 8 := by
  unfold blkS ByteArray.size
  simp only [List.size_toArray, List.length_take, List.length_drop]
  omega
/-- A block that is not touched is as it was. -/
theorem blkS_spl (l : List UInt8) (a : Nat) (s : List UInt8) (k : Nat) (hf : a + s.length ≤ l.length) (h : 8 * k + 8 ≤ a ∨ a + s.length ≤ 8 * k) : blkS (spl l a s) k = blkS l k := by
  unfold blkS
  congr 2
  apply List.ext_getElem?
  intro j
  rw [List.getElem?_take, List.getElem?_take]
  split
  · rw [List.getElem?_drop, List.getElem?_drop, spl_get l a s hf, if_neg (by omega)]
  · rfl
/-- What is shown of a block behind a write: what it was. -/
theorem shown_eq (l : List UInt8) (b a : Nat) (s : List UInt8) (k : Nat) (hl : l.length = 8 * b) (h : k < b) (hf : a + s.length ≤ l.length) :
    (lookE (k : Int) (keepE l 0 (a / 8) (touchN a s.length) [])).getD (.string (blkS (spl l a s) k)) = .string (blkS l k) := by
  rw [keepE_look]
  by_cases hc : (lookE (k : Int) [] = none ∧ ((a / 8 : Nat) : Int) ≤ (k : Int) ∧ (k : Int) < ((a / 8 : Nat) : Int) + (touchN a s.length : Nat)) ∧ Nat.testBit 0 (k : Int).toNat = false
  · rw [if_pos hc, Int.toNat_natCast]; rfl
  · rw [if_neg hc]
    have hz : Nat.testBit 0 (k : Int).toNat = false := by simp
    have hn : ¬ ((a / 8 : Nat) ≤ k ∧ k < a / 8 + touchN a s.length) := fun h2 => hc ⟨⟨rfl, by omega, by omega⟩, hz⟩
    show Value.string _ = _
    unfold touchN at hn
    split at hn
    · rename_i h0
      obtain rfl : s = [] := List.eq_nil_of_length_eq_zero h0
      have : spl l a [] = l := by unfold spl; simp
      rw [this]
    · rw [blkS_spl l a s k hf (by omega)]
theorem shown_size (l l2 : List UInt8) (b a n : Nat) (k : Nat) (hl : l.length = 8 * b) (hl2 : l2.length = 8 * b) (h : k < b) :
    ∃ R : ByteArray, (lookE (k : Int) (keepE l 0 a n [])).getD (.string (blkS l2 k)) = .string R ∧ R.size = 8 := by
  rw [keepE_look]
  split
  · exact ⟨_, rfl, by rw [Int.toNat_natCast]; exact blkS_size l b k hl h⟩
  · exact ⟨_, rfl, blkS_size l2 b k hl2 h⟩
theorem take_blk (l : List UInt8) (b k : Nat) (hl : l.length = 8 * b) (h : k < b) : (⟨(l.take (8 * k)).toArray⟩ : ByteArray) ++ blkS l k = ⟨(l.take (8 * (k + 1))).toArray⟩ := by
  unfold blkS
  apply ByteArray.ext
  rw [ByteArray.data_append, List.append_toArray]
  congr 1
  rw [show 8 * (k + 1) = 8 * k + 8 by omega, List.take_add]
def Zs (n : Nat) : ByteArray := ⟨(List.replicate n (0 : UInt8)).toArray⟩
theorem zeros_eq (n : Nat) (h : n ≤ 1000) : emulsionref1_Zeros.f (n : Int) = some (Zs n) := by
  unfold emulsionref1_Zeros.f
  rw [if_pos (by omega), Int.toNat_natCast, if_pos (by omega)]
  unfold Zs strOfNums
  simp
set_option maxRecDepth 100000 in
set_option maxHeartbeats 1600000 in
theorem alive5 (w : World) : Calls Try.prog 5 #[] w fun e w' => e = .returned (.bool true) ∧ Below w.heap.size w w' := by
  go_enter Try.func5, Try.ntmps5
  go_wp2_with fail
  refine (film_new 2 (by decide) (by decide) _).mono ?_
  rintro e w1 ⟨gf, q, rfl, hg1, hq1, hf, hB⟩
  have HB1 := Aside0.mk hB
  have HF1 := Aside0.mk hf
  have Hg := Aside0.mk hg1
  have Hq := Aside0.mk hq1
  clear hB hf hg1 hq1
  go_wp2_with fail
  refine (still_new gf _).mono ?_
  rintro e w2 ⟨gs, m, rfl, hg1, hm1, hs, hm, hB⟩
  have HB2 := Aside0.mk (below_step HB1.out hB)
  have HF2 := Aside0.mk (HF1.out.keep hB)
  have HS2 := Aside0.mk hs
  have HM2 := Aside0.mk hm
  have Hgs : Aside0 (w.heap.size ≤ gs ∧ w.heap.size ≤ m) := ⟨by have := HB1.out.size; omega⟩
  have Hne : Aside0 (gs ≠ q ∧ gs ≠ m) := ⟨(HF2.out.ne_blk hs (by decide) (by decide)).2.symm, hs.ne_map hm⟩
  clear hB hs hm hg1 hm1 HB1 HF1
  go_wp2_with fail
  refine (still_write gs gf q m _ 2 0 [] 0 ⟨#[120]⟩ _ HS2.out HF2.out HM2.out (by decide) (by decide) (by decide) (by decide)).mono ?_
  rintro e w3 ⟨rfl, hf, hm, hc⟩
  have HB3 := Aside0.mk (below_chg HB2.out hc (by intro i hi; simp only [List.mem_cons, List.mem_nil_iff, or_false] at hi; have := Hq.out; have := Hgs.out; omega))
  have HF3 := Aside0.mk hf
  have HM3 := Aside0.mk hm
  have HS3 := Aside0.mk (HS2.out.chg hc (by simp only [List.mem_cons, List.mem_nil_iff, or_false]; have := Hne.out; omega))
  clear hf hm hc HB2 HF2 HM2 HS2
  go_wp2_with fail
  refine (still_block gs gf q m _ 2 0 _ 0 _ HS3.out HF3.out HM3.out (by decide) (by decide) (by decide) (Zs 8) (by rfl)).mono ?_
  rintro e w4 ⟨rfl, rfl⟩
  go_wp2_with fail
  refine (film_block gf q _ 2 0 _ HF3.out (by decide) (by decide) (by decide)).mono ?_
  rintro e w5 ⟨rfl, rfl⟩
  rw [show (⟨((List.drop (8 * 0) (spl (List.replicate (8 * 2) 0) 0 (ByteArray.mk #[120]).data.toList)).take 8).toArray⟩ : ByteArray) = (⟨#[120]⟩ : ByteArray) ++ Zs 7 from by decide]
  go_wp2_with fail
  refine (still_kept gs gf q m _ 2 _ 0 _ HS3.out HF3.out HM3.out (by decide) (by decide)).mono ?_
  rintro e w6 ⟨v, rfl, hr, hB⟩
  have HB6 := Aside0.mk (below_step HB3.out hB)
  have hr2 : (Kd.int .i64).R 3 w6 w5.heap.size (fun _ => True) v [0] := hr
  obtain ⟨gk, ck, rfl, hgk, _, hC⟩ := row_at hr2 (by decide)
  have x0 : w6.cell? ⟨gk, 0, none⟩ = some (.int .i64 0) := by
    obtain ⟨ad, had, hcell⟩ := hC.2.2 (by decide)
    injection had with had
    subst had
    obtain ⟨cs, hcl, hK, hget⟩ := hcell 0 0 rfl
    have := hget 0 (.int .i64 0) (by rw [show cs = [.int .i64 0] from hK]; rfl)
    simpa [Addr.add] using this
  clear hr hr2 hC hB HB3
  go_wp2_with fail
  refine (emulsionref1_Zeros.calls 8 (Zs 8) _ (zeros_eq 8 (by decide))).mono ?_
  rintro e w7 ⟨rfl, hB⟩
  have HB7 := Aside0.mk (below_step HB6.out hB)
  have x0 := keepP hB x0
  clear hB HB6
  have z7 : (Zs 7).size = 7 := by decide
  go_wp2_with fail
  refine (emulsionref1_Zeros.calls 7 (Zs 7) _ (zeros_eq 7 (by decide))).mono ?_
  rintro e w8 ⟨rfl, hB⟩
  have HB8 := Aside0.mk (below_step HB7.out hB)
  have x0 := keepP hB x0
  clear hB HB7
  go_wp2_with fail
  go_ret
  exact ⟨rfl, HB8.out⟩
end Go.Proofs.Ytknphhcppllpoaa.Hand
