/- Marks of blocks as spans: Runs of a Dirt, walked. -/
import Derived.Test.YtffemlfdhkndiaaDirtSets
import Derived.Test.YtffemlfdhkndiaaRunsH
import Derived.Test.YtffemlfdhkndiaaAx0
namespace Go.Proofs.Ytffemlfdhkndiaa.Hand
open Go.RowKit Go.Proofs.YtffemlfdhkndiaaW.PrintWords Go.Proofs.YtffemlfdhkndiaaW.PrintLast Go.Proofs.YtffemlfdhkndiaaW.PrintMore Go.Proofs.Ytffemlfdhkndiaa.A Go.Proofs.Ytffemlfdhkndiaa.Bits
set_option linter.unusedVariables false
set_option linter.unusedSimpArgs false
attribute [local go_sem] max2_int min2_int max_two min_two max_three min_three max_four min_four
theorem C_none (w : World) : Kd.C k31 w none 0 [] := ⟨rfl, by decide, fun h => by omega⟩
/-- The first marks, as a set. -/
def bitsS (n x : Nat) : List Bool := (List.range 64).map fun k => decide (k < n) && x.testBit k
theorem bitsS_length (n x : Nat) : (bitsS n x).length = 64 := by unfold bitsS; simp
theorem bitsS_get (n x k : Nat) (hk : k < 64) : (bitsS n x).getD k false = (decide (k < n) && x.testBit k) := by
  unfold bitsS
  rw [List.getD_eq_getElem?_getD, List.getElem?_map, List.getElem?_range hk]; rfl
theorem bits_mem (n x : Nat) (j : Int) : mem (spansOf (bitsS n x)) j ↔ 0 ≤ j ∧ j < 64 ∧ j < n ∧ x.testBit j.toNat = true := by
  rw [spansOf_mem]
  constructor
  · rintro ⟨a, b, c⟩
    rw [bitsS_get _ _ _ (by omega)] at c
    simp only [Bool.and_eq_true, decide_eq_true_eq] at c
    exact ⟨a, b, by omega, c.2⟩
  · rintro ⟨a, b, c, d⟩
    refine ⟨a, b, ?_⟩
    rw [bitsS_get _ _ _ (by omega), d]
    simp; omega
theorem bits_zero (x : Nat) : spansOf (bitsS 0 x) = [] := by
  refine (spansOf_tidy _).ext (lo' := 0) trivial (fun j => ?_)
  rw [bits_mem]
  have := mem_nil j
  simp only [this, iff_false]
  omega
theorem bits_step (i x : Nat) (hi : i < 64) : spansOf (bitsS (i + 1) x) = if x.testBit i then putV (spansOf (bitsS i x)) [⟨(i : Int), 1⟩] else spansOf (bitsS i x) := by
  by_cases h : x.testBit i = true
  · rw [if_pos h]
    obtain ⟨a, b⟩ := putV_spec [⟨(i : Int), 1⟩] _ (spansOf_tidy (bitsS i x))
    refine (spansOf_tidy _).ext a (fun j => ?_)
    rw [b, bits_mem, bits_mem]
    unfold wmem inSp wh
    simp only [List.mem_singleton, exists_eq_left]
    constructor
    · rintro ⟨h1, h2, h3, h4⟩
      by_cases hj : j = i
      · exact .inr ⟨by omega, by omega⟩
      · exact .inl ⟨h1, h2, by omega, h4⟩
    · rintro (⟨h1, h2, h3, h4⟩ | ⟨h1, h2⟩)
      · exact ⟨h1, h2, by omega, h4⟩
      · obtain rfl : j = i := by omega
        exact ⟨by omega, by omega, by omega, by simpa using h⟩
  · rw [if_neg h]
    refine (spansOf_tidy _).ext (spansOf_tidy _) (fun j => ?_)
    rw [bits_mem, bits_mem]
    constructor
    · rintro ⟨h1, h2, h3, h4⟩
      refine ⟨h1, h2, ?_, h4⟩
      by_cases hj : j = i
      · subst hj; simp at h4; simp [h4] at h
      · omega
    · rintro ⟨h1, h2, h3, h4⟩
      exact ⟨h1, h2, by omega, h4⟩
set_option maxRecDepth 100000 in
set_option maxHeartbeats 800000 in
theorem dirt_runs (g n x : Nat) (hn : n ≤ 64) (hx : x < 18446744073709551616) (w : World) (hd : DirtAt w g n x) :
    Calls Try.prog 25 #[ptr g] w fun e w' => e = .returned (ptrR w.heap.size) ∧ RunsAt w' w.heap.size w.heap.size (spansOf (bitsS n x)) ∧ Below w.heap.size w w' := by
  have HD := Aside0.mk hd
  clear hd
  go_enter Try.func25, Try.ntmps25
  go_wp2_with fail
  refine (runs_of [] none 0 _ (C_none _)).mono ?_
  rintro e w1 ⟨rfl, hr, hB⟩
  have HB1 := Aside0.mk hB
  have HR1 : Aside0 (RunsAt w1 w.heap.size w.heap.size []) := ⟨hr⟩
  clear hr hB
  go_wp2_with fail
  refine (dirt_blocks g n x _ (HD.out.keep HB1.out)).mono ?_
  rintro e w2 ⟨rfl, hB⟩
  have HB2 := Aside0.mk (below_step HB1.out hB)
  have HR2 := Aside0.mk (HR1.out.keep hB)
  clear hB HB1 HR1
  go_wp2_with fail
  go_loopg [8] n (fun kq v wq => ∃ i : Nat, i + kq = n ∧ v = .int .i64 (i : Int) ∧ Aside0 (Below w.heap.size w wq) ∧ Aside0 (RunsAt wq w.heap.size w.heap.size (spansOf (bitsS i x))))
  case atStart => exact ⟨0, by omega, rfl, HB2, by rw [bits_zero]; exact HR2⟩
  case round =>
    clear HB2 HR2
    obtain ⟨i, hi, rfl, HB, HR⟩ := hrel
    by_cases hlt : i < n
    · have hlt' : (i : Int) < (n : Int) := by omega
      have hi0 : (0 : Int) ≤ (i : Int) := by omega
      have hi1 : (i : Int) ≤ 64 := by omega
      have hs := Aside0.mk (bits_step i x (by omega))
      obtain ⟨kk, rfl⟩ : ∃ z, gk = z + 1 := ⟨gk - 1, by omega⟩
      have hh := Aside0.mk (dirt_has g n x hn hx (i : Int) wr (HD.out.keep HB.out))
      rw [show (decide ((0 : Int) ≤ (i : Int)) && decide ((i : Int) < (n : Int)) && x.testBit ((i : Int)).toNat) = x.testBit i by rw [Int.toNat_natCast, decide_eq_true hi0, decide_eq_true hlt']; rfl] at hh
      cases hb : x.testBit i
      · rw [hb] at hh hs
        clear hb
        go_wp2_with fail
        refine hh.out.mono ?_
        rintro e w3 ⟨rfl, hB⟩
        have HB3 := Aside0.mk (below_step HB.out hB)
        have HR3 := Aside0.mk (HR.out.keep hB)
        clear hB HB HR hh
        go_wp2_with fail
        go_roundg kk
        case measure => omega
        case rel => exact ⟨i + 1, by omega, by go_num, HB3, by rw [hs.out]; exact HR3⟩
      · rw [hb] at hh hs
        clear hb
        go_wp2_with fail
        refine hh.out.mono ?_
        rintro e w3 ⟨rfl, hB⟩
        have HB3 := Aside0.mk (below_step HB.out hB)
        have HR3 := Aside0.mk (HR.out.keep hB)
        clear hB HB HR hh
        go_wp2_with fail
        refine (runs_put w.heap.size w.heap.size _ [⟨(i : Int), 1⟩] (some ⟨w3.heap.size, 0, none⟩) 1 _ (spansOf_tidy (bitsS i x)) (HR3.out.keep (below_alloc (Below.refl _ _) _)) (below_size (below_alloc HB3.out _)) (C_lit w3 [⟨(i : Int), 1⟩] (by simp) #[.int .i64 (i : Int), .int .i64 1] rfl) (fun _ a ha => by injection ha with ha; subst ha; have := HR3.out.lt; simp; omega)).mono ?_
        rintro e w4 ⟨rfl, hr, ho⟩
        have HB4 := Aside0.mk (below_only (below_alloc HB3.out _) ho (Nat.le_refl _))
        have HR4 := Aside0.mk hr
        clear hr ho HB3 HR3
        go_wp2_with fail
        go_roundg kk
        case measure => omega
        case rel => exact ⟨i + 1, by omega, by go_num, HB4, by rw [hs.out]; exact HR4⟩
    · have hlt' : ¬ (i : Int) < (n : Int) := by omega
      obtain rfl : i = n := by omega
      go_wp2_with fail
      go_ret
      exact ⟨rfl, HR.out, HB.out⟩
end Go.Proofs.Ytffemlfdhkndiaa.Hand
