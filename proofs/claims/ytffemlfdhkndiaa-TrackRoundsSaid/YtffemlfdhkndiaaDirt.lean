/- Marks of blocks, walked: each call of a Dirt that is there, as bits. -/
import Derived.Test.YtffemlfdhkndiaaBase
import Derived.Test.YtffemlfdhkndiaaSpan
import Derived.Test.YtffemlfdhkndiaaOnes
import Derived.Test.YtffemlfdhkndiaaAx0
import Derived.Test.YtffemlfdhkndiaaAx22
import Derived.Test.YtffemlfdhkndiaaAx5
namespace Go.Proofs.Ytffemlfdhkndiaa.Hand
open Go.RowKit Go.Proofs.YtffemlfdhkndiaaW.PrintWords Go.Proofs.YtffemlfdhkndiaaW.PrintLast Go.Proofs.YtffemlfdhkndiaaW.PrintMore Go.Proofs.Ytffemlfdhkndiaa.A Go.Proofs.Ytffemlfdhkndiaa.Bits
set_option linter.unusedVariables false
set_option linter.unusedSimpArgs false
attribute [local go_sem] max2_int min2_int max_two min_two max_three min_three max_four min_four

theorem shl_ones (n : Nat) (h : n ≤ 64) : shl .u64 18446744073709551615 (IntKind.u64.wrap (n : Int)) = ((18446744073709551616 - 2 ^ n : Nat) : Int) := by
  unfold shl
  rw [wrap_u64 (n : Int), show (n : Int) % 18446744073709551616 = n by omega, Int.toNat_natCast, show min n IntKind.u64.bits = n by simp only [IntKind.bits]; omega, wrap_u64]
  have h1 : (2 : Nat) ^ n ≤ 2 ^ 64 := Nat.pow_le_pow_right (by decide) h
  have h2 := Nat.two_pow_pos n
  rw [p64] at h1
  have e : (18446744073709551615 : Int) * 2 ^ n = ((18446744073709551616 - 2 ^ n : Nat) : Int) + 18446744073709551616 * ((2 ^ n - 1 : Nat) : Int) := by
    rw [show (2 : Int) ^ n = ((2 ^ n : Nat) : Int) by simp]
    generalize 2 ^ n = q at *
    omega
  rw [e, Int.add_mul_emod_self_left]
  generalize 2 ^ n = q at *
  omega
theorem run_eq (f n : Nat) (h : f + n ≤ 64) : dirt_run.f (f : Int) (n : Int) = some ((ones f n : Nat) : Int) := by
  unfold dirt_run.f
  rw [if_pos (by rw [wrap_u64]; omega), if_pos (by rw [wrap_u64]; omega), shl_ones n (by omega)]
  have h1 : (2 : Nat) ^ n ≤ 2 ^ 64 := Nat.pow_le_pow_right (by decide) (by omega)
  have h2 := Nat.two_pow_pos n
  rw [p64] at h1
  have e : Go.bits .xor .u64 IntKind.u64.max ((18446744073709551616 - 2 ^ n : Nat) : Int) = ((2 ^ n - 1 : Nat) : Int) := by
    show IntKind.u64.wrap (((BitVec.ofInt 64 IntKind.u64.max ^^^ BitVec.ofInt 64 ((18446744073709551616 - 2 ^ n : Nat) : Int)).toNat : Nat) : Int) = _
    rw [BitVec.toNat_xor, show (BitVec.ofInt 64 IntKind.u64.max).toNat = 2 ^ 64 - 1 by decide, BitVec.ofInt_natCast, BitVec.toNat_ofNat]
    by_cases h0 : n = 0
    · subst h0
      decide
    · have h3 : 2 ≤ 2 ^ n := by
        obtain ⟨k, rfl⟩ : ∃ k, n = k + 1 := ⟨n - 1, by omega⟩
        rw [Nat.pow_succ]; have := Nat.two_pow_pos k; omega
      rw [Nat.mod_eq_of_lt (by rw [p64]; omega)]
      have e2 : (2 ^ 64 - 1) ^^^ (18446744073709551616 - 2 ^ n) = 2 ^ n - 1 := by
        apply Nat.eq_of_testBit_eq
        intro i
        rw [Nat.testBit_xor, Nat.testBit_two_pow_sub_one, Nat.testBit_two_pow_sub_one, show 18446744073709551616 - 2 ^ n = 2 ^ 64 - ((2 ^ n - 1) + 1) by rw [p64]; omega, Nat.testBit_two_pow_sub_succ (by rw [p64]; omega), Nat.testBit_two_pow_sub_one]
        by_cases h4 : i < 64
        · simp [h4]
        · have h5 : ¬ i < n := by omega
          simp [h4, h5]
      rw [e2, wrap_u64]
      generalize 2 ^ n = q at *
      omega
  rw [e]
  unfold shl
  rw [wrap_u64 (f : Int), show (f : Int) % 18446744073709551616 = f by omega, Int.toNat_natCast, show min f IntKind.u64.bits = f by simp only [IntKind.bits]; omega, wrap_u64]
  have h6 := ones_lt f n h
  congr 1
  rw [show ((2 ^ n - 1 : Nat) : Int) * 2 ^ f = ((ones f n : Nat) : Int) by unfold ones; simp]
  omega

/-- A Dirt of n blocks that has the bits x. -/
abbrev DirtAt (w : World) (g n x : Nat) : Prop := Blk w g 80 #[.int .i64 (n : Int), .int .u64 (x : Int)]
abbrev ptr (g : Nat) : Value := .pointer (some ⟨g, 0, none⟩)
theorem and_lt {a b : Nat} (h : a < 18446744073709551616) : a &&& b < 18446744073709551616 := Nat.lt_of_le_of_lt Nat.and_le_left h
theorem or_lt {a b : Nat} (h : a < 18446744073709551616) (k : b < 18446744073709551616) : a ||| b < 18446744073709551616 := by
  rw [← p64] at *; exact Nat.or_lt_two_pow h k

set_option maxRecDepth 100000 in
theorem dirt_new (a : Int) (w : World) :
    Calls Try.prog 14 #[.int .i64 a] w fun e w' => e = .returned (ptr w.heap.size) ∧ DirtAt w' w.heap.size (min (max a 0) 64).toNat 0 ∧ Below w.heap.size w w' := by
  have b0 : Aside0 (a < 0 → (min (max a 0) 64).toNat = 0) := ⟨fun h => by omega⟩
  have b1 : Aside0 (64 < a → (min (max a 0) 64).toNat = 64) := ⟨fun h => by omega⟩
  have b2 : Aside0 (0 ≤ a → a ≤ 64 → ((min (max a 0) 64).toNat : Int) = a) := ⟨fun h k => by omega⟩
  go_enter Try.func14, Try.ntmps14
  go_wp2
  · go_ret
    exact ⟨rfl, by rw [b0.out ‹_›]; exact Blk.new _ _ _, below_alloc (Below.refl _ _) _⟩
  · go_ret
    exact ⟨rfl, by rw [b1.out ‹_›]; exact Blk.new _ _ _, below_alloc (Below.refl _ _) _⟩
  · go_ret
    exact ⟨rfl, by unfold DirtAt; rw [b2.out ‹_› ‹_›]; exact Blk.new _ _ _, below_alloc (Below.refl _ _) _⟩
set_option maxRecDepth 100000 in
theorem dirt_add (g n x v : Nat) (hn : n ≤ 64) (hx : x < 18446744073709551616) (hv : v < 18446744073709551616) (w : World) (hd : DirtAt w g n x) :
    Calls Try.prog 51 #[ptr g, .int .u64 (v : Int)] w fun e w' => e = .returned (.int .i64 ((cnt (minus (v &&& ones 0 n) x) : Nat) : Int)) ∧ DirtAt w' g n (x ||| (v &&& ones 0 n)) ∧ Only w w' g := by
  have Hr := Aside0.mk (run_eq 0 n (by omega))
  have ho := ones_lt 0 n (by omega)
  have e1 := Aside0.mk (and_u64 v (ones 0 n) hv ho)
  have hm := and_lt (b := ones 0 n) hv
  have e2 := Aside0.mk (andNot_u64 (v &&& ones 0 n) x hm hx)
  have e3 := Aside0.mk (or_u64 x (v &&& ones 0 n) hx hm)
  have Hc := Aside0.mk (ones_eq (minus (v &&& ones 0 n) x) (Nat.lt_of_le_of_lt (minus_le _ _) hm))
  have c0 : w.cell? ⟨g, 0, none⟩ = some (.int .i64 (n : Int)) := hd.cell rfl
  have c1 : w.cell? ⟨g, 1, none⟩ = some (.int .u64 (x : Int)) := hd.cell rfl
  have f1 := hd.frozen 1
  have HD := Aside0.mk hd
  clear hd
  generalize ones 0 n = m at *
  go_enter Try.func51, Try.ntmps51
  go_wp2_with fail
  refine (dirt_run.calls 0 (n : Int) (m : Int) _ Hr.out).mono ?_
  rintro e w1 ⟨rfl, ⟨n1, rfl⟩⟩
  go_wp2_with fail
  rw [e1.out, e2.out]
  refine (bits_OnesCount64.calls _ _ _ Hc.out).mono ?_
  rintro e w1 ⟨rfl, ⟨n2, rfl⟩⟩
  go_wp2_with fail
  rw [e3.out]
  go_ret
  exact ⟨rfl, (HD.out.drewN (n1 + n2)).set_ 1 _, only_set (only_drewN (only_refl _ _) _) _ _⟩
set_option maxRecDepth 100000 in
theorem dirt_count (g n x : Nat) (hx : x < 18446744073709551616) (w : World) (hd : DirtAt w g n x) :
    Calls Try.prog 17 #[ptr g] w fun e w' => e = .returned (.int .i64 ((cnt x : Nat) : Int)) ∧ Below w.heap.size w w' := by
  have Hc := Aside0.mk (ones_eq x hx)
  have c1 : w.cell? ⟨g, 1, none⟩ = some (.int .u64 (x : Int)) := hd.cell rfl
  clear hd
  go_enter Try.func17, Try.ntmps17
  go_wp2_with fail
  refine (bits_OnesCount64.calls _ _ _ Hc.out).mono ?_
  rintro e w1 ⟨rfl, ⟨n2, rfl⟩⟩
  go_wp2_with fail
  go_ret
  exact ⟨rfl, pw_below_drewN (Below.refl _ _) _⟩
set_option maxRecDepth 100000 in
theorem dirt_blocks (g n x : Nat) (w : World) (hd : DirtAt w g n x) :
    Calls Try.prog 22 #[ptr g] w fun e w' => e = .returned (.int .i64 (n : Int)) ∧ Below w.heap.size w w' := by
  have c0 : w.cell? ⟨g, 0, none⟩ = some (.int .i64 (n : Int)) := hd.cell rfl
  clear hd
  go_enter Try.func22, Try.ntmps22
  go_wp2
  go_ret
  exact ⟨rfl, Below.refl _ _⟩
set_option maxRecDepth 100000 in
theorem dirt_wipe (g n x : Nat) (w : World) (hd : DirtAt w g n x) :
    Calls Try.prog 21 #[ptr g] w fun e w' => e = .returned (.tuple #[]) ∧ DirtAt w' g n 0 ∧ Only w w' g := by
  have c1 : w.cell? ⟨g, 1, none⟩ = some (.int .u64 (x : Int)) := hd.cell rfl
  have f1 := hd.frozen 1
  have HD := Aside0.mk hd
  clear hd
  go_enter Try.func21, Try.ntmps21
  go_wp2
  go_end0
  exact ⟨rfl, HD.out.set_ 1 _, only_set (only_refl _ _) _ _⟩
set_option maxRecDepth 100000 in
theorem dirt_or (g n x h k y : Nat) (hn : n ≤ 64) (hx : x < 18446744073709551616) (hy : y < 18446744073709551616) (w : World) (hd : DirtAt w g n x) (he : DirtAt w h k y) :
    Calls Try.prog 18 #[ptr g, ptr h] w fun e w' => e = .returned (.int .i64 ((cnt (minus (y &&& ones 0 n) x) : Nat) : Int)) ∧ DirtAt w' g n (x ||| (y &&& ones 0 n)) ∧ Only w w' g := by
  have c1 : w.cell? ⟨h, 1, none⟩ = some (.int .u64 (y : Int)) := he.cell rfl
  have HD := Aside0.mk hd
  clear hd he
  go_enter Try.func18, Try.ntmps18
  go_wp2_with fail
  refine (dirt_add g n x y hn hx hy _ HD.out).mono ?_
  rintro e w1 ⟨rfl, hd1, ho⟩
  go_wp2_with fail
  go_ret
  exact ⟨rfl, hd1, ho⟩
set_option maxRecDepth 100000 in
theorem dirt_mark_no (g n x : Nat) (a m : Int) (h : ¬ wh a m) (w : World) (hd : DirtAt w g n x) :
    Calls Try.prog 16 #[ptr g, .agg #[.int .i64 a, .int .i64 m]] w fun e w' => e = .returned (.int .i64 0) ∧ Below w.heap.size w w' := by
  have Hv : Aside0 (span_Valid.f a m 64 = some false) := ⟨by rw [valid_eq a m 64 (by omega), decide_eq_false (fun x => h x.1)]⟩
  clear h hd
  go_enter Try.func16, Try.ntmps16
  go_wp2_with fail
  refine (span_Valid.calls a m 64 false _ Hv.out).mono ?_
  rintro e w1 ⟨rfl, hB⟩
  go_wp2_with fail
  go_ret
  exact ⟨rfl, below_step (below_alloc (Below.refl _ _) _) hB⟩
set_option maxRecDepth 100000 in
theorem dirt_mark_yes (g n x f m : Nat) (hn : n ≤ 64) (hx : x < 18446744073709551616) (h1 : 1 ≤ m) (h : f + m ≤ 64) (w : World) (hd : DirtAt w g n x) :
    Calls Try.prog 16 #[ptr g, .agg #[.int .i64 (f : Int), .int .i64 (m : Int)]] w fun e w' => e = .returned (.int .i64 ((cnt (minus (ones f m &&& ones 0 n) x) : Nat) : Int)) ∧ DirtAt w' g n (x ||| (ones f m &&& ones 0 n)) ∧ Only w w' g := by
  have Hv : Aside0 (span_Valid.f (f : Int) (m : Int) 64 = some true) := ⟨by rw [valid_eq _ _ 64 (by omega), decide_eq_true]; unfold wh; omega⟩
  have Hr := Aside0.mk (run_eq f m h)
  have ho := ones_lt f m h
  have HD := Aside0.mk hd
  clear h hd
  go_enter Try.func16, Try.ntmps16
  go_wp2_with fail
  refine (span_Valid.calls (f : Int) (m : Int) 64 true _ Hv.out).mono ?_
  rintro e w1 ⟨rfl, hB⟩
  have HD1 := Aside0.mk ((HD.out.alloc _).keep hB)
  have A0 : w1.cell? ⟨w.heap.size, 0, none⟩ = some (.int .i64 (f : Int)) := newA hB rfl
  have A1 : w1.cell? ⟨w.heap.size, 1, none⟩ = some (.int .i64 (m : Int)) := newA hB rfl
  have HB := Aside0.mk (below_step (below_alloc (Below.refl _ _) _) hB)
  clear hB
  go_wp2_with fail
  refine (dirt_run.calls (f : Int) (m : Int) _ _ Hr.out).mono ?_
  rintro e w2 ⟨rfl, ⟨n1, rfl⟩⟩
  go_wp2_with fail
  refine (dirt_add g n x (ones f m) hn hx ho _ (HD1.out.drewN n1)).mono ?_
  rintro e w3 ⟨rfl, hd1, ho1⟩
  go_wp2_with fail
  go_ret
  exact ⟨rfl, hd1, only_trans (only_below (only_refl _ _) (pw_below_drewN HB.out _)) ho1⟩
theorem has_bit (x k : Nat) (hk : k < 64) (hx : x < 18446744073709551616) : (Go.bits .and .u64 (((x : Nat) : Int) / 2 ^ k) 1 == 1) = x.testBit k := by
  rw [show (2 : Int) ^ k = ((2 ^ k : Nat) : Int) by simp, ← Int.natCast_ediv, and_cast (x / 2 ^ k) 1 1 rfl (div_lt _ _ hx) (by decide), Nat.and_one_is_mod, Nat.testBit_eq_decide_div_mod_eq]
  rcases Nat.mod_two_eq_zero_or_one (x / 2 ^ k) with h | h <;> rw [h] <;> rfl
set_option maxRecDepth 100000 in
theorem dirt_has (g n x : Nat) (hn : n ≤ 64) (hx : x < 18446744073709551616) (k : Int) (w : World) (hd : DirtAt w g n x) :
    Calls Try.prog 20 #[ptr g, .int .i64 k] w fun e w' => e = .returned (.bool (decide (0 ≤ k) && decide (k < (n : Int)) && x.testBit k.toNat)) ∧ Below w.heap.size w w' := by
  have c0 : w.cell? ⟨g, 0, none⟩ = some (.int .i64 (n : Int)) := hd.cell rfl
  have c1 : w.cell? ⟨g, 1, none⟩ = some (.int .u64 (x : Int)) := hd.cell rfl
  clear hd
  by_cases h0 : 0 ≤ k
  · obtain ⟨q, rfl⟩ := Int.eq_ofNat_of_zero_le h0
    by_cases h1 : (q : Int) < (n : Int)
    · have hb := Aside0.mk (has_bit x q (by omega) hx)
      have hf : Aside0 ((decide ((0 : Int) ≤ (q : Int)) && decide ((q : Int) < (n : Int)) && x.testBit ((q : Int)).toNat) = x.testBit q) := ⟨by rw [decide_eq_true h0, decide_eq_true h1, Int.toNat_natCast]; rfl⟩
      go_enter Try.func20, Try.ntmps20
      go_wp2
      go_ret
      exact ⟨congrArg (fun b => Ending.returned (.bool b)) (hb.out.trans hf.out.symm), Below.refl _ _⟩
    · have hf : Aside0 ((decide (q < n) && x.testBit q) = false) := ⟨by rw [decide_eq_false (by omega)]; rfl⟩
      go_enter Try.func20, Try.ntmps20
      go_wp2
      go_ret
      exact ⟨congrArg (fun b => Ending.returned (.bool b)) hf.out.symm, Below.refl _ _⟩
  · have hf : Aside0 ((decide (0 ≤ k) && decide (k < (n : Int)) && x.testBit k.toNat) = false) := ⟨by rw [decide_eq_false h0]; simp⟩
    go_enter Try.func20, Try.ntmps20
    go_wp2
    go_ret
    exact ⟨congrArg (fun b => Ending.returned (.bool b)) hf.out.symm, Below.refl _ _⟩
def numsArr (l : List Int) : Array Value := (l.map (Value.int .u8)).toArray
/-- The bytes of so many marks. -/
def bytesD (n x : Nat) : List Int := (List.range ((n + 7) / 8)).map fun i => ((x / 256 ^ i % 256 : Nat) : Int)
theorem info5 : (Try.prog.info? 5).map (fun i => (i.zero, i.size, i.bytes)) = some (some (.int .u8 0), 1, 1) := by kernel_rfl
theorem bytesD_length (n x : Nat) : (bytesD n x).length = (n + 7) / 8 := by unfold bytesD; simp
theorem numsArr_get (l : List Int) (i : Nat) (h : i < l.length) : (numsArr l)[i]? = some (.int .u8 (l.getD i 0)) := by
  unfold numsArr
  rw [List.getElem?_toArray, List.getElem?_map, List.getElem?_eq_getElem h, List.getD_eq_getElem?_getD, List.getElem?_eq_getElem h]; rfl
theorem numsArr_set (l : List Int) (i : Nat) (b : Int) : (numsArr l).setIfInBounds i (.int .u8 b) = numsArr (l.set i b) := by
  unfold numsArr
  rw [List.setIfInBounds_toArray, List.map_set]
theorem bytesD_step (n x i : Nat) (h : i < (n + 7) / 8) : ((bytesD n x).take i ++ List.replicate ((n + 7) / 8 - i) 0).set i ((x / 256 ^ i % 256 : Nat) : Int) = (bytesD n x).take (i + 1) ++ List.replicate ((n + 7) / 8 - (i + 1)) 0 := by
  have hl := bytesD_length n x
  have ht : ((bytesD n x).take i).length = i := by rw [List.length_take]; omega
  rw [List.set_append_right _ _ (by omega), ht, Nat.sub_self, show (n + 7) / 8 - i = ((n + 7) / 8 - (i + 1)) + 1 by omega, List.replicate_succ, List.set_cons_zero, List.take_succ_eq_append_getElem (by omega), List.append_assoc]
  congr 1
  have : (bytesD n x)[i]'(by omega) = ((x / 256 ^ i % 256 : Nat) : Int) := by unfold bytesD; rw [List.getElem_map, List.getElem_range]
  rw [this]; rfl
set_option maxRecDepth 100000 in
set_option maxHeartbeats 800000 in
theorem dirt_bytes (g n x : Nat) (hn : n ≤ 64) (hx : x < 18446744073709551616) (w : World) (hd : DirtAt w g n x) :
    Calls Try.prog 19 #[ptr g] w fun e w' => e = .returned (.string (strOfNums (bytesD n x))) ∧ Below w.heap.size w w' := by
  have c0 : w.cell? ⟨g, 0, none⟩ = some (.int .i64 (n : Int)) := hd.cell rfl
  have HD := Aside0.mk hd
  clear hd
  have hn' : (n : Int) ≤ 64 := by omega
  obtain ⟨i0, hi, hz0, hz1, hz2⟩ := info_parts info5
  have hmk : ∀ W : World, (Instr.makeSlice 85 (.int .i64 (((n : Int) + 8 - 1) / 8)) (.int .i64 (((n : Int) + 8 - 1) / 8))).run Try.prog W = .ok (.slice (some ⟨W.heap.size, 0, none⟩) ((n + 7) / 8) ((n + 7) / 8)) (W.alloc (.cells (numsArr (List.replicate ((n + 7) / 8) 0)) 5)) := by
    intro W
    have h := run_make (P := Try.prog) W 85 5 i0 (.int .u8 0) Try.underlying85 hi hz0 .i64 .i64 (((n : Int) + 8 - 1) / 8) (((n : Int) + 8 - 1) / 8) (by omega) (by omega) (by rw [hz2]; omega) (by omega)
    rw [h, hz1, show (((n : Int) + 8 - 1) / 8).toNat = (n + 7) / 8 by omega, Nat.mul_one]
    have hm : madeCells (Value.int .u8 0).cells ((n + 7) / 8) = numsArr (List.replicate ((n + 7) / 8) 0) := by
      apply Array.toList_inj.1
      show (madeCells #[Value.int .u8 0] _).toList = _
      rw [toList_madeCells_one]; unfold numsArr; simp
    rw [hm]
  go_enter Try.func19, Try.ntmps19
  go_wp2_with fail
  go_loopg [17] ((n + 7) / 8) (fun kq v wq => ∃ i : Nat, i + kq = (n + 7) / 8 ∧ v = .int .i64 (i : Int) ∧ Aside0 (Below w.heap.size w wq) ∧ Aside0 (Blk wq w.heap.size 5 (numsArr ((bytesD n x).take i ++ List.replicate ((n + 7) / 8 - i) 0))))
  case atStart => exact ⟨0, by omega, rfl, ⟨below_alloc (Below.refl _ _) _⟩, ⟨Blk.new _ _ _⟩⟩
  case round =>
    obtain ⟨i, hi, rfl, HB, HO⟩ := hrel
    have c1 : wr.cell? ⟨g, 1, none⟩ = some (.int .u64 (x : Int)) := (HD.out.below HB.out HD.out.lt).cell rfl
    by_cases hlt : i < (n + 7) / 8
    · have hlt' : (i : Int) < ((n : Int) + 7) / 8 := by omega
      have hcell : wr.cell? ⟨w.heap.size, i, none⟩ = some (.int .u8 (((bytesD n x).take i ++ List.replicate ((n + 7) / 8 - i) 0).getD i 0)) := HO.out.cell (numsArr_get _ _ (by rw [List.length_append, List.length_take, bytesD_length, List.length_replicate]; omega))
      have hfroz := HO.out.frozen i
      obtain ⟨kk, rfl⟩ : ∃ q, gk = q + 1 := ⟨gk - 1, by omega⟩
      have hv : Aside0 ((x : Int) / 2 ^ (8 * i) % 256 = ((x / 256 ^ i % 256 : Nat) : Int)) := ⟨by rw [Int.natCast_emod, Int.natCast_ediv, Int.natCast_pow, Int.pow_mul]; rfl⟩
      go_wp2_with fail
      rw [hv.out]
      go_roundg kk
      case measure => omega
      case rel =>
        refine ⟨i + 1, by omega, by go_num, ⟨below_set HB.out (Nat.le_refl _)⟩, ⟨?_⟩⟩
        have h := HO.out.set_ i (.int .u8 ((x / 256 ^ i % 256 : Nat) : Int))
        rwa [numsArr_set, bytesD_step n x i hlt] at h
    · have hlt' : ¬ (i : Int) < ((n : Int) + 7) / 8 := by omega
      obtain rfl : i = (n + 7) / 8 := by omega
      rw [List.take_of_length_le (by rw [bytesD_length]; omega), Nat.sub_self, List.replicate_zero, List.append_nil] at HO
      have hcv := string_of_reads (P := Try.prog) (w := wr) (A := some ⟨w.heap.size, 0, none⟩) (n := (n + 7) / 8) (c := (n + 7) / 8) (xs := bytesD n x) Try.underlying85 Try.underlying5 Try.underlying9
        ⟨bytesD_length n x, by omega, fun _ => ⟨_, rfl, fun j hj => by rw [Addr.add_lit, Nat.zero_add]; exact HO.out.cell (numsArr_get _ _ (by rw [bytesD_length]; omega))⟩⟩
      go_wp2_with fail
      go_ret
      exact ⟨rfl, HB.out⟩
end Go.Proofs.Ytffemlfdhkndiaa.Hand
