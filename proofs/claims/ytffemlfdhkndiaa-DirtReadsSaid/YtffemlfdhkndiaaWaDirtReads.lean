/- DirtReads, walked: every bytes' marks, or none; what was told is read as it was. -/
import Derived.Test.YtffemlfdhkndiaaRead
import Derived.Test.YtffemlfdhkndiaaRunsH
import Derived.Test.YtffemlfdhkndiaaAbs
import Derived.Deep.WholeRow
import Derived.Test.YtffemlfdhkndiaaAx0
namespace Go.Proofs.Ytffemlfdhkndiaa.WDirtReads
open Go.RowKit Go.Proofs.YtffemlfdhkndiaaW.PrintWords Go.Proofs.YtffemlfdhkndiaaW.PrintLast Go.Proofs.YtffemlfdhkndiaaW.PrintMore Go.Proofs.Ytffemlfdhkndiaa.A Go.Proofs.Ytffemlfdhkndiaa.Bits Go.Proofs.Ytffemlfdhkndiaa.Hand
set_option linter.unusedVariables false
set_option linter.unusedSimpArgs false
attribute [local go_sem] max2_int min2_int max_two min_two max_three min_three max_four min_four
theorem wordB_div (b : List Nat) (hb : ∀ x ∈ b, x < 256) (i : Nat) : ∀ m, i < m → wordB b m / 256 ^ i % 256 = b.getD i 0
  | 0, h => by omega
  | m + 1, h => by
    have h2 : b.getD i 0 < 256 := by
      rw [List.getD_eq_getElem?_getD]
      cases h : b[i]? with
      | none => decide
      | some x => exact hb x (List.mem_of_getElem? h)
    show (wordB b m + b.getD m 0 * 256 ^ m) / 256 ^ i % 256 = _
    by_cases e : i = m
    · subst e
      have hl := wordB_lt b hb i
      rw [Nat.add_mul_div_right _ _ (Nat.pow_pos (by decide)), Nat.div_eq_of_lt hl, Nat.zero_add, Nat.mod_eq_of_lt h2]
    · have ih := wordB_div b hb i m (by omega)
      have hp : 256 ^ m = 256 ^ (m - i - 1) * 256 * 256 ^ i := by
        rw [← Nat.pow_succ, ← Nat.pow_add]; congr 1; omega
      rw [hp, ← Nat.mul_assoc, Nat.add_mul_div_right _ _ (Nat.pow_pos (by decide)), ← Nat.mul_assoc, Nat.add_mul_mod_self_right]
      exact ih
theorem byte_bit (V i k v : Nat) (hk : k < 8) (h : V / 256 ^ i % 256 = v) : V.testBit (8 * i + k) = decide (v / 2 ^ k % 2 = 1) := by
  subst h
  rw [Nat.testBit_eq_decide_div_mod_eq]
  have h1 : 2 ^ (8 * i + k) = 256 ^ i * 2 ^ k := by rw [Nat.pow_add, Nat.pow_mul]
  rw [h1, ← Nat.div_div_eq_div_mul]
  generalize V / 256 ^ i = y
  have h2 : (256 : Nat) = 2 ^ k * 2 ^ (8 - k) := by rw [← Nat.pow_add, show k + (8 - k) = 8 by omega]
  have h3 : y % 256 / 2 ^ k = y / 2 ^ k % 2 ^ (8 - k) := by
    rw [h2, Nat.mod_mul_right_div_self]
  rw [h3]
  obtain ⟨j, hj⟩ : ∃ j, 8 - k = j + 1 := ⟨7 - k, by omega⟩
  rw [hj, Nat.pow_succ, Nat.mul_comm, Nat.mod_mul_right_mod]
theorem natsOf_get (b : ByteArray) (i : Nat) (h : i < b.size) : (natsOf b).getD i 0 = b[i].toNat := by
  unfold natsOf
  rw [List.getD_eq_getElem?_getD, List.getElem?_map, List.getElem?_eq_getElem (show i < b.data.toList.length from h)]
  rfl
theorem bytes_back (b : ByteArray) (n : Nat) (hl : b.size = (n + 7) / 8) : strOfNums (bytesD n (wordB (natsOf b) b.size)) = b := by
  have h : (strOfNums (bytesD n (wordB (natsOf b) b.size))).data.toList = b.data.toList := by
    rw [strOfNums_data]
    apply List.ext_getElem?
    intro i
    unfold bytesD
    rw [List.getElem?_map, List.getElem?_map]
    by_cases hi : i < b.size
    · rw [List.getElem?_range (by omega), List.getElem?_eq_getElem (show i < b.data.toList.length from hi)]
      simp only [Option.map_some, Int.toNat_natCast]
      rw [wordB_div _ (natsOf_lt b) i _ hi, natsOf_get b i hi]
      congr 1
      exact UInt8.ofNat_toNat
    · rw [List.getElem?_eq_none (by simp; omega), List.getElem?_eq_none (by show b.data.toList.length ≤ i; have : b.data.toList.length = b.size := rfl; omega)]; rfl
  have h2 : (strOfNums (bytesD n (wordB (natsOf b) b.size))).data = b.data := Array.toList_inj.1 h
  cases hb : strOfNums (bytesD n (wordB (natsOf b) b.size))
  rw [hb] at h2
  cases b
  simp_all
theorem cntB_shift (f : Nat → Bool) : ∀ n, cntB f (n + 1) = (if f 0 = true then 1 else 0) + cntB (fun k => f (k + 1)) n
  | 0 => by simp [cntB]
  | n + 1 => by
    have ih := cntB_shift f n
    show cntB f (n + 1) + _ = _
    rw [ih]
    show (if f 0 = true then 1 else 0) + cntB (fun k => f (k + 1)) n + (if f (n + 1) = true then 1 else 0) = (if f 0 = true then 1 else 0) + (cntB (fun k => f (k + 1)) n + (if f (n + 1) = true then 1 else 0))
    omega
theorem sumd_cntB : ∀ (n x : Nat), sumd 2 n x = cntB (fun k => x.testBit k) n
  | 0, x => rfl
  | n + 1, x => by
    rw [cntB_shift]
    have ih := sumd_cntB n (x / 2)
    show x % 2 + sumd 2 n (x / 2) = _
    rw [ih, cntB_congr (g := fun k => x.testBit (k + 1)) n (fun k _ => (Nat.testBit_succ x k).symm)]
    congr 1
    rw [Nat.testBit_zero]
    rcases Nat.mod_two_eq_zero_or_one x with h | h <;> simp [h]
theorem bitsS_length (n x : Nat) : ((List.range 64).map fun k => decide (k < n) && x.testBit k).length = 64 := by simp
def bitsU (n x : Nat) : List Bool := (List.range 64).map fun k => decide (k < n) && x.testBit k
theorem bitsU_length (n x : Nat) : (bitsU n x).length = 64 := by unfold bitsU; simp
theorem bitsU_get (n x k : Nat) (hk : k < 64) : (bitsU n x).getD k false = (decide (k < n) && x.testBit k) := by
  unfold bitsU
  rw [List.getD_eq_getElem?_getD, List.getElem?_map, List.getElem?_range hk]; rfl
theorem bitsU_zero (x : Nat) : bitsU 0 x = none64 := by
  apply List.ext_getElem?
  intro j
  by_cases hj : j < 64
  · unfold bitsU
    rw [List.getElem?_map, List.getElem?_range hj, List.getElem?_replicate, if_pos hj]; simp
  · rw [List.getElem?_eq_none (by rw [bitsU_length]; omega), List.getElem?_eq_none (by simp; omega)]
theorem bitsU_on (x p : Nat) (hp : p < 64) (h : x.testBit p = true) : (bitsU p x).set p true = bitsU (p + 1) x := by
  apply List.ext_getElem?
  intro j
  rw [List.getElem?_set]
  by_cases hj : j < 64
  · unfold bitsU
    rw [List.getElem?_map, List.getElem?_map, List.getElem?_range hj]
    by_cases e : p = j
    · subst e; simp [hp, h]
    · rw [if_neg e]
      simp only [Option.map_some]
      congr 2
      rw [decide_eq_decide]; omega
  · rw [if_neg (by omega), List.getElem?_eq_none (by rw [bitsU_length]; omega), List.getElem?_eq_none (by rw [bitsU_length]; omega)]
theorem bitsU_off (x p : Nat) (h : x.testBit p = false) : bitsU p x = bitsU (p + 1) x := by
  unfold bitsU
  apply List.map_congr_left
  intro k _
  by_cases e : k = p
  · subst e; simp [h]
  · have : decide (k < p) = decide (k < p + 1) := by rw [decide_eq_decide]; omega
    rw [this]
theorem count_all (V m : Nat) (hV : V < 2 ^ m) : cntS (bitsU m V) 64 = cnt V := by
  show _ = sumd 2 64 V
  rw [sumd_cntB, cntS_cntB]
  refine cntB_congr 64 (fun k hk => ?_)
  rw [bitsU_get _ _ _ hk]
  by_cases h : k < m
  · simp [h]
  · rw [Nat.testBit_lt_two_pow (Nat.lt_of_lt_of_le hV (Nat.pow_le_pow_right (by decide) (by omega)))]; simp
/-- The first mark that is none of the blocks'. -/
theorem first_bad (x n : Nat) : ∀ m, (∀ k, n ≤ k → k < m → x.testBit k = false) ∨ ∃ p, n ≤ p ∧ p < m ∧ x.testBit p = true ∧ ∀ k, n ≤ k → k < p → x.testBit k = false
  | 0 => .inl (fun k _ h => by omega)
  | m + 1 => by
    rcases first_bad x n m with h | ⟨p, h1, h2, h3, h4⟩
    · by_cases hm : n ≤ m ∧ x.testBit m = true
      · exact .inr ⟨m, hm.1, by omega, hm.2, h⟩
      · refine .inl (fun k hk hkm => ?_)
        by_cases e : k = m
        · subst e
          cases hb : x.testBit k
          · rfl
          · exact absurd ⟨hk, hb⟩ hm
        · exact h k hk (by omega)
    · exact .inr ⟨p, h1, by omega, h3, h4⟩
theorem minus_good (x n : Nat) (hx : x < 18446744073709551616) (h : ∀ k, n ≤ k → k < 64 → x.testBit k = false) : minus x (ones 0 n) = 0 := by
  apply Nat.eq_of_testBit_eq
  intro i
  rw [Nat.zero_testBit]
  by_cases hi : i < 64
  · rw [minus_test _ _ _ hi, ones_test]
    by_cases hn : n ≤ i
    · rw [h i hn hi]; rfl
    · have : i < n := by omega
      simp [this]
  · exact Nat.testBit_lt_two_pow (Nat.lt_of_le_of_lt (minus_le _ _) (Nat.lt_of_lt_of_le (by rw [← p64] at hx; exact hx) (Nat.pow_le_pow_right (by decide) (by omega))))
theorem minus_bad (x n p : Nat) (hp : p < 64) (hn : n ≤ p) (h : x.testBit p = true) : minus x (ones 0 n) ≠ 0 := by
  intro h0
  have := minus_test x (ones 0 n) p hp
  rw [h0, Nat.zero_testBit, ones_test, h] at this
  have h2 : ¬ p < n := by omega
  simp [h2] at this
set_option maxRecDepth 100000 in
theorem read_arg (b : ByteArray) (n : Int) (h : n < 0 ∨ (¬ n < 0 ∧ 64 < n)) (w : World) :
    Calls Try.prog 23 #[.string b, .int .i64 n] w fun e w' => e = .returned (.tuple #[.pointer none, .int .i64 1]) ∧ Below w.heap.size w w' := by
  rcases h with h | ⟨h0, h⟩
  all_goals
    go_enter Try.func23, Try.ntmps23
    go_wp2_with fail
    go_ret2
    exact ⟨rfl, Below.refl _ _⟩
set_option maxRecDepth 100000 in
theorem read_len (b : ByteArray) (n : Nat) (hn : n ≤ 64) (hl : b.size ≠ (n + 7) / 8) (w : World) :
    Calls Try.prog 23 #[.string b, .int .i64 (n : Int)] w fun e w' => e = .returned (.tuple #[.pointer none, .int .i64 8]) ∧ Below w.heap.size w w' := by
  have i0 : (0 : Int) ≤ (n : Int) := by omega
  have i1 : (n : Int) ≤ 64 := by omega
  have hsz : (strOfNums (bytesD n 0)).size = (n + 7) / 8 := by rw [strOfNums_size, bytesD_length]
  have hl' : ¬ ((b.size : Nat) : Int) = (((strOfNums (bytesD n 0)).size : Nat) : Int) := by rw [hsz]; omega
  have hl2 : ¬ b.size = (strOfNums (bytesD n 0)).size := by rw [hsz]; omega
  clear hsz hl
  generalize hst : strOfNums (bytesD n 0) = st at *
  replace hst := Aside0.mk hst
  go_enter Try.func23, Try.ntmps23
  go_wp2_with fail
  refine (dirt_new (n : Int) _).mono ?_
  rintro e w1 ⟨rfl, hd, hB⟩
  rw [show (min (max (n : Int) 0) 64).toNat = n by omega] at hd
  have HB : Aside0 (Below w.heap.size w w1) := ⟨hB⟩
  have HD := Aside0.mk hd
  clear hB hd
  go_wp2_with fail
  refine (dirt_bytes w.heap.size n 0 hn (by decide) _ HD.out).mono ?_
  rintro e w2 ⟨rfl, hB⟩
  rw [hst.out]
  have HB2 : Aside0 (Below w.heap.size w w2) := ⟨below_step HB.out hB⟩
  clear hB
  go_wp2_with fail
  go_ret2
  exact ⟨rfl, HB2.out⟩
set_option maxRecDepth 100000 in
theorem early (b : ByteArray) (n : Int) (w : World) (h : 40 < (b.size : Int)) :
    Calls Try.prog 5 #[.string b, .int .i64 n] w fun e w' => e = .returned (.bool true) ∧ Below w.heap.size w w' := by
  go_enter Try.func5, Try.ntmps5
  go_wp2_with (go_at_call 13; refine (alive3.calls true _ rfl).mono ?_; rintro e w1 ⟨rfl, hB⟩)
  go_ret
  exact ⟨rfl, hB⟩
set_option maxRecDepth 100000 in
theorem noarg (b : ByteArray) (n : Int) (w : World) (h1 : ¬ 40 < (b.size : Int)) (h : n < 0 ∨ (¬ n < 0 ∧ 64 < n)) :
    Calls Try.prog 5 #[.string b, .int .i64 n] w fun e w' => e = .returned (.bool true) ∧ Below w.heap.size w w' := by
  have HA := Aside0.mk (fun W => read_arg b n h W)
  rcases h with h | ⟨h0, h⟩
  all_goals
    go_enter Try.func5, Try.ntmps5
    go_wp2_with fail
    refine (alive3.calls true _ rfl).mono ?_
    rintro e w1 ⟨rfl, hB⟩
    have HB1 := Aside0.mk hB
    clear hB
    go_wp2_with fail
    refine (HA.out _).mono ?_
    rintro e w2 ⟨rfl, hB⟩
    have HB2 := Aside0.mk (below_step HB1.out hB)
    clear hB
    go_wp2_with fail
    go_ret
    exact ⟨rfl, HB2.out⟩
set_option maxRecDepth 100000 in
theorem nolen (b : ByteArray) (n : Nat) (w : World) (h1 : ¬ 40 < (b.size : Int)) (hn : n ≤ 64) (hl : b.size ≠ (n + 7) / 8) :
    Calls Try.prog 5 #[.string b, .int .i64 (n : Int)] w fun e w' => e = .returned (.bool true) ∧ Below w.heap.size w w' := by
  have i0 : (0 : Int) ≤ (n : Int) := by omega
  have i1 : (n : Int) ≤ 64 := by omega
  have i2 : ¬ (b.size : Int) = ((n : Int) + 7) / 8 := by omega
  have HA := Aside0.mk (fun W => read_len b n hn hl W)
  clear hl
  go_enter Try.func5, Try.ntmps5
  go_wp2_with fail
  refine (alive3.calls true _ rfl).mono ?_
  rintro e w1 ⟨rfl, hB⟩
  have HB1 := Aside0.mk hB
  clear hB
  go_wp2_with fail
  refine (HA.out _).mono ?_
  rintro e w2 ⟨rfl, hB⟩
  have HB2 := Aside0.mk (below_step HB1.out hB)
  clear hB
  go_wp2_with (with_reducible refine wpList_store_row rfl 27 (.tmp 8) (.tmp 44) rfl (w2.heap.size) (setArr none64) rfl rfl 27 _ (heap_alloc_new _ _) (by with_unfolding_all rfl) (by with_unfolding_all rfl) (setArr_one _) ?_)
  rw [World.setRow_alloc_new]
  have HB3 := Aside0.mk (below_alloc HB2.out (.cells (setArr none64) 27))
  go_loopg [7, 9] 0 (fun kq u v wq => u = .bool false ∧ v = .int .i64 0 ∧ Aside0 (Below w.heap.size w wq))
  case atStart => exact ⟨by simp [i2], rfl, HB3⟩
  case round =>
    obtain ⟨rfl, rfl, HB⟩ := hrel
    go_wp2_with fail
    go_ret
    exact ⟨rfl, HB.out⟩
set_option maxRecDepth 100000 in
set_option maxHeartbeats 3200000 in
theorem good (b : ByteArray) (n : Nat) (w : World) (h1 : ¬ 40 < (b.size : Int)) (hn : n ≤ 64) (hl : b.size = (n + 7) / 8) (hg : ∀ k, n ≤ k → k < 64 → (wordB (natsOf b) b.size).testBit k = false) :
    Calls Try.prog 5 #[.string b, .int .i64 (n : Int)] w fun e w' => e = .returned (.bool true) ∧ Below w.heap.size w w' := by
  have i0 : (0 : Int) ≤ (n : Int) := by omega
  have i1 : (n : Int) ≤ 64 := by omega
  have i2 : (b.size : Int) = ((n : Int) + 7) / 8 := by omega
  have i3 : (b.size : Int) ≤ 8 := by omega
  have hVl := wordB_small b b.size (by omega)
  have hby : Aside0 (∀ i, (h : i < b.size) → wordB (natsOf b) b.size / 256 ^ i % 256 = b[i].toNat) := ⟨fun i h => by rw [wordB_div _ (natsOf_lt b) i _ h, natsOf_get b i h]⟩
  have HA := Aside0.mk (fun W => dirt_read_ok b n hn hl W)
  have hm := minus_good _ n hVl hg
  have hE : Aside0 (∀ i k, 8 * i + k < 64 → (wordB (natsOf b) b.size).testBit (8 * i + k) = true → 8 * i + k < n) := ⟨fun i k hk h => by
    by_cases e : n ≤ 8 * i + k
    · rw [hg _ e hk] at h; cases h
    · omega⟩
  have hba := Aside0.mk (bytes_back b n hl)
  have hca := Aside0.mk (count_all (wordB (natsOf b) b.size) (8 * b.size) (by have := wordB_lt (natsOf b) (natsOf_lt b) b.size; rwa [show (256 : Nat) = 2 ^ 8 by decide, ← Nat.pow_mul] at this))
  generalize hV : wordB (natsOf b) b.size = V at *
  clear hV
  have Hm := Aside0.mk hm
  have HV := Aside0.mk hVl
  have hl' : Aside0 (b.size = (n + 7) / 8) := ⟨hl⟩
  clear hm hl hVl hg
  go_enter Try.func5, Try.ntmps5
  go_wp2_with fail
  refine (alive3.calls true _ rfl).mono ?_
  rintro e w1 ⟨rfl, hB⟩
  have HB1 := Aside0.mk hB
  clear hB
  go_wp2_with fail
  refine (HA.out _).mono ?_
  rintro e w2 ⟨hor, hB⟩
  have HB2 := Aside0.mk (below_step HB1.out hB)
  have hor2 : e = .returned (.tuple #[ptr w1.heap.size, .int .i64 0]) ∧ DirtAt w2 w1.heap.size n V := by
    rcases hor with ⟨_, h⟩ | ⟨h0, _⟩
    · exact h
    · exact absurd Hm.out h0
  obtain ⟨rfl, hd⟩ := hor2
  have HD2 := Aside0.mk hd
  have hgd : Aside0 (w1.heap.size < w2.heap.size) := ⟨hd.lt⟩
  clear hor hB hd
  generalize w1.heap.size = gd at *
  go_wp2_with (with_reducible refine wpList_store_row rfl 27 (.tmp 8) (.tmp 44) rfl (w2.heap.size) (setArr none64) rfl rfl 27 _ (heap_alloc_new _ _) (by with_unfolding_all rfl) (by with_unfolding_all rfl) (setArr_one _) ?_)
  rw [World.setRow_alloc_new]
  have HB3 : Aside0 (Below w.heap.size w (w2.alloc (.cells (setArr none64) 27))) := ⟨below_alloc HB2.out _⟩
  have HS3 : Aside0 (Blk (w2.alloc (.cells (setArr none64) 27)) w2.heap.size 27 (setArr none64)) := ⟨Blk.new _ _ _⟩
  have hgs : Aside0 (w.heap.size ≤ w2.heap.size) := ⟨HB2.out.size⟩
  have HD3 : Aside0 (DirtAt (w2.alloc (.cells (setArr none64) 27)) gd n V) := ⟨HD2.out.alloc _⟩
  generalize w2.heap.size = gs at *
  go_loopg [7, 9] (b.size + 0) (fun kq u v wq => ∃ (i : Nat) (s : List Bool), i + kq = (b.size + 0) ∧ v = .int .i64 (i : Int) ∧ u = .bool (decide (i ≤ b.size)) ∧ Aside0 (s.length = 64 ∧ (i ≤ b.size → s = bitsU (8 * i) V)) ∧ Aside0 (Below w.heap.size w wq) ∧ Aside0 (Blk wq gs 27 (setArr s)) ∧ Aside0 (DirtAt wq gd n V))
  case atStart => exact ⟨0, none64, by omega, rfl, by simp [i2], ⟨by simp, fun _ => (bitsU_zero V).symm⟩, HB3, HS3, HD3⟩
  case round =>
    clear HB3 HS3 HD3
    obtain ⟨i, s, hi, rfl, rfl, HSs, HB, HS, HD⟩ := hrel
    by_cases hlt : i < b.size
    · skip
      have hib : i < b.size := by omega
      have hib2 : (i : Int) < (b.size : Int) := by omega
      have hi0 : (0 : Int) ≤ (i : Int) := by omega
      have hse : s = bitsU (8 * i) V := HSs.out.2 (by omega)
      subst hse
      rw [decide_eq_true (show i ≤ b.size by omega)]
      have hbv := Aside0.mk (hby.out i hib)
      have hbl : b[i].toNat < 256 := UInt8.toNat_lt _
      obtain ⟨kk, rfl⟩ : ∃ z, gk = z + 1 := ⟨gk - 1, by omega⟩
      go_wp2_with fail
      generalize b[i].toNat = v at *
      go_loopg [7, 10, 11] 8 (fun kq u x y wq => ∃ k : Nat, k + kq = 8 ∧ u = .bool true ∧ y = .int .i64 (k : Int) ∧ x = .int .i64 ((v / 2 ^ k : Nat) : Int) ∧ Aside0 (Below w.heap.size w wq) ∧ Aside0 (Blk wq gs 27 (setArr (bitsU (8 * i + k) V))) ∧ Aside0 (DirtAt wq gd n V))
      case atStart => exact ⟨0, by omega, rfl, rfl, by simp, HB, HS, HD⟩
      case round =>
        clear HB HS HD
        obtain ⟨k, hk, rfl, rfl, rfl, HB, HS, HD⟩ := hrel
        have hx0 : v / 2 ^ k < 256 := Nat.lt_of_le_of_lt (Nat.div_le_self _ _) hbl
        have hx1 : Aside0 (v / 2 ^ k / 2 = v / 2 ^ (k + 1)) := ⟨by rw [Nat.div_div_eq_div_mul, Nat.pow_succ]⟩
        by_cases hkl : k < 8
        · skip
          have hbb := byte_bit V i k v (by omega) hbv.out
          have hee := hE.out i k (by omega)
          have k8 : (k : Int) < 8 := by omega
          have k0 : (0 : Int) ≤ (k : Int) := by omega
          generalize v / 2 ^ k = y at *
          have hx2 : (y : Int) < 256 := by omega
          have hx3 : (0 : Int) ≤ (y : Int) := by omega
          have hx4 : Aside0 ((y : Int) / 2 = ((v / 2 ^ (k + 1) : Nat) : Int)) := ⟨by rw [← hx1.out]; omega⟩
          obtain ⟨jj, rfl⟩ : ∃ z, gk = z + 1 := ⟨gk - 1, by omega⟩
          have hxm : ((y : Int) % 2 = 1) ↔ V.testBit (8 * i + k) = true := by rw [hbb, decide_eq_true_eq]; omega
          have cx := HS.out.cell (setArr_get (bitsU (8 * i + k) V) (8 * i + k) (by rw [bitsU_length]; omega))
          have fx := HS.out.frozen (8 * i + k)
          have hon := Aside0.mk (bitsU_on V (8 * i + k) (by omega))
          have hoff := Aside0.mk (bitsU_off V (8 * i + k))
          have hrd := Aside0.mk (setArr_set (bitsU (8 * i + k) V) (8 * i + k) true)
          generalize (bitsU (8 * i + k) V).getD (8 * i + k) false = z0 at *
          have hXy : Aside0 True := ⟨trivial⟩
          generalize (y : Int) = X at *
          have p0 : (0 : Int) ≤ 8 * (i : Int) + (k : Int) := by omega
          have p1 : 8 * (i : Int) + (k : Int) < 64 := by omega
          have p2 : (8 * (i : Int) + (k : Int)).toNat = 8 * i + k := by omega
          by_cases hbit : V.testBit (8 * i + k) = true
          · have hm1 : X % 2 = 1 := hxm.2 hbit
            have hlt3 : 8 * (i : Int) + (k : Int) < (n : Int) := by have := hee hbit; omega
            have HP2 := Aside0.mk p2
            clear p2 hxm hbb hee
            replace hbit := Aside0.mk hbit
            go_wp2_with fail
            go_roundg jj
            case measure => omega
            case rel =>
              refine ⟨k + 1, by omega, rfl, by go_num, by rw [hx4.out], ⟨HB.out.setCell hgs.out _⟩, ⟨?_⟩, ⟨HD.out.far (by have := hgd.out; simp; omega) _⟩⟩
              have h := HS.out.set_ (8 * i + k) (.bool true)
              rw [hrd.out, hon.out hbit.out] at h
              have e : (8 * (i : Int) + (k : Int)).toNat = 8 * i + k := by omega
              first | exact h | (rw [e]; exact h)
          · have hm1 : ¬ X % 2 = 1 := fun h => hbit (hxm.1 h)
            have hb0 : Aside0 (V.testBit (8 * i + k) = false) := ⟨by simpa using hbit⟩
            clear p2 hxm hbb hee hbit
            go_wp2_with fail
            go_roundg jj
            case measure => omega
            case rel => exact ⟨k + 1, by omega, rfl, by go_num, by rw [hx4.out], HB, by have h := HS; rw [hoff.out hb0.out] at h; exact h, HD⟩
        · have hk8 : k = 8 := by omega
          subst hk8
          have hEE := HS
          rw [show 8 * i + 8 = 8 * (i + 1) by omega] at hEE
          go_wp2_with fail
          go_roundg kk
          case measure => omega
          case rel => exact ⟨i + 1, _, by omega, by go_num, by rw [decide_eq_true (show i + 1 ≤ b.size by omega)], ⟨bitsU_length _ _, fun _ => rfl⟩, HB, hEE, HD⟩
    · have hi2 : i = b.size := by omega
      subst hi2
      have hse : s = bitsU (8 * b.size) V := HSs.out.2 (Nat.le_refl _)
      subst hse
      rw [decide_eq_true (Nat.le_refl _)]
      have hlu : Aside0 ((bitsU (8 * b.size) V).length = 64) := ⟨bitsU_length _ _⟩
      generalize bitsU (8 * b.size) V = su at *
      go_wp2_with fail
      refine start_ (n := 26) (S := fun w' => Below w.heap.size w w' ∧ DirtAt w' gd n V ∧ Blk w' gs 27 (setArr su)) (ds := []) #[false, false, false, false, false, false, false, false, false, false, false, false, false, false, false, false, false, false, false, false, false, false, false, false, false, false] (by kernel_rfl) rfl rfl ⟨(below_drew1 HB.out), (Blk.drew HD.out), (Blk.drew HS.out)⟩ (fun hHeld => ?_)
      refine pure_ (i := 0) (N := some 86) (v := ?_) (a' := ?_) #[true, false, false, false, false, false, false, false, false, false, false, false, false, false, false, false, false, false, false, false, false, false, false, false, false, false] rfl rfl (by kernel_rfl) (fun _ _ _ h => h) (Or.inl ⟨by rfl, ?_⟩) ?_ ?_
      rotate_left
      · intro w'
        go_simp
        with_reducible rfl
      rotate_left
      · simp only [Act.put, List.setIfInBounds_toArray, List.set_cons_zero, List.set_cons_succ, i64_w, i32_w]
        rfl
      refine pure_ (i := 1) (N := some 87) (v := ?_) (a' := ?_) #[true, true, false, false, false, false, false, false, false, false, false, false, false, false, false, false, false, false, false, false, false, false, false, false, false, false] rfl rfl (by kernel_rfl) (fun _ _ _ h => h) (Or.inl ⟨by rfl, ?_⟩) ?_ ?_
      rotate_left
      · intro w'
        go_simp
        with_reducible rfl
      rotate_left
      · simp only [Act.put, List.setIfInBounds_toArray, List.set_cons_zero, List.set_cons_succ, i64_w, i32_w]
        rfl
      refine pure_ (i := 2) (N := some 88) (v := ?_) (a' := ?_) #[true, true, true, false, false, false, false, false, false, false, false, false, false, false, false, false, false, false, false, false, false, false, false, false, false, false] rfl rfl (by kernel_rfl) (fun _ _ _ h => h) (Or.inl ⟨by rfl, ?_⟩) ?_ ?_
      rotate_left
      · intro w'
        go_simp
        with_reducible rfl
      rotate_left
      · simp only [Act.put, List.setIfInBounds_toArray, List.set_cons_zero, List.set_cons_succ, i64_w, i32_w]
        rfl
      refine pure_ (i := 3) (N := some 89) (v := ?_) (a' := ?_) #[true, true, true, true, false, false, false, false, false, false, false, false, false, false, false, false, false, false, false, false, false, false, false, false, false, false] rfl rfl (by kernel_rfl) (fun _ _ _ h => h) (Or.inl ⟨by rfl, ?_⟩) ?_ ?_
      rotate_left
      · intro w'
        go_simp
        with_reducible rfl
      rotate_left
      · simp only [Act.put, List.setIfInBounds_toArray, List.set_cons_zero, List.set_cons_succ, i64_w, i32_w]
        rfl
      refine pure_ (i := 4) (N := some 90) (v := ?_) (a' := ?_) #[true, true, true, true, true, false, false, false, false, false, false, false, false, false, false, false, false, false, false, false, false, false, false, false, false, false] rfl rfl (by kernel_rfl) (fun _ _ _ h => h) (Or.inl ⟨by rfl, ?_⟩) ?_ ?_
      rotate_left
      · intro w'
        go_simp
        with_reducible rfl
      rotate_left
      · simp only [Act.put, List.setIfInBounds_toArray, List.set_cons_zero, List.set_cons_succ, i64_w, i32_w]
        rfl
      refine pure_ (i := 5) (N := some 91) (v := ?_) (a' := ?_) #[true, true, true, true, true, true, false, false, false, false, false, false, false, false, false, false, false, false, false, false, false, false, false, false, false, false] rfl rfl (by kernel_rfl) (fun _ _ _ h => h) (Or.inl ⟨by rfl, ?_⟩) ?_ ?_
      rotate_left
      · intro w'
        go_simp
        with_reducible rfl
      rotate_left
      · simp only [Act.put, List.setIfInBounds_toArray, List.set_cons_zero, List.set_cons_succ, i64_w, i32_w]
        rfl
      refine pure_ (i := 6) (N := some 92) (v := ?_) (a' := ?_) #[true, true, true, true, true, true, true, false, false, false, false, false, false, false, false, false, false, false, false, false, false, false, false, false, false, false] rfl rfl (by kernel_rfl) (fun _ _ _ h => h) (Or.inl ⟨by rfl, ?_⟩) ?_ ?_
      rotate_left
      · intro w'
        go_simp
        with_reducible rfl
      rotate_left
      · simp only [Act.put, List.setIfInBounds_toArray, List.set_cons_zero, List.set_cons_succ, i64_w, i32_w]
        rfl
      refine pure_ (i := 7) (N := some 93) (v := ?_) (a' := ?_) #[true, true, true, true, true, true, true, true, false, false, false, false, false, false, false, false, false, false, false, false, false, false, false, false, false, false] rfl rfl (by kernel_rfl) (fun _ _ _ h => h) (Or.inl ⟨by rfl, ?_⟩) ?_ ?_
      rotate_left
      · intro w'
        go_simp
        with_reducible rfl
      rotate_left
      · simp only [Act.put, List.setIfInBounds_toArray, List.set_cons_zero, List.set_cons_succ, i64_w, i32_w]
        rfl
      refine pure_ (i := 9) (N := some 95) (v := ?_) (a' := ?_) #[true, true, true, true, true, true, true, true, false, true, false, false, false, false, false, false, false, false, false, false, false, false, false, false, false, false] rfl rfl (by kernel_rfl) (fun _ _ _ h => h) (Or.inl ⟨by rfl, ?_⟩) ?_ ?_
      rotate_left
      · intro w'
        go_simp
        with_reducible rfl
      rotate_left
      · simp only [Act.put, List.setIfInBounds_toArray, List.set_cons_zero, List.set_cons_succ, i64_w, i32_w]
        rfl
      refine one_ (i := 8) (N := some 94) #[true, true, true, true, true, true, true, true, true, true, false, false, false, false, false, false, false, false, false, false, false, false, false, false, false, false] rfl rfl (by kernel_rfl) (by decide) (fun K hK => ?_)
      refine goes_ Try.func19 (by kernel_rfl) rfl #[ptr gd] (by rfl) rfl rfl (by simp only [List.map_toArray, List.map_cons, List.map_nil]; rfl) ?_
      with_reducible refine (dirt_bytes gd n V hn HV.out _ hHeld.2.1).mono ?_
      rintro e w50 ⟨rfl, hb⟩
      refine ⟨_, rfl, ?_⟩
      rw [hba.out]
      refine hK.out _ _ ⟨(below_step hHeld.1 hb), (Blk.keep hHeld.2.1 hb), (Blk.keep hHeld.2.2 hb)⟩ (fun hHeld => ?_)
      clear hK K
      refine norm_ (a' := ?_) ?_ ?_
      rotate_left
      · show Act.put _ (some 94) _ = _
        simp only [Act.put, List.setIfInBounds_toArray, List.set_cons_zero, List.set_cons_succ, i64_w, i32_w]
        rfl
      refine pure_ (i := 10) (N := some 96) (v := ?_) (a' := ?_) #[true, true, true, true, true, true, true, true, true, true, true, false, false, false, false, false, false, false, false, false, false, false, false, false, false, false] rfl rfl (by kernel_rfl) (fun _ _ _ h => h) (Or.inl ⟨by rfl, ?_⟩) ?_ ?_
      rotate_left
      · intro w'
        go_simp
        with_reducible rfl
      rotate_left
      · simp only [Act.put, List.setIfInBounds_toArray, List.set_cons_zero, List.set_cons_succ, i64_w, i32_w]
        rfl
      refine pure_ (i := 11) (N := some 97) (v := ?_) (a' := ?_) #[true, true, true, true, true, true, true, true, true, true, true, true, false, false, false, false, false, false, false, false, false, false, false, false, false, false] rfl rfl (by kernel_rfl) (fun _ _ _ h => h) (Or.inl ⟨by rfl, ?_⟩) ?_ ?_
      rotate_left
      · intro w'
        go_simp
        with_reducible rfl
      rotate_left
      · simp only [Act.put, List.setIfInBounds_toArray, List.set_cons_zero, List.set_cons_succ, i64_w, i32_w]
        rfl
      refine pure_ (i := 12) (N := some 98) (v := ?_) (a' := ?_) #[true, true, true, true, true, true, true, true, true, true, true, true, true, false, false, false, false, false, false, false, false, false, false, false, false, false] rfl rfl (by kernel_rfl) (fun _ _ _ h => h) (Or.inl ⟨by rfl, ?_⟩) ?_ ?_
      rotate_left
      · intro w'
        go_simp
        with_reducible rfl
      rotate_left
      · simp only [Act.put, List.setIfInBounds_toArray, List.set_cons_zero, List.set_cons_succ, i64_w, i32_w]
        rfl
      refine pure_ (i := 13) (N := some 99) (v := ?_) (a' := ?_) #[true, true, true, true, true, true, true, true, true, true, true, true, true, true, false, false, false, false, false, false, false, false, false, false, false, false] rfl rfl (by kernel_rfl) (fun _ _ _ h => h) (Or.inl ⟨by rfl, ?_⟩) ?_ ?_
      rotate_left
      · intro w'
        go_simp
        with_reducible rfl
      rotate_left
      · simp only [Act.put, List.setIfInBounds_toArray, List.set_cons_zero, List.set_cons_succ, i64_w, i32_w]
        rfl
      refine take_ (i := 15) (N := some 101) (v := ?_) (a' := ?_) #[true, true, true, true, true, true, true, true, true, true, true, true, true, true, false, true, false, false, false, false, false, false, false, false, false, false] rfl rfl (by kernel_rfl) (fun _ _ _ h => h) (Or.inl ⟨by rfl, ?_⟩) hHeld ?_ ?_
      rotate_left
      · rintro w' ⟨s0, s1, s2⟩
        refine row_yields 27 (.tmp 8) ?_ gs ?_ 27 (setArr su) (0, 0) _ s2.hd Try.underlying27 rfl (by rw [setArr_size, hlu.out]; exact info27)
        · rfl
        · rfl
      rotate_left
      · simp only [Act.put, List.setIfInBounds_toArray, List.set_cons_zero, List.set_cons_succ, i64_w, i32_w]
        rfl
      refine one_ (i := 14) (N := some 100) #[true, true, true, true, true, true, true, true, true, true, true, true, true, true, true, true, false, false, false, false, false, false, false, false, false, false] rfl rfl (by kernel_rfl) (by decide) (fun K hK => ?_)
      refine goes_ Try.func17 (by kernel_rfl) rfl #[ptr gd] (by rfl) rfl rfl (by simp only [List.map_toArray, List.map_cons, List.map_nil]; rfl) ?_
      with_reducible refine (dirt_count gd n V HV.out _ hHeld.2.1).mono ?_
      rintro e w51 ⟨rfl, hb⟩
      refine ⟨_, rfl, ?_⟩
      refine hK.out _ _ ⟨(below_step hHeld.1 hb), (Blk.keep hHeld.2.1 hb), (Blk.keep hHeld.2.2 hb)⟩ (fun hHeld => ?_)
      clear hK K
      refine norm_ (a' := ?_) ?_ ?_
      rotate_left
      · show Act.put _ (some 100) _ = _
        simp only [Act.put, List.setIfInBounds_toArray, List.set_cons_zero, List.set_cons_succ, i64_w, i32_w]
        rfl
      refine one_ (i := 16) (N := some 102) #[true, true, true, true, true, true, true, true, true, true, true, true, true, true, true, true, true, false, false, false, false, false, false, false, false, false] rfl rfl (by kernel_rfl) (by decide) (fun K hK => ?_)
      refine goes_ Try.func24 (by kernel_rfl) rfl #[.agg (setArr su)] (by rfl) rfl rfl (by simp only [List.map_toArray, List.map_cons, List.map_nil]; rfl) ?_
      with_reducible refine (emulsionref1_Set_Count.calls su hlu _).mono ?_
      rintro e w52 ⟨rfl, hb⟩
      refine ⟨_, rfl, ?_⟩
      rw [hca.out]
      refine hK.out _ _ ⟨(below_step hHeld.1 hb), (Blk.keep hHeld.2.1 hb), (Blk.keep hHeld.2.2 hb)⟩ (fun hHeld => ?_)
      clear hK K
      refine norm_ (a' := ?_) ?_ ?_
      rotate_left
      · show Act.put _ (some 102) _ = _
        simp only [Act.put, List.setIfInBounds_toArray, List.set_cons_zero, List.set_cons_succ, i64_w, i32_w]
        rfl
      refine pure_ (i := 17) (N := some 103) (v := ?_) (a' := ?_) #[true, true, true, true, true, true, true, true, true, true, true, true, true, true, true, true, true, true, false, false, false, false, false, false, false, false] rfl rfl (by kernel_rfl) (fun _ _ _ h => h) (Or.inl ⟨by rfl, ?_⟩) ?_ ?_
      rotate_left
      · intro w'
        go_simp
        with_reducible rfl
      rotate_left
      · simp only [Act.put, List.setIfInBounds_toArray, List.set_cons_zero, List.set_cons_succ, i64_w, i32_w]
        rfl
      refine pure_ (i := 18) (N := some 104) (v := ?_) (a' := ?_) #[true, true, true, true, true, true, true, true, true, true, true, true, true, true, true, true, true, true, true, false, false, false, false, false, false, false] rfl rfl (by kernel_rfl) (fun _ _ _ h => h) (Or.inl ⟨by rfl, ?_⟩) ?_ ?_
      rotate_left
      · intro w'
        go_simp
        with_reducible rfl
      rotate_left
      · simp only [Act.put, List.setIfInBounds_toArray, List.set_cons_zero, List.set_cons_succ, i64_w, i32_w]
        rfl
      refine pure_ (i := 19) (N := some 105) (v := ?_) (a' := ?_) #[true, true, true, true, true, true, true, true, true, true, true, true, true, true, true, true, true, true, true, true, false, false, false, false, false, false] rfl rfl (by kernel_rfl) (fun _ _ _ h => h) (Or.inl ⟨by rfl, ?_⟩) ?_ ?_
      rotate_left
      · intro w'
        go_simp
        with_reducible rfl
      rotate_left
      · simp only [Act.put, List.setIfInBounds_toArray, List.set_cons_zero, List.set_cons_succ, i64_w, i32_w]
        rfl
      refine pure_ (i := 20) (N := some 106) (v := ?_) (a' := ?_) #[true, true, true, true, true, true, true, true, true, true, true, true, true, true, true, true, true, true, true, true, true, false, false, false, false, false] rfl rfl (by kernel_rfl) (fun _ _ _ h => h) (Or.inl ⟨by rfl, ?_⟩) ?_ ?_
      rotate_left
      · intro w'
        go_simp
        with_reducible rfl
      rotate_left
      · simp only [Act.put, List.setIfInBounds_toArray, List.set_cons_zero, List.set_cons_succ, i64_w, i32_w]
        rfl
      refine pure_ (i := 22) (N := some 108) (v := ?_) (a' := ?_) #[true, true, true, true, true, true, true, true, true, true, true, true, true, true, true, true, true, true, true, true, true, false, true, false, false, false] rfl rfl (by kernel_rfl) (fun _ _ _ h => h) (Or.inl ⟨by rfl, ?_⟩) ?_ ?_
      rotate_left
      · intro w'
        go_simp
        with_reducible rfl
      rotate_left
      · simp only [Act.put, List.setIfInBounds_toArray, List.set_cons_zero, List.set_cons_succ, i64_w, i32_w]
        rfl
      refine one_ (i := 21) (N := some 107) #[true, true, true, true, true, true, true, true, true, true, true, true, true, true, true, true, true, true, true, true, true, true, true, false, false, false] rfl rfl (by kernel_rfl) (by decide) (fun K hK => ?_)
      refine goes_ Try.func22 (by kernel_rfl) rfl #[ptr gd] (by rfl) rfl rfl (by simp only [List.map_toArray, List.map_cons, List.map_nil]; rfl) ?_
      with_reducible refine (dirt_blocks gd n V _ hHeld.2.1).mono ?_
      rintro e w53 ⟨rfl, hb⟩
      refine ⟨_, rfl, ?_⟩
      refine hK.out _ _ ⟨(below_step hHeld.1 hb), (Blk.keep hHeld.2.1 hb), (Blk.keep hHeld.2.2 hb)⟩ (fun hHeld => ?_)
      clear hK K
      refine norm_ (a' := ?_) ?_ ?_
      rotate_left
      · show Act.put _ (some 107) _ = _
        simp only [Act.put, List.setIfInBounds_toArray, List.set_cons_zero, List.set_cons_succ, i64_w, i32_w]
        rfl
      refine pure_ (i := 23) (N := some 109) (v := ?_) (a' := ?_) #[true, true, true, true, true, true, true, true, true, true, true, true, true, true, true, true, true, true, true, true, true, true, true, true, false, false] rfl rfl (by kernel_rfl) (fun _ _ _ h => h) (Or.inl ⟨by rfl, ?_⟩) ?_ ?_
      rotate_left
      · intro w'
        go_simp
        with_reducible rfl
      rotate_left
      · simp only [Act.put, List.setIfInBounds_toArray, List.set_cons_zero, List.set_cons_succ, i64_w, i32_w]
        rfl
      refine pure_ (i := 24) (N := some 110) (v := ?_) (a' := ?_) #[true, true, true, true, true, true, true, true, true, true, true, true, true, true, true, true, true, true, true, true, true, true, true, true, true, false] rfl rfl (by kernel_rfl) (fun _ _ _ h => h) (Or.inl ⟨by rfl, ?_⟩) ?_ ?_
      rotate_left
      · intro w'
        go_simp
        with_reducible rfl
      rotate_left
      · simp only [Act.put, List.setIfInBounds_toArray, List.set_cons_zero, List.set_cons_succ, i64_w, i32_w]
        rfl
      refine pure_ (i := 25) (N := some 4) (v := ?_) (a' := ?_) #[true, true, true, true, true, true, true, true, true, true, true, true, true, true, true, true, true, true, true, true, true, true, true, true, true, true] rfl rfl (by kernel_rfl) (fun _ _ _ h => h) (Or.inl ⟨by rfl, ?_⟩) ?_ ?_
      rotate_left
      · intro w'
        go_simp
        with_reducible rfl
      rotate_left
      · simp only [Act.put, List.setIfInBounds_toArray, List.set_cons_zero, List.set_cons_succ, i64_w, i32_w]
        rfl
      refine done_ (by kernel_rfl) ?_
      have HBz := Aside0.mk hHeld.1
      clear hHeld
      go_wp2_with fail
      go_ret
      exact ⟨rfl, HBz.out⟩
set_option maxRecDepth 100000 in
set_option maxHeartbeats 3200000 in
theorem bad (b : ByteArray) (n : Nat) (w : World) (h1 : ¬ 40 < (b.size : Int)) (hn : n ≤ 64) (hl : b.size = (n + 7) / 8) (p : Nat) (hp0 : n ≤ p) (hp1 : p < 8 * b.size) (hp2 : (wordB (natsOf b) b.size).testBit p = true) (hp3 : ∀ k, n ≤ k → k < p → (wordB (natsOf b) b.size).testBit k = false) :
    Calls Try.prog 5 #[.string b, .int .i64 (n : Int)] w fun e w' => e = .returned (.bool true) ∧ Below w.heap.size w w' := by
  have i0 : (0 : Int) ≤ (n : Int) := by omega
  have i1 : (n : Int) ≤ 64 := by omega
  have i2 : (b.size : Int) = ((n : Int) + 7) / 8 := by omega
  have i3 : (b.size : Int) ≤ 8 := by omega
  have hVl := wordB_small b b.size (by omega)
  have hby : Aside0 (∀ i, (h : i < b.size) → wordB (natsOf b) b.size / 256 ^ i % 256 = b[i].toNat) := ⟨fun i h => by rw [wordB_div _ (natsOf_lt b) i _ h, natsOf_get b i h]⟩
  have HA := Aside0.mk (fun W => dirt_read_ok b n hn hl W)
  have hm := minus_bad _ n p (by omega) hp0 hp2
  have hE : Aside0 (∀ i k, 8 * i + k < p → (wordB (natsOf b) b.size).testBit (8 * i + k) = true → 8 * i + k < n) := ⟨fun i k hk h => by
    by_cases e : n ≤ 8 * i + k
    · rw [hp3 _ e hk] at h; cases h
    · omega⟩
  generalize hV : wordB (natsOf b) b.size = V at *
  clear hV
  have Hm := Aside0.mk hm
  have HV := Aside0.mk hVl
  have hl' : Aside0 (b.size = (n + 7) / 8) := ⟨hl⟩
  clear hm hl hVl hp3
  go_enter Try.func5, Try.ntmps5
  go_wp2_with fail
  refine (alive3.calls true _ rfl).mono ?_
  rintro e w1 ⟨rfl, hB⟩
  have HB1 := Aside0.mk hB
  clear hB
  go_wp2_with fail
  refine (HA.out _).mono ?_
  rintro e w2 ⟨hor, hB⟩
  have HB2 := Aside0.mk (below_step HB1.out hB)
  obtain rfl : e = .returned (.tuple #[.pointer none, .int .i64 8]) := by
    rcases hor with ⟨h0, _⟩ | ⟨_, h⟩
    · exact absurd h0 Hm.out
    · exact h
  clear hor hB
  go_wp2_with (with_reducible refine wpList_store_row rfl 27 (.tmp 8) (.tmp 44) rfl (w2.heap.size) (setArr none64) rfl rfl 27 _ (heap_alloc_new _ _) (by with_unfolding_all rfl) (by with_unfolding_all rfl) (setArr_one _) ?_)
  rw [World.setRow_alloc_new]
  have HB3 : Aside0 (Below w.heap.size w (w2.alloc (.cells (setArr none64) 27))) := ⟨below_alloc HB2.out _⟩
  have HS3 : Aside0 (Blk (w2.alloc (.cells (setArr none64) 27)) w2.heap.size 27 (setArr none64)) := ⟨Blk.new _ _ _⟩
  have hgs : Aside0 (w.heap.size ≤ w2.heap.size) := ⟨HB2.out.size⟩
  generalize w2.heap.size = gs at *
  go_loopg [7, 9] (p / 8 + 1) (fun kq u v wq => ∃ (i : Nat) (s : List Bool), i + kq = (p / 8 + 1) ∧ v = .int .i64 (i : Int) ∧ u = .bool (decide (i ≤ p / 8)) ∧ Aside0 (s.length = 64 ∧ (i ≤ p / 8 → s = bitsU (8 * i) V)) ∧ Aside0 (Below w.heap.size w wq) ∧ Aside0 (Blk wq gs 27 (setArr s)))
  case atStart => exact ⟨0, none64, by omega, rfl, by simp [i2], ⟨by simp, fun _ => (bitsU_zero V).symm⟩, HB3, HS3⟩
  case round =>
    clear HB3 HS3
    obtain ⟨i, s, hi, rfl, rfl, HSs, HB, HS⟩ := hrel
    by_cases hlt : i < p / 8
    · skip
      have hib : i < b.size := by omega
      have hib2 : (i : Int) < (b.size : Int) := by omega
      have hi0 : (0 : Int) ≤ (i : Int) := by omega
      have hse : s = bitsU (8 * i) V := HSs.out.2 (by omega)
      subst hse
      rw [decide_eq_true (show i ≤ p / 8 by omega)]
      have hbv := Aside0.mk (hby.out i hib)
      have hbl : b[i].toNat < 256 := UInt8.toNat_lt _
      obtain ⟨kk, rfl⟩ : ∃ z, gk = z + 1 := ⟨gk - 1, by omega⟩
      go_wp2_with fail
      generalize b[i].toNat = v at *
      go_loopg [7, 10, 11] 8 (fun kq u x y wq => ∃ k : Nat, k + kq = 8 ∧ u = .bool true ∧ y = .int .i64 (k : Int) ∧ x = .int .i64 ((v / 2 ^ k : Nat) : Int) ∧ Aside0 (Below w.heap.size w wq) ∧ Aside0 (Blk wq gs 27 (setArr (bitsU (8 * i + k) V))))
      case atStart => exact ⟨0, by omega, rfl, rfl, by simp, HB, HS⟩
      case round =>
        clear HB HS
        obtain ⟨k, hk, rfl, rfl, rfl, HB, HS⟩ := hrel
        have hx0 : v / 2 ^ k < 256 := Nat.lt_of_le_of_lt (Nat.div_le_self _ _) hbl
        have hx1 : Aside0 (v / 2 ^ k / 2 = v / 2 ^ (k + 1)) := ⟨by rw [Nat.div_div_eq_div_mul, Nat.pow_succ]⟩
        by_cases hkl : k < 8
        · skip
          have hbb := byte_bit V i k v (by omega) hbv.out
          have hee := hE.out i k (by omega)
          have k8 : (k : Int) < 8 := by omega
          have k0 : (0 : Int) ≤ (k : Int) := by omega
          generalize v / 2 ^ k = y at *
          have hx2 : (y : Int) < 256 := by omega
          have hx3 : (0 : Int) ≤ (y : Int) := by omega
          have hx4 : Aside0 ((y : Int) / 2 = ((v / 2 ^ (k + 1) : Nat) : Int)) := ⟨by rw [← hx1.out]; omega⟩
          obtain ⟨jj, rfl⟩ : ∃ z, gk = z + 1 := ⟨gk - 1, by omega⟩
          have hxm : ((y : Int) % 2 = 1) ↔ V.testBit (8 * i + k) = true := by rw [hbb, decide_eq_true_eq]; omega
          have cx := HS.out.cell (setArr_get (bitsU (8 * i + k) V) (8 * i + k) (by rw [bitsU_length]; omega))
          have fx := HS.out.frozen (8 * i + k)
          have hon := Aside0.mk (bitsU_on V (8 * i + k) (by omega))
          have hoff := Aside0.mk (bitsU_off V (8 * i + k))
          have hrd := Aside0.mk (setArr_set (bitsU (8 * i + k) V) (8 * i + k) true)
          generalize (bitsU (8 * i + k) V).getD (8 * i + k) false = z0 at *
          have hXy : Aside0 True := ⟨trivial⟩
          generalize (y : Int) = X at *
          have p0 : (0 : Int) ≤ 8 * (i : Int) + (k : Int) := by omega
          have p1 : 8 * (i : Int) + (k : Int) < 64 := by omega
          have p2 : (8 * (i : Int) + (k : Int)).toNat = 8 * i + k := by omega
          by_cases hbit : V.testBit (8 * i + k) = true
          · have hm1 : X % 2 = 1 := hxm.2 hbit
            have hlt3 : 8 * (i : Int) + (k : Int) < (n : Int) := by have := hee hbit; omega
            have HP2 := Aside0.mk p2
            clear p2 hxm hbb hee
            replace hbit := Aside0.mk hbit
            go_wp2_with fail
            go_roundg jj
            case measure => omega
            case rel =>
              refine ⟨k + 1, by omega, rfl, by go_num, by rw [hx4.out], ⟨HB.out.setCell hgs.out _⟩, ⟨?_⟩⟩
              have h := HS.out.set_ (8 * i + k) (.bool true)
              rw [hrd.out, hon.out hbit.out] at h
              have e : (8 * (i : Int) + (k : Int)).toNat = 8 * i + k := by omega
              first | exact h | (rw [e]; exact h)
          · have hm1 : ¬ X % 2 = 1 := fun h => hbit (hxm.1 h)
            have hb0 : Aside0 (V.testBit (8 * i + k) = false) := ⟨by simpa using hbit⟩
            clear p2 hxm hbb hee hbit
            go_wp2_with fail
            go_roundg jj
            case measure => omega
            case rel => exact ⟨k + 1, by omega, rfl, by go_num, by rw [hx4.out], HB, by have h := HS; rw [hoff.out hb0.out] at h; exact h⟩
        · have hk8 : k = 8 := by omega
          subst hk8
          have hEE := HS
          rw [show 8 * i + 8 = 8 * (i + 1) by omega] at hEE
          go_wp2_with fail
          go_roundg kk
          case measure => omega
          case rel => exact ⟨i + 1, _, by omega, by go_num, by rw [decide_eq_true (show i + 1 ≤ p / 8 by omega)], ⟨bitsU_length _ _, fun _ => rfl⟩, HB, hEE⟩
    · by_cases hie : i = p / 8
      · have hib0 : i < b.size := by omega
        have hip : 8 * i + p % 8 = p := by omega
        have hin : i ≤ p / 8 ∧ ¬ i + 1 ≤ p / 8 := by omega
        obtain ⟨kz, hkz⟩ : ∃ z, z = p % 8 := ⟨_, rfl⟩
        have hkz8 : kz < 8 := by omega
        rw [← hkz] at hip
        have hsE : i + 1 + (gk - 1) = p / 8 + 1 ∧ 0 < gk := by omega
        have HIP := Aside0.mk hip
        have HIN := Aside0.mk hin
        have HSE := Aside0.mk hsE
        clear hie hkz hip hin hsE hlt hi
        have hib := hib0
        have hib2 : (i : Int) < (b.size : Int) := by omega
        have hi0 : (0 : Int) ≤ (i : Int) := by omega
        have hse : s = bitsU (8 * i) V := HSs.out.2 HIN.out.1
        subst hse
        rw [decide_eq_true HIN.out.1]
        have hbv := Aside0.mk (hby.out i hib)
        have hbl : b[i].toNat < 256 := UInt8.toNat_lt _
        obtain ⟨kk, rfl⟩ : ∃ z, gk = z + 1 := ⟨gk - 1, by have := HSE.out; omega⟩
        go_wp2_with fail
        generalize b[i].toNat = v at *
        go_loopg [7, 10, 11] kz (fun kq u x y wq => ∃ k : Nat, k + kq = kz ∧ u = .bool true ∧ y = .int .i64 (k : Int) ∧ x = .int .i64 ((v / 2 ^ k : Nat) : Int) ∧ Aside0 (Below w.heap.size w wq) ∧ Aside0 (Blk wq gs 27 (setArr (bitsU (8 * i + k) V))))
        case atStart => exact ⟨0, by omega, rfl, rfl, by simp, HB, HS⟩
        case round =>
          clear HB HS
          obtain ⟨k, hk, rfl, rfl, rfl, HB, HS⟩ := hrel
          have hx0 : v / 2 ^ k < 256 := Nat.lt_of_le_of_lt (Nat.div_le_self _ _) hbl
          have hx1 : Aside0 (v / 2 ^ k / 2 = v / 2 ^ (k + 1)) := ⟨by rw [Nat.div_div_eq_div_mul, Nat.pow_succ]⟩
          by_cases hkl : k < kz
          · skip
            have hbb := byte_bit V i k v (by omega) hbv.out
            have hee := hE.out i k (by have := HIP.out; omega)
            have k8 : (k : Int) < 8 := by omega
            have k0 : (0 : Int) ≤ (k : Int) := by omega
            generalize v / 2 ^ k = y at *
            have hx2 : (y : Int) < 256 := by omega
            have hx3 : (0 : Int) ≤ (y : Int) := by omega
            have hx4 : Aside0 ((y : Int) / 2 = ((v / 2 ^ (k + 1) : Nat) : Int)) := ⟨by rw [← hx1.out]; omega⟩
            obtain ⟨jj, rfl⟩ : ∃ z, gk = z + 1 := ⟨gk - 1, by omega⟩
            have hxm : ((y : Int) % 2 = 1) ↔ V.testBit (8 * i + k) = true := by rw [hbb, decide_eq_true_eq]; omega
            have cx := HS.out.cell (setArr_get (bitsU (8 * i + k) V) (8 * i + k) (by rw [bitsU_length]; omega))
            have fx := HS.out.frozen (8 * i + k)
            have hon := Aside0.mk (bitsU_on V (8 * i + k) (by omega))
            have hoff := Aside0.mk (bitsU_off V (8 * i + k))
            have hrd := Aside0.mk (setArr_set (bitsU (8 * i + k) V) (8 * i + k) true)
            generalize (bitsU (8 * i + k) V).getD (8 * i + k) false = z0 at *
            have hXy : Aside0 True := ⟨trivial⟩
            generalize (y : Int) = X at *
            have p0 : (0 : Int) ≤ 8 * (i : Int) + (k : Int) := by omega
            have p1 : 8 * (i : Int) + (k : Int) < 64 := by omega
            have p2 : (8 * (i : Int) + (k : Int)).toNat = 8 * i + k := by omega
            by_cases hbit : V.testBit (8 * i + k) = true
            · have hm1 : X % 2 = 1 := hxm.2 hbit
              have hlt3 : 8 * (i : Int) + (k : Int) < (n : Int) := by have := hee hbit; omega
              have HP2 := Aside0.mk p2
              clear p2 hxm hbb hee
              replace hbit := Aside0.mk hbit
              go_wp2_with fail
              go_roundg jj
              case measure => omega
              case rel =>
                refine ⟨k + 1, by omega, rfl, by go_num, by rw [hx4.out], ⟨HB.out.setCell hgs.out _⟩, ⟨?_⟩⟩
                have h := HS.out.set_ (8 * i + k) (.bool true)
                rw [hrd.out, hon.out hbit.out] at h
                have e : (8 * (i : Int) + (k : Int)).toNat = 8 * i + k := by omega
                first | exact h | (rw [e]; exact h)
            · have hm1 : ¬ X % 2 = 1 := fun h => hbit (hxm.1 h)
              have hb0 : Aside0 (V.testBit (8 * i + k) = false) := ⟨by simpa using hbit⟩
              clear p2 hxm hbb hee hbit
              go_wp2_with fail
              go_roundg jj
              case measure => omega
              case rel => exact ⟨k + 1, by omega, rfl, by go_num, by rw [hx4.out], HB, by have h := HS; rw [hoff.out hb0.out] at h; exact h⟩
          · have hk8 : k = kz := by omega
            have hpk : 8 * i + k = p := by have := HIP.out; omega
            have hbb := byte_bit V i k v (by omega) hbv.out
            rw [hpk, hp2] at hbb
            generalize v / 2 ^ k = y at *
            have hm1 : (y : Int) % 2 = 1 := by have := of_decide_eq_true hbb.symm; omega
            have k8 : (k : Int) < 8 := by omega
            have k0 : (0 : Int) ≤ (k : Int) := by omega
            have hx2 : (y : Int) < 256 := by omega
            have hx3 : (0 : Int) ≤ (y : Int) := by omega
            have hge : (n : Int) ≤ 8 * (i : Int) + (k : Int) := by omega
            clear hbb hpk hk8
            generalize (y : Int) = X at *
            go_wp2_with fail
            go_roundg kk
            case measure => omega
            case rel => exact ⟨i + 1, _, by have := HSE.out; omega, by go_num, by rw [decide_eq_false HIN.out.2], ⟨bitsU_length _ _, fun h => absurd h HIN.out.2⟩, HB, HS⟩
      · have hi1 : i = p / 8 + 1 := by omega
        rw [decide_eq_false (show ¬ i ≤ p / 8 by omega)]
        go_wp2_with fail
        go_ret
        exact ⟨rfl, HB.out⟩
theorem walk (b : ByteArray) (n : Int) (w : World) (_ : b.size ≤ 140737488351232) (_ : (Lit.int .i64 n).wf = true) :
    Calls Try.prog 5 #[.string b, .int .i64 n] w fun e w' => e = .returned (.bool true) ∧ Below w.heap.size w w' := by
  by_cases h1 : 40 < (b.size : Int)
  · exact early b n w h1
  · by_cases h2 : n < 0 ∨ (¬ n < 0 ∧ 64 < n)
    · exact noarg b n w h1 h2
    · obtain ⟨m, rfl⟩ := Int.eq_ofNat_of_zero_le (show 0 ≤ n by omega)
      by_cases hl : b.size = (m + 7) / 8
      · rcases first_bad (wordB (natsOf b) b.size) m (8 * b.size) with h | ⟨p, p0, p1, p2, p3⟩
        · refine good b m w h1 (by omega) hl (fun k hk _ => ?_)
          by_cases hk2 : k < 8 * b.size
          · exact h k hk hk2
          · have := wordB_lt (natsOf b) (natsOf_lt b) b.size
            rw [show (256 : Nat) = 2 ^ 8 by decide, ← Nat.pow_mul] at this
            exact Nat.testBit_lt_two_pow (Nat.lt_of_lt_of_le this (Nat.pow_le_pow_right (by decide) (by omega)))
        · exact bad b m w h1 (by omega) hl p p0 p1 p2 p3
      · exact nolen b m w h1 (by omega) hl
end Go.Proofs.Ytffemlfdhkndiaa.WDirtReads
