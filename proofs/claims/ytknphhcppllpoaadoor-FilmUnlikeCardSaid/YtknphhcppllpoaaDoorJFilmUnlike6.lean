/- Parts of the proof for FilmUnlike: Zero, Alive4, FilmN, UnlN. -/
import Derived.Lib.Strings
import Derived.Test.YtknphhcppllpoaaDoorJFilmUnlike3
import Derived.Test.YtknphhcppllpoaaDoorJFilmUnlike2
import Derived.Test.YtknphhcppllpoaaDoorJFilmUnlike4
import Derived.Test.YtknphhcppllpoaaDoorJFilmUnlike5
section
namespace Go.Proofs.YtknphhcppllpoaaDoor.Hand
open Go.RowKit Go.Proofs.YtknphhcppllpoaaDoorW.PrintWords Go.Proofs.YtknphhcppllpoaaDoorW.PrintLast Go.Proofs.YtknphhcppllpoaaDoorW.PrintMore Go.Proofs.YtknphhcppllpoaaDoor.A
set_option linter.unusedVariables false
set_option linter.unusedSimpArgs false
attribute [local go_sem] max2_int min2_int max_two min_two max_three min_three max_four min_four
theorem light_l0 (l : List S31) : ∀ (d k i : Nat), i + d = 60 → 2 * d + 2 ≤ k → ∃ b, emulsionlaw4_Light.l0 k l (i : Int) = some b
  | 0, k, i, hi, hk => by
    obtain ⟨k, rfl⟩ : ∃ m, k = m + 2 := ⟨k - 2, by omega⟩
    obtain rfl : i = 60 := by omega
    simp only [emulsionlaw4_Light.l0]
    split
    · rw [show decide (((60 : Nat) : Int) < 60) = false by decide]
      exact ⟨_, by simp only [emulsionlaw4_Light.j1]; rw [if_neg (by decide)]⟩
    · exact ⟨_, by simp only [emulsionlaw4_Light.j1]; rw [if_neg (by decide)]⟩
  | d + 1, k, i, hi, hk => by
    obtain ⟨k, rfl⟩ : ∃ m, k = m + 2 := ⟨k - 2, by omega⟩
    obtain ⟨b, hb⟩ := light_l0 l d k (i + 1) (by omega) (by omega)
    simp only [emulsionlaw4_Light.l0]
    by_cases hlt : (i : Int) < (l.length : Int)
    · rw [if_pos hlt, decide_eq_true (by omega)]
      simp only [emulsionlaw4_Light.j1]
      rw [if_pos trivial, if_pos (by omega), if_pos hlt]
      by_cases hs : ((rd_T31 l (i : Int)).f1.size : Int) > 600
      · exact ⟨_, by rw [if_pos hs]⟩
      · rw [if_neg hs, w_id (by omega) (by omega)]
        exact ⟨b, hb⟩
    · rw [if_neg hlt]
      exact ⟨_, by simp only [emulsionlaw4_Light.j1]; rw [if_neg (by decide)]⟩
theorem light_any (A : Option Addr) (c : Nat) (l : List S31) (w : World) (hC : Kd.C k31 w A l.length l) (hc : l.length ≤ c) :
    Calls Tryd.prog 7 #[.slice A l.length c] w fun e w' => ∃ b, e = .returned (.bool b) ∧ Below w.heap.size w w' := by
  obtain ⟨b, hb⟩ := light_l0 l 60 200 0 (by omega) (by omega)
  exact (emulsionlaw4_Light.calls 200 A c l b w hC hc hb).mono fun e w' ⟨h1, h2⟩ => ⟨b, h1, drawn_below h2⟩
/-- Are all bytes 0? -/
def allz (s : ByteArray) : Prop := ∀ i : Nat, i < s.size → bt s (i : Int) = 0
theorem bt_take (s : ByteArray) (m i : Nat) (h : i < m) (hm : m ≤ s.size) : bt (s.extract 0 m) (i : Int) = bt s (i : Int) := by
  have hs : (s.extract 0 m).size = m := by rw [ByteArray.size_extract]; omega
  unfold bt
  rw [dif_pos (by rw [hs, Int.toNat_natCast]; exact h), dif_pos (by rw [Int.toNat_natCast]; omega)]
  simp only [Int.toNat_natCast, ByteArray.getElem_extract, Nat.zero_add]
theorem bt_drop1 (s : ByteArray) (i : Nat) (h : i + 1 < s.size) : bt (s.extract 1 s.size) (i : Int) = bt s ((i + 1 : Nat) : Int) := by
  have hs : (s.extract 1 s.size).size = s.size - 1 := by rw [ByteArray.size_extract]; omega
  unfold bt
  rw [dif_pos (by rw [hs, Int.toNat_natCast]; omega), dif_pos (by rw [Int.toNat_natCast]; omega)]
  simp only [Int.toNat_natCast, ByteArray.getElem_extract, Nat.add_comm]
theorem trimR (n : Nat) : ∀ (s : ByteArray) (k : Nat), s.size = n → n < k → (n : Int) ≤ 9223372036854775807 → ∃ R, strings_trimRightByte.l0 k s 0 = some R ∧ (allz s → R.size = 0) ∧ (¬ allz s → 0 < R.size ∧ R.size ≤ n ∧ bt R ((R.size - 1 : Nat) : Int) ≠ 0) := by
  induction n with
  | zero =>
    intro s k hs hk _
    obtain ⟨k, rfl⟩ : ∃ m, k = m + 1 := ⟨k - 1, by omega⟩
    exact ⟨s, by simp only [strings_trimRightByte.l0]; rw [if_neg (by omega)], fun _ => hs, fun h => absurd (fun i hi => by omega) h⟩
  | succ n ih =>
    intro s k hs hk hb
    obtain ⟨k, rfl⟩ : ∃ m, k = m + 1 := ⟨k - 1, by omega⟩
    simp only [strings_trimRightByte.l0]
    have hw : wrap64 ((s.size : Int) - 1) = (n : Int) := by rw [w_id (by omega) (by omega)]; omega
    rw [if_pos (by omega), hw, if_pos (by omega), if_pos (by omega)]
    by_cases h0 : bt s (n : Int) = 0
    · rw [if_pos h0, if_pos (by omega), Int.toNat_natCast]
      have hsz : (s.extract 0 n).size = n := by rw [ByteArray.size_extract]; omega
      obtain ⟨R, e, h1, h2⟩ := ih (s.extract 0 n) k hsz (by omega) (by omega)
      have hall : allz s ↔ allz (s.extract 0 n) := by
        constructor
        · intro h i hi
          rw [hsz] at hi
          rw [bt_take s n i hi (by omega)]
          exact h i (by omega)
        · intro h i hi
          by_cases hin : i = n
          · rw [hin]; exact h0
          · rw [← bt_take s n i (by omega) (by omega)]
            exact h i (by rw [hsz]; omega)
      refine ⟨R, e, fun h => h1 (hall.1 h), fun h => ?_⟩
      obtain ⟨a, b, c⟩ := h2 (fun q => h (hall.2 q))
      exact ⟨a, by omega, c⟩
    · rw [if_neg h0]
      refine ⟨s, rfl, fun h => absurd (h n (by omega)) h0, fun _ => ⟨by omega, by omega, ?_⟩⟩
      rw [hs, Nat.add_sub_cancel]; exact h0
theorem trimL (n : Nat) : ∀ (s : ByteArray) (k : Nat), s.size = n → n < k → ∃ R, strings_trimLeftByte.l0 k s 0 = some R ∧ (s.size = 0 → R.size = 0) ∧ (0 < s.size → bt s ((s.size - 1 : Nat) : Int) ≠ 0 → 0 < R.size) := by
  induction n with
  | zero =>
    intro s k hs hk
    obtain ⟨k, rfl⟩ : ∃ m, k = m + 1 := ⟨k - 1, by omega⟩
    exact ⟨s, by simp only [strings_trimLeftByte.l0]; rw [if_neg (by omega)], fun _ => hs, fun h => by omega⟩
  | succ n ih =>
    intro s k hs hk
    obtain ⟨k, rfl⟩ : ∃ m, k = m + 1 := ⟨k - 1, by omega⟩
    simp only [strings_trimLeftByte.l0]
    rw [if_pos (by omega), if_pos (by omega)]
    by_cases h0 : bt s 0 = 0
    · rw [if_pos h0, if_pos (by omega)]
      have hsz : (s.extract 1 s.size).size = n := by rw [ByteArray.size_extract]; omega
      obtain ⟨R, e, h1, h2⟩ := ih (s.extract 1 s.size) k hsz (by omega)
      refine ⟨R, e, fun h => by omega, fun _ hl => ?_⟩
      by_cases hn : n = 0
      · subst hn
        rw [hs] at hl
        exact absurd h0 hl
      · refine h2 (by omega) ?_
        rw [hsz, bt_drop1 s (n - 1) (by omega), show n - 1 + 1 = s.size - 1 by omega]
        exact hl
    · rw [if_neg h0]
      exact ⟨s, rfl, fun h => by omega, fun _ _ => by omega⟩
instance (s : ByteArray) : Decidable (allz s) := inferInstanceAs (Decidable (∀ i : Nat, i < s.size → bt s (i : Int) = 0))
def zeroB (s : ByteArray) : Bool := decide (allz s)
set_option maxRecDepth 100000 in
set_option maxHeartbeats 800000 in
theorem trim_0 (s : ByteArray) (hs : (s.size : Int) ≤ 9223372036854775807) (h0 : 0 < s.size) (w : World) :
    Calls Tryd.prog 29 #[.string s, .string ⟨#[0]⟩] w fun e w' => ∃ R : ByteArray, e = .returned (.string R) ∧ R.toList.isEmpty = zeroB s ∧ Below w.heap.size w w' := by
  obtain ⟨R, eR, r1, r2⟩ := trimR s.size s (s.size + 1) rfl (by omega) hs
  obtain ⟨T, eT, t1, t2⟩ := trimL R.size R (R.size + 1) rfl (by omega)
  have hT : T.toList.isEmpty = zeroB s := by
    have hz : T.toList.isEmpty = decide (T.size = 0) := by
      rw [ByteArray.toList_eq]
      cases hl : T.data.toList with
      | nil =>
        have : T.size = 0 := by rw [Lib.size_eq, hl]; rfl
        rw [this]; rfl
      | cons a l =>
        have : T.size = l.length + 1 := by rw [Lib.size_eq, hl]; rfl
        rw [this]; rfl
    rw [hz]
    unfold zeroB
    by_cases ha : allz s
    · rw [decide_eq_true ha, decide_eq_true (t1 (r1 ha))]
    · obtain ⟨a, b, c⟩ := r2 ha
      rw [decide_eq_false ha, decide_eq_false (by have := t2 a c; omega)]
  have HR : Aside0 (strings_trimRightByte.f (s.size + 1) s 0 = some R) := ⟨eR⟩
  have HL : Aside0 (strings_trimLeftByte.f (R.size + 1) R 0 = some T) := ⟨eT⟩
  have hne : s.toList.isEmpty = false := by
    rw [ByteArray.toList_eq]
    cases hl : s.data.toList with
    | nil => have : s.size = 0 := by rw [Lib.size_eq, hl]; rfl
             omega
    | cons a l => rfl
  have hne2 : (!s.toList.isEmpty) = true := by rw [hne]; rfl
  replace hT := Aside0.mk hT
  clear eR eT r1 r2 t1 t2 h0 hs
  go_enter Tryd.func29, Tryd.ntmps29
  go_wp2_with fail
  refine start_ (n := 8) (S := fun w' => Below w.heap.size w w') (ds := []) #[false, false, false, false, false, false, false, false] (by kernel_rfl) rfl rfl ((below_drew1 (Below.refl _ _))) (fun hHeld => ?_)
  refine pure_ (i := 0) (N := some 22) (v := ?_) (a' := ?_) #[true, false, false, false, false, false, false, false] rfl rfl (by kernel_rfl) (fun _ _ _ h => h) (Or.inl ⟨by rfl, ?_⟩) ?_ ?_
  rotate_left
  · intro w'
    go_simp
    with_reducible rfl
  rotate_left
  · simp only [Act.put, List.setIfInBounds_toArray, List.set_cons_zero, List.set_cons_succ, i64_w, i32_w]
    rfl
  refine pure_ (i := 1) (N := some 23) (v := ?_) (a' := ?_) #[true, true, false, false, false, false, false, false] rfl rfl (by kernel_rfl) (fun _ _ _ h => h) (Or.inl ⟨by rfl, ?_⟩) ?_ ?_
  rotate_left
  · intro w'
    go_simp
    with_reducible rfl
  rotate_left
  · simp only [Act.put, List.setIfInBounds_toArray, List.set_cons_zero, List.set_cons_succ, i64_w, i32_w]
    rfl
  refine pure_ (i := 4) (N := some 26) (v := ?_) (a' := ?_) #[true, true, false, false, true, false, false, false] rfl rfl (by kernel_rfl) (fun _ _ _ h => h) (Or.inl ⟨by rfl, ?_⟩) ?_ ?_
  rotate_left
  · intro w'
    go_simp
    with_reducible rfl
  rotate_left
  · simp only [Act.put, List.setIfInBounds_toArray, List.set_cons_zero, List.set_cons_succ, i64_w, i32_w]
    rfl
  refine take_ (i := 2) (N := some 24) (v := ?_) (a' := ?_) #[true, true, true, false, true, false, false, false] rfl rfl (by kernel_rfl) (fun _ _ _ h => h) (Or.inl ⟨by rfl, ?_⟩) hHeld ?_ ?_
  rotate_left
  · intro w' s0
    go_simp
    with_reducible rfl
  rotate_left
  · simp only [Act.put, List.setIfInBounds_toArray, List.set_cons_zero, List.set_cons_succ, i64_w, i32_w]
    rfl
  refine take_ (i := 5) (N := some 27) (v := ?_) (a' := ?_) #[true, true, true, false, true, true, false, false] rfl rfl (by kernel_rfl) (fun _ _ _ h => h) (Or.inl ⟨by rfl, ?_⟩) hHeld ?_ ?_
  rotate_left
  · intro w' s0
    go_simp
    with_reducible rfl
  rotate_left
  · simp only [Act.put, List.setIfInBounds_toArray, List.set_cons_zero, List.set_cons_succ, i64_w, i32_w]
    rfl
  refine one_ (i := 3) (N := some 25) #[true, true, true, true, true, true, false, false] rfl rfl (by kernel_rfl) (by decide) (fun K hK => ?_)
  refine goes_ Tryd.func63 (by kernel_rfl) rfl #[.string s, .int .u8 0] (by rfl) rfl rfl (by simp only [List.map_toArray, List.map_cons, List.map_nil]; rfl) ?_
  with_reducible refine (strings_trimRightByte.calls _ s 0 R _ HR.out).mono ?_
  rintro e w3 ⟨rfl, hd⟩
  refine ⟨_, rfl, ?_⟩
  refine hK.out _ _ (below_step hHeld (drawn_below hd)) (fun hHeld => ?_)
  clear hK K
  refine norm_ (a' := ?_) ?_ ?_
  rotate_left
  · show Act.put _ (some 25) _ = _
    simp only [Act.put, List.setIfInBounds_toArray, List.set_cons_zero, List.set_cons_succ, i64_w, i32_w]
    rfl
  refine one_ (i := 6) (N := some 28) #[true, true, true, true, true, true, true, false] rfl rfl (by kernel_rfl) (by decide) (fun K hK => ?_)
  refine goes_ Tryd.func62 (by kernel_rfl) rfl #[.string R, .int .u8 0] (by rfl) rfl rfl (by simp only [List.map_toArray, List.map_cons, List.map_nil]; rfl) ?_
  with_reducible refine (strings_trimLeftByte.calls _ R 0 T _ HL.out).mono ?_
  rintro e w4 ⟨rfl, hd⟩
  refine ⟨_, rfl, ?_⟩
  refine hK.out _ _ (below_step hHeld (drawn_below hd)) (fun hHeld => ?_)
  clear hK K
  refine norm_ (a' := ?_) ?_ ?_
  rotate_left
  · show Act.put _ (some 28) _ = _
    simp only [Act.put, List.setIfInBounds_toArray, List.set_cons_zero, List.set_cons_succ, i64_w, i32_w]
    rfl
  refine pure_ (i := 7) (N := some 4) (v := ?_) (a' := ?_) #[true, true, true, true, true, true, true, true] rfl rfl (by kernel_rfl) (fun _ _ _ h => h) (Or.inl ⟨by rfl, ?_⟩) ?_ ?_
  rotate_left
  · intro w'
    go_simp
    with_reducible rfl
  rotate_left
  · simp only [Act.put, List.setIfInBounds_toArray, List.set_cons_zero, List.set_cons_succ, i64_w, i32_w]
    rfl
  refine done_ (by kernel_rfl) ?_
  go_wp2_with fail
  go_ret
  exact ⟨T, rfl, hT.out, hHeld⟩
set_option maxRecDepth 100000 in
theorem trim_nil (w : World) :
    Calls Tryd.prog 29 #[.string ⟨#[]⟩, .string ⟨#[0]⟩] w fun e w' => e = .returned (.string ⟨#[]⟩) ∧ w' = w := by
  go_enter Tryd.func29, Tryd.ntmps29
  go_wp2_with fail
  go_ret
  exact ⟨rfl, rfl⟩
set_option maxRecDepth 100000 in
theorem film_zero (s : ByteArray) (hs : (s.size : Int) ≤ 9223372036854775807) (w : World) :
    Calls Tryd.prog 18 #[.string s] w fun e w' => e = .returned (.bool (zeroB s)) ∧ Below w.heap.size w w' := by
  rcases Nat.eq_zero_or_pos s.size with h0 | h0
  · obtain rfl : s = ⟨#[]⟩ := by
      cases s with
      | mk d => congr; exact Array.eq_empty_of_size_eq_zero h0
    go_enter Tryd.func18, Tryd.ntmps18
    go_wp2_with fail
    refine (trim_nil _).mono ?_
    rintro e w1 ⟨rfl, rfl⟩
    go_wp2_with fail
    go_ret
    exact ⟨rfl, Below.refl _ _⟩
  · have ht := Aside0.mk (trim_0 s hs h0 w)
    clear hs h0
    go_enter Tryd.func18, Tryd.ntmps18
    go_wp2_with fail
    refine ht.out.mono ?_
    rintro e w1 ⟨R, rfl, hR, hB⟩
    go_wp2_with fail
    go_ret
    exact ⟨rfl, hB⟩
end Go.Proofs.YtknphhcppllpoaaDoor.Hand
end
section
namespace Go.Proofs.YtknphhcppllpoaaDoor.Hand
open Go.RowKit Go.Proofs.YtknphhcppllpoaaDoorW.PrintWords Go.Proofs.YtknphhcppllpoaaDoorW.PrintLast Go.Proofs.YtknphhcppllpoaaDoorW.PrintMore Go.Proofs.YtknphhcppllpoaaDoor.A
set_option linter.unusedVariables false
set_option linter.unusedSimpArgs false
attribute [local go_sem] max2_int min2_int max_two min_two max_three min_three max_four min_four
set_option maxRecDepth 100000 in
set_option maxHeartbeats 1600000 in
theorem alive4 (w : World) : Calls Tryd.prog 8 #[] w fun e w' => e = .returned (.bool true) ∧ Below w.heap.size w w' := by
  go_enter Tryd.func8, Tryd.ntmps8
  go_wp2_with fail
  refine (film_new 2 (by decide) (by decide) _).mono ?_
  rintro e w1 ⟨gf, q, rfl, hg1, hq1, hf, hB⟩
  have HB1 := Aside0.mk hB
  have HF1 := Aside0.mk hf
  have Hg := Aside0.mk hg1
  have Hq := Aside0.mk hq1
  clear hB hf hg1 hq1
  go_wp2_with fail
  refine (film_write gf q _ 7 ⟨#[97, 98]⟩ _ HF1.out (by decide) (by decide)).mono ?_
  rintro e w2 ⟨rfl, hf, ho⟩
  have HB2 := Aside0.mk (below_only HB1.out ho Hq.out)
  have HF2 := Aside0.mk hf
  clear hf ho HB1 HF1
  go_wp2_with fail
  refine (film_block gf q _ 2 1 _ HF2.out (by decide) (by decide) (by decide)).mono ?_
  rintro e w5 ⟨rfl, rfl⟩
  rw [show (⟨((List.drop (8 * 1) (spl (List.replicate (8 * 2) 0) 7 (ByteArray.mk #[97, 98]).data.toList)).take 8).toArray⟩ : ByteArray) = (⟨#[98]⟩ : ByteArray) ++ Zs 7 from by decide]
  have z7 : (Zs 7).size = 7 := by decide
  go_wp2_with fail
  refine (emulsionref1_Zeros.calls 7 (Zs 7) _ (zeros_eq 7 (by decide))).mono ?_
  rintro e w6 ⟨rfl, hB⟩
  have HB6 := Aside0.mk (below_step HB2.out hB)
  have HF6 := Aside0.mk (HF2.out.keep hB)
  clear hB HB2 HF2
  go_wp2_with fail
  refine (film_blocks gf q _ 2 _ HF6.out (by decide)).mono ?_
  rintro e w7 ⟨rfl, rfl⟩
  go_wp2_with fail
  refine (film_zero ⟨#[0]⟩ (by decide) _).mono ?_
  rintro e w8 ⟨rfl, hB⟩
  have HB8 := Aside0.mk (below_step HB6.out hB)
  rw [show zeroB ⟨#[0]⟩ = true from by decide]
  clear hB
  go_wp2_with fail
  go_ret
  exact ⟨rfl, HB8.out⟩
end Go.Proofs.YtknphhcppllpoaaDoor.Hand
end
section
namespace Go.Proofs.YtknphhcppllpoaaDoor.Hand
open Go.RowKit Go.Proofs.YtknphhcppllpoaaDoorW.PrintWords Go.Proofs.YtknphhcppllpoaaDoorW.PrintLast Go.Proofs.YtknphhcppllpoaaDoorW.PrintMore Go.Proofs.YtknphhcppllpoaaDoor.A
set_option linter.unusedVariables false
set_option linter.unusedSimpArgs false
theorem unlV_same (x : Nat → ByteArray × Int) : ∀ n, unlV x x n = []
  | 0 => rfl
  | n + 1 => by unfold unlV; rw [if_pos rfl]; exact unlV_same x n
theorem ba_ext' {a b : ByteArray} (h : a.data.toList = b.data.toList) : a = b := by
  cases a; cases b; congr; exact Array.toList_inj.1 h
end Go.Proofs.YtknphhcppllpoaaDoor.Hand
end
section
namespace Go.Proofs.YtknphhcppllpoaaDoor.Hand
open Go.RowKit Go.Proofs.YtknphhcppllpoaaDoorW.PrintWords Go.Proofs.YtknphhcppllpoaaDoorW.PrintLast Go.Proofs.YtknphhcppllpoaaDoorW.PrintMore Go.Proofs.YtknphhcppllpoaaDoor.A
set_option linter.unusedVariables false
set_option linter.unusedSimpArgs false
theorem zero_ref_l (s : ByteArray) (hs : s.size ≤ 1000) : ∀ (m j fuel : Nat), j + m = s.size → m < fuel → ∃ b, emulsionref1_Zero.l0 fuel s (j : Int) = some b ∧ (b = true ↔ ∀ i : Nat, j ≤ i → i < s.size → bt s (i : Int) = 0)
  | 0, j, fuel, hj, hf => by
    obtain ⟨f, rfl⟩ : ∃ f, fuel = f + 1 := ⟨fuel - 1, by omega⟩
    refine ⟨true, ?_, ⟨fun _ i h1 h2 => by omega, fun _ => rfl⟩⟩
    unfold emulsionref1_Zero.l0
    rw [if_neg (by omega)]
  | m + 1, j, fuel, hj, hf => by
    obtain ⟨f, rfl⟩ : ∃ f, fuel = f + 1 := ⟨fuel - 1, by omega⟩
    unfold emulsionref1_Zero.l0
    rw [if_pos (by omega), if_pos (by omega)]
    by_cases h : bt s (j : Int) = 0
    · obtain ⟨b, hb, hi⟩ := zero_ref_l s hs m (j + 1) f (by omega) (by omega)
      rw [if_pos h, w_id (x := (j : Int) + 1) (by omega) (by omega), show (j : Int) + 1 = ((j + 1 : Nat) : Int) by omega]
      refine ⟨b, hb, hi.trans ⟨fun q i h1 h2 => ?_, fun q i h1 h2 => q i (by omega) h2⟩⟩
      by_cases hi : i = j
      · rw [hi]; exact h
      · exact q i (by omega) h2
    · rw [if_neg h]
      exact ⟨false, rfl, ⟨fun q => absurd q (by decide), fun q => absurd (q j (Nat.le_refl _) (by omega)) h⟩⟩
theorem zero_ref (s : ByteArray) (hs : s.size ≤ 1000) : emulsionref1_Zero.f 1001 s = some (zeroB s) := by
  unfold emulsionref1_Zero.f
  obtain ⟨b, hb, hi⟩ := zero_ref_l s hs s.size 0 1001 (by omega) (by omega)
  rw [show ((0 : Nat) : Int) = 0 from rfl] at hb
  rw [hb]
  congr 1
  rw [Bool.eq_iff_iff, hi]
  unfold zeroB
  rw [decide_eq_true_iff]
  exact ⟨fun q i h1 => q i (Nat.zero_le _) h1, fun q i _ h1 => q i h1⟩
theorem blk_ex (l : List UInt8) (k : Nat) (h : 8 * k + 8 ≤ l.length) : (⟨l.toArray⟩ : ByteArray).extract (k * 8) ((k + 1) * 8) = blkS l k := by
  apply ba_ext'
  rw [Lib.extract_data]
  unfold blkS
  show List.take _ (List.drop (k * 8) l) = List.take 8 (List.drop (8 * k) l)
  rw [show (k + 1) * 8 - k * 8 = 8 by omega, Nat.mul_comm]
theorem unlV_comm (x y : Nat → ByteArray × Int) : ∀ n, unlV x y n = unlV y x n
  | 0 => rfl
  | n + 1 => by
    unfold unlV
    rw [unlV_comm x y n]
    by_cases h : x n = y n
    · rw [if_pos h, if_pos h.symm]
    · rw [if_neg h, if_neg (fun e => h e.symm)]
theorem unlV_all (x y : Nat → ByteArray × Int) (n : Nat) (h1 : 1 ≤ n) (h : n ≤ 64) (hd : ∀ k, k < n → x k ≠ y k) : unlV x y n = [⟨0, (n : Int)⟩] := by
  obtain ⟨hT, hm⟩ := unlV_spec x y n h
  refine hT.ext (lo' := 0) ⟨by simp only; omega, by simp only; omega, by simp only; omega, trivial⟩ (fun j => (hm j).trans ?_)
  have hone : mem [(⟨0, (n : Int)⟩ : SPN)] j ↔ 0 ≤ j ∧ j < n := by
    unfold mem inSp
    simp only [List.mem_singleton, exists_eq_left]
    omega
  rw [hone]
  exact ⟨fun ⟨a, b, _⟩ => ⟨a, b⟩, fun ⟨a, b⟩ => ⟨a, b, hd _ (by omega)⟩⟩
theorem unl_nil (m : List UInt8) (b : Nat) (h1 : 1 ≤ b) (h : b ≤ 64) : unlV (fun _ => ((⟨#[]⟩ : ByteArray), (1 : Int))) (blkV m b) (max 0 b) = [⟨0, (b : Int)⟩] := by
  rw [Nat.zero_max]
  refine unlV_all _ _ b h1 h (fun k hk e => ?_)
  have := congrArg Prod.snd e
  unfold blkV at this
  rw [if_pos hk] at this
  change (1 : Int) = 0 at this
  omega
/-- The set of the blocks that differ. -/
def SetU (x y : Nat → ByteArray × Int) (s : List Bool) (k : Nat) : Prop := s.length = 64 ∧ ∀ j, s.getD j false = decide (j < k ∧ x j ≠ y j)
theorem SetU.zero (x y : Nat → ByteArray × Int) : SetU x y (List.replicate 64 false) 0 := ⟨List.length_replicate, fun j => by
  rw [decide_eq_false (fun h => Nat.not_lt_zero _ h.1), List.getD_eq_getElem?_getD, List.getElem?_replicate]
  split <;> rfl⟩
theorem SetU.no {x y : Nat → ByteArray × Int} {s : List Bool} {k : Nat} (h : SetU x y s k) (hk : x k = y k) : SetU x y s (k + 1) := ⟨h.1, fun j => by
  rw [h.2 j]
  refine decide_eq_decide.2 ⟨fun ⟨a, b⟩ => ⟨by omega, b⟩, fun ⟨a, b⟩ => ⟨?_, b⟩⟩
  by_cases hj : j = k
  · subst hj; exact absurd hk b
  · omega⟩
theorem SetU.yes {x y : Nat → ByteArray × Int} {s : List Bool} {k : Nat} (h : SetU x y s k) (h64 : k < 64) (hk : x k ≠ y k) : SetU x y (s.set k true) (k + 1) := ⟨by rw [List.length_set]; exact h.1, fun j => by
  rw [List.getD_eq_getElem?_getD]
  by_cases hj : k = j
  · subst hj
    rw [List.getElem?_set_self (by rw [h.1]; exact h64), decide_eq_true ⟨by omega, hk⟩]; rfl
  · rw [List.getElem?_set_ne hj, ← List.getD_eq_getElem?_getD, h.2 j]
    exact decide_eq_decide.2 ⟨fun ⟨a, b⟩ => ⟨by omega, b⟩, fun ⟨a, b⟩ => ⟨by omega, b⟩⟩⟩
theorem SetU.all {x y : Nat → ByteArray × Int} {s : List Bool} {n : Nat} (h : SetU x y s n) (hn : n ≤ 64) : unlV x y n = spansOf s := by
  obtain ⟨hT, hm⟩ := unlV_spec x y n hn
  refine tidy_eq hT (fun k hk => (hm k).trans ?_)
  rw [h.2 k, decide_eq_true_iff, Int.toNat_natCast]
  exact ⟨fun ⟨_, b, c⟩ => ⟨by omega, c⟩, fun ⟨b, c⟩ => ⟨by omega, by omega, c⟩⟩
theorem blkV_left {l m : List UInt8} {a b k : Nat} (h1 : a ≤ k) (h2 : k < b) : blkV l a k ≠ blkV m b k := fun e => by
  have := congrArg Prod.snd e
  unfold blkV at this
  rw [if_neg (by omega), if_pos h2] at this
  change (2 : Int) = 0 at this
  omega
theorem blkV_right {l m : List UInt8} {a b k : Nat} (h1 : k < a) (h2 : b ≤ k) : blkV l a k ≠ blkV m b k := fun e => blkV_left h2 h1 e.symm
theorem blkV_both {l m : List UInt8} {a b k : Nat} (h1 : k < a) (h2 : k < b) : blkV l a k = blkV m b k ↔ blkS l k = blkS m k := by
  unfold blkV
  rw [if_pos h1, if_pos h2]
  exact ⟨fun e => congrArg Prod.fst e, fun e => by rw [e]⟩
theorem FilmAt.far {w : World} {g q p t j : Nat} {cs : Array Value} {l : List UInt8} (h : FilmAt w g q l) (hp : Blk w p t cs) (h1 : t ≠ 66) (h2 : t ≠ 5) (u : Value) : FilmAt (w.setCell ⟨p, j, none⟩ u) g q l := by
  have hc := h
  obtain ⟨c, hb, _, cs', fr, hq, _⟩ := hc
  refine h.move (far_heap ?_) (far_heap ?_)
  · rintro rfl
    have e := hb.hd.symm.trans hp.hd
    injection e with e; injection e with _ e
    exact h1 e.symm
  · rintro rfl
    have e := hq.symm.trans hp.hd
    injection e with e; injection e with _ e
    exact h2 e.symm
/-- What a book's method leaves. -/
theorem BookFx.film {LT g base gf q : Nat} {w w1 : World} {l : List UInt8} (h : BookFx LT g base w w1) (hf : FilmAt w gf q l) (h1 : 66 ≠ LT) (h2 : 5 ≠ LT) (h3 : gf ≠ g) (h4 : q ≠ g) : FilmAt w1 gf q l := by
  refine hf.move (h.2 gf hf.lt.1 h3 (fun cs hc => ?_)) (h.2 q hf.lt.2 h4 (fun cs hc => ?_))
  · obtain ⟨c, hb, _⟩ := hf
    rw [hb.hd] at hc; injection hc with hc; injection hc with _ hc; exact h1 hc
  · obtain ⟨c, hb, _, cs', fr, hq, _⟩ := hf
    rw [hq] at hc; injection hc with hc; injection hc with _ hc _; exact h2 hc
theorem BookFx.R {α : Type} {d : Kd α} {e LT g base B : Nat} {w w1 : World} {v : Value} {l : List α} (hE : d.E = []) (h : BookFx LT g base w w1) (hv : Kd.R d e w B (fun _ => True) v l) (h1 : e ≠ LT) (h2 : ∀ k, v.ownBlock = some k → k ≠ g) : Kd.R d e w1 B (fun _ => True) v l :=
  R_moved hE hv (fun k hk => h.2 k (Kd.R_lt hv k hk) (h2 k hk) (fun cs hc => by
    obtain ⟨cs', hc'⟩ := Kd.R_typed hv k hk
    rw [hc'] at hc; injection hc with hc; injection hc with _ hc; exact h1 hc))
end Go.Proofs.YtknphhcppllpoaaDoor.Hand
end
