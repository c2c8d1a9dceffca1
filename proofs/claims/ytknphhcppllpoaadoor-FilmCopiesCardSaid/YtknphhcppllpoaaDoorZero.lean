/- Bytes that are all 0 (film.Zero, over strings.Trim), walked; how many acts are light. -/
import Derived.Test.YtknphhcppllpoaaDoorRunsB
import Derived.Lib.Strings
import Derived.Test.YtknphhcppllpoaaDoorAx0
import Derived.Test.YtknphhcppllpoaaDoorAx4
import Derived.Test.YtknphhcppllpoaaDoorAx6
namespace Go.Proofs.YtknphhcppllpoaaDoor.Hand
open Go.RowKit Go.Proofs.YtknphhcppllpoaaDoorW.PrintWords Go.Proofs.YtknphhcppllpoaaDoorW.PrintLast Go.Proofs.YtknphhcppllpoaaDoorW.PrintMore Go.Proofs.YtknphhcppllpoaaDoor.A
set_option linter.unusedVariables false
set_option linter.unusedSimpArgs false
attribute [local go_sem] max2_int min2_int max_two min_two max_three min_three max_four min_four
theorem light_l0 (l : List S31) : ∀ (d k i : Nat), i + d = 60 → 2 * d + 2 ≤ k → ∃ b, emulsionlaw4_Light.l0 k l (i : Int) = some b
  | 0, k, i, hi, hk => by
    obtain ⟨k, rfl⟩ : ∃ m, k = m + 2 := ⟨k - 2, by omega⟩
    obtain rfl : i = 60 := by omega
    simp only [emulsionlaw4_Light.l0]
    split
    · rw [show decide (((60 : Nat) : Int) < 60) = false by decide]
      exact ⟨_, by simp only [emulsionlaw4_Light.j1]; rw [if_neg (by decide)]⟩
    · exact ⟨_, by simp only [emulsionlaw4_Light.j1]; rw [if_neg (by decide)]⟩
  | d + 1, k, i, hi, hk => by
    obtain ⟨k, rfl⟩ : ∃ m, k = m + 2 := ⟨k - 2, by omega⟩
    obtain ⟨b, hb⟩ := light_l0 l d k (i + 1) (by omega) (by omega)
    simp only [emulsionlaw4_Light.l0]
    by_cases hlt : (i : Int) < (l.length : Int)
    · rw [if_pos hlt, decide_eq_true (by omega)]
      simp only [emulsionlaw4_Light.j1]
      rw [if_pos trivial, if_pos (by omega), if_pos hlt]
      by_cases hs : ((rd_T31 l (i : Int)).f1.size : Int) > 600
      · exact ⟨_, by rw [if_pos hs]⟩
      · rw [if_neg hs, w_id (by omega) (by omega)]
        exact ⟨b, hb⟩
    · rw [if_neg hlt]
      exact ⟨_, by simp only [emulsionlaw4_Light.j1]; rw [if_neg (by decide)]⟩
theorem light_any (A : Option Addr) (c : Nat) (l : List S31) (w : World) (hC : Kd.C k31 w A l.length l) (hc : l.length ≤ c) :
    Calls Tryd.prog 7 #[.slice A l.length c] w fun e w' => ∃ b, e = .returned (.bool b) ∧ Below w.heap.size w w' := by
  obtain ⟨b, hb⟩ := light_l0 l 60 200 0 (by omega) (by omega)
  exact (emulsionlaw4_Light.calls 200 A c l b w hC hc hb).mono fun e w' ⟨h1, h2⟩ => ⟨b, h1, drawn_below h2⟩
/-- Are all bytes 0? -/
def allz (s : ByteArray) : Prop := ∀ i : Nat, i < s.size → bt s (i : Int) = 0
theorem bt_take (s : ByteArray) (m i : Nat) (h : i < m) (hm : m ≤ s.size) : bt (s.extract 0 m) (i : Int) = bt s (i : Int) := by
  have hs : (s.extract 0 m).size = m := by rw [ByteArray.size_extract]; omega
  unfold bt
  rw [dif_pos (by rw [hs, Int.toNat_natCast]; exact h), dif_pos (by rw [Int.toNat_natCast]; omega)]
  simp only [Int.toNat_natCast, ByteArray.getElem_extract, Nat.zero_add]
theorem bt_drop1 (s : ByteArray) (i : Nat) (h : i + 1 < s.size) : bt (s.extract 1 s.size) (i : Int) = bt s ((i + 1 : Nat) : Int) := by
  have hs : (s.extract 1 s.size).size = s.size - 1 := by rw [ByteArray.size_extract]; omega
  unfold bt
  rw [dif_pos (by rw [hs, Int.toNat_natCast]; omega), dif_pos (by rw [Int.toNat_natCast]; omega)]
  simp only [Int.toNat_natCast, ByteArray.getElem_extract, Nat.add_comm]
theorem trimR (n : Nat) : ∀ (s : ByteArray) (k : Nat), s.size = n → n < k → (n : Int) ≤ 9223372036854775807 → ∃ R, strings_trimRightByte.l0 k s 0 = some R ∧ (allz s → R.size = 0) ∧ (¬ allz s → 0 < R.size ∧ R.size ≤ n ∧ bt R ((R.size - 1 : Nat) : Int) ≠ 0) := by
  induction n with
  | zero =>
    intro s k hs hk _
    obtain ⟨k, rfl⟩ : ∃ m, k = m + 1 := ⟨k - 1, by omega⟩
    exact ⟨s, by simp only [strings_trimRightByte.l0]; rw [if_neg (by omega)], fun _ => hs, fun h => absurd (fun i hi => by omega) h⟩
  | succ n ih =>
    intro s k hs hk hb
    obtain ⟨k, rfl⟩ : ∃ m, k = m + 1 := ⟨k - 1, by omega⟩
    simp only [strings_trimRightByte.l0]
    have hw : wrap64 ((s.size : Int) - 1) = (n : Int) := by rw [w_id (by omega) (by omega)]; omega
    rw [if_pos (by omega), hw, if_pos (by omega), if_pos (by omega)]
    by_cases h0 : bt s (n : Int) = 0
    · rw [if_pos h0, if_pos (by omega), Int.toNat_natCast]
      have hsz : (s.extract 0 n).size = n := by rw [ByteArray.size_extract]; omega
      obtain ⟨R, e, h1, h2⟩ := ih (s.extract 0 n) k hsz (by omega) (by omega)
      have hall : allz s ↔ allz (s.extract 0 n) := by
        constructor
        · intro h i hi
          rw [hsz] at hi
          rw [bt_take s n i hi (by omega)]
          exact h i (by omega)
        · intro h i hi
          by_cases hin : i = n
          · rw [hin]; exact h0
          · rw [← bt_take s n i (by omega) (by omega)]
            exact h i (by rw [hsz]; omega)
      refine ⟨R, e, fun h => h1 (hall.1 h), fun h => ?_⟩
      obtain ⟨a, b, c⟩ := h2 (fun q => h (hall.2 q))
      exact ⟨a, by omega, c⟩
    · rw [if_neg h0]
      refine ⟨s, rfl, fun h => absurd (h n (by omega)) h0, fun _ => ⟨by omega, by omega, ?_⟩⟩
      rw [hs, Nat.add_sub_cancel]; exact h0
theorem trimL (n : Nat) : ∀ (s : ByteArray) (k : Nat), s.size = n → n < k → ∃ R, strings_trimLeftByte.l0 k s 0 = some R ∧ (s.size = 0 → R.size = 0) ∧ (0 < s.size → bt s ((s.size - 1 : Nat) : Int) ≠ 0 → 0 < R.size) := by
  induction n with
  | zero =>
    intro s k hs hk
    obtain ⟨k, rfl⟩ : ∃ m, k = m + 1 := ⟨k - 1, by omega⟩
    exact ⟨s, by simp only [strings_trimLeftByte.l0]; rw [if_neg (by omega)], fun _ => hs, fun h => by omega⟩
  | succ n ih =>
    intro s k hs hk
    obtain ⟨k, rfl⟩ : ∃ m, k = m + 1 := ⟨k - 1, by omega⟩
    simp only [strings_trimLeftByte.l0]
    rw [if_pos (by omega), if_pos (by omega)]
    by_cases h0 : bt s 0 = 0
    · rw [if_pos h0, if_pos (by omega)]
      have hsz : (s.extract 1 s.size).size = n := by rw [ByteArray.size_extract]; omega
      obtain ⟨R, e, h1, h2⟩ := ih (s.extract 1 s.size) k hsz (by omega)
      refine ⟨R, e, fun h => by omega, fun _ hl => ?_⟩
      by_cases hn : n = 0
      · subst hn
        rw [hs] at hl
        exact absurd h0 hl
      · refine h2 (by omega) ?_
        rw [hsz, bt_drop1 s (n - 1) (by omega), show n - 1 + 1 = s.size - 1 by omega]
        exact hl
    · rw [if_neg h0]
      exact ⟨s, rfl, fun h => by omega, fun _ _ => by omega⟩
instance (s : ByteArray) : Decidable (allz s) := inferInstanceAs (Decidable (∀ i : Nat, i < s.size → bt s (i : Int) = 0))
def zeroB (s : ByteArray) : Bool := decide (allz s)
set_option maxRecDepth 100000 in
set_option maxHeartbeats 800000 in
theorem trim_0 (s : ByteArray) (hs : (s.size : Int) ≤ 9223372036854775807) (h0 : 0 < s.size) (w : World) :
    Calls Tryd.prog 29 #[.string s, .string ⟨#[0]⟩] w fun e w' => ∃ R : ByteArray, e = .returned (.string R) ∧ R.toList.isEmpty = zeroB s ∧ Below w.heap.size w w' := by
  obtain ⟨R, eR, r1, r2⟩ := trimR s.size s (s.size + 1) rfl (by omega) hs
  obtain ⟨T, eT, t1, t2⟩ := trimL R.size R (R.size + 1) rfl (by omega)
  have hT : T.toList.isEmpty = zeroB s := by
    have hz : T.toList.isEmpty = decide (T.size = 0) := by
      rw [ByteArray.toList_eq]
      cases hl : T.data.toList with
      | nil =>
        have : T.size = 0 := by rw [Lib.size_eq, hl]; rfl
        rw [this]; rfl
      | cons a l =>
        have : T.size = l.length + 1 := by rw [Lib.size_eq, hl]; rfl
        rw [this]; rfl
    rw [hz]
    unfold zeroB
    by_cases ha : allz s
    · rw [decide_eq_true ha, decide_eq_true (t1 (r1 ha))]
    · obtain ⟨a, b, c⟩ := r2 ha
      rw [decide_eq_false ha, decide_eq_false (by have := t2 a c; omega)]
  have HR : Aside0 (strings_trimRightByte.f (s.size + 1) s 0 = some R) := ⟨eR⟩
  have HL : Aside0 (strings_trimLeftByte.f (R.size + 1) R 0 = some T) := ⟨eT⟩
  have hne : s.toList.isEmpty = false := by
    rw [ByteArray.toList_eq]
    cases hl : s.data.toList with
    | nil => have : s.size = 0 := by rw [Lib.size_eq, hl]; rfl
             omega
    | cons a l => rfl
  have hne2 : (!s.toList.isEmpty) = true := by rw [hne]; rfl
  replace hT := Aside0.mk hT
  clear eR eT r1 r2 t1 t2 h0 hs
  go_enter Tryd.func29, Tryd.ntmps29
  go_wp2_with fail
  refine start_ (n := 8) (S := fun w' => Below w.heap.size w w') (ds := []) #[false, false, false, false, false, false, false, false] (by kernel_rfl) rfl rfl ((below_drew1 (Below.refl _ _))) (fun hHeld => ?_)
  refine pure_ (i := 0) (N := some 22) (v := ?_) (a' := ?_) #[true, false, false, false, false, false, false, false] rfl rfl (by kernel_rfl) (fun _ _ _ h => h) (Or.inl ⟨by rfl, ?_⟩) ?_ ?_
  rotate_left
  · intro w'
    go_simp
    with_reducible rfl
  rotate_left
  · simp only [Act.put, List.setIfInBounds_toArray, List.set_cons_zero, List.set_cons_succ, i64_w, i32_w]
    rfl
  refine pure_ (i := 1) (N := some 23) (v := ?_) (a' := ?_) #[true, true, false, false, false, false, false, false] rfl rfl (by kernel_rfl) (fun _ _ _ h => h) (Or.inl ⟨by rfl, ?_⟩) ?_ ?_
  rotate_left
  · intro w'
    go_simp
    with_reducible rfl
  rotate_left
  · simp only [Act.put, List.setIfInBounds_toArray, List.set_cons_zero, List.set_cons_succ, i64_w, i32_w]
    rfl
  refine pure_ (i := 4) (N := some 26) (v := ?_) (a' := ?_) #[true, true, false, false, true, false, false, false] rfl rfl (by kernel_rfl) (fun _ _ _ h => h) (Or.inl ⟨by rfl, ?_⟩) ?_ ?_
  rotate_left
  · intro w'
    go_simp
    with_reducible rfl
  rotate_left
  · simp only [Act.put, List.setIfInBounds_toArray, List.set_cons_zero, List.set_cons_succ, i64_w, i32_w]
    rfl
  refine take_ (i := 2) (N := some 24) (v := ?_) (a' := ?_) #[true, true, true, false, true, false, false, false] rfl rfl (by kernel_rfl) (fun _ _ _ h => h) (Or.inl ⟨by rfl, ?_⟩) hHeld ?_ ?_
  rotate_left
  · intro w' s0
    go_simp
    with_reducible rfl
  rotate_left
  · simp only [Act.put, List.setIfInBounds_toArray, List.set_cons_zero, List.set_cons_succ, i64_w, i32_w]
    rfl
  refine take_ (i := 5) (N := some 27) (v := ?_) (a' := ?_) #[true, true, true, false, true, true, false, false] rfl rfl (by kernel_rfl) (fun _ _ _ h => h) (Or.inl ⟨by rfl, ?_⟩) hHeld ?_ ?_
  rotate_left
  · intro w' s0
    go_simp
    with_reducible rfl
  rotate_left
  · simp only [Act.put, List.setIfInBounds_toArray, List.set_cons_zero, List.set_cons_succ, i64_w, i32_w]
    rfl
  refine one_ (i := 3) (N := some 25) #[true, true, true, true, true, true, false, false] rfl rfl (by kernel_rfl) (by decide) (fun K hK => ?_)
  refine goes_ Tryd.func63 (by kernel_rfl) rfl #[.string s, .int .u8 0] (by rfl) rfl rfl (by simp only [List.map_toArray, List.map_cons, List.map_nil]; rfl) ?_
  with_reducible refine (strings_trimRightByte.calls _ s 0 R _ HR.out).mono ?_
  rintro e w3 ⟨rfl, hd⟩
  refine ⟨_, rfl, ?_⟩
  refine hK.out _ _ (below_step hHeld (drawn_below hd)) (fun hHeld => ?_)
  clear hK K
  refine norm_ (a' := ?_) ?_ ?_
  rotate_left
  · show Act.put _ (some 25) _ = _
    simp only [Act.put, List.setIfInBounds_toArray, List.set_cons_zero, List.set_cons_succ, i64_w, i32_w]
    rfl
  refine one_ (i := 6) (N := some 28) #[true, true, true, true, true, true, true, false] rfl rfl (by kernel_rfl) (by decide) (fun K hK => ?_)
  refine goes_ Tryd.func62 (by kernel_rfl) rfl #[.string R, .int .u8 0] (by rfl) rfl rfl (by simp only [List.map_toArray, List.map_cons, List.map_nil]; rfl) ?_
  with_reducible refine (strings_trimLeftByte.calls _ R 0 T _ HL.out).mono ?_
  rintro e w4 ⟨rfl, hd⟩
  refine ⟨_, rfl, ?_⟩
  refine hK.out _ _ (below_step hHeld (drawn_below hd)) (fun hHeld => ?_)
  clear hK K
  refine norm_ (a' := ?_) ?_ ?_
  rotate_left
  · show Act.put _ (some 28) _ = _
    simp only [Act.put, List.setIfInBounds_toArray, List.set_cons_zero, List.set_cons_succ, i64_w, i32_w]
    rfl
  refine pure_ (i := 7) (N := some 4) (v := ?_) (a' := ?_) #[true, true, true, true, true, true, true, true] rfl rfl (by kernel_rfl) (fun _ _ _ h => h) (Or.inl ⟨by rfl, ?_⟩) ?_ ?_
  rotate_left
  · intro w'
    go_simp
    with_reducible rfl
  rotate_left
  · simp only [Act.put, List.setIfInBounds_toArray, List.set_cons_zero, List.set_cons_succ, i64_w, i32_w]
    rfl
  refine done_ (by kernel_rfl) ?_
  go_wp2_with fail
  go_ret
  exact ⟨T, rfl, hT.out, hHeld⟩
set_option maxRecDepth 100000 in
theorem trim_nil (w : World) :
    Calls Tryd.prog 29 #[.string ⟨#[]⟩, .string ⟨#[0]⟩] w fun e w' => e = .returned (.string ⟨#[]⟩) ∧ w' = w := by
  go_enter Tryd.func29, Tryd.ntmps29
  go_wp2_with fail
  go_ret
  exact ⟨rfl, rfl⟩
set_option maxRecDepth 100000 in
theorem film_zero (s : ByteArray) (hs : (s.size : Int) ≤ 9223372036854775807) (w : World) :
    Calls Tryd.prog 18 #[.string s] w fun e w' => e = .returned (.bool (zeroB s)) ∧ Below w.heap.size w w' := by
  rcases Nat.eq_zero_or_pos s.size with h0 | h0
  · obtain rfl : s = ⟨#[]⟩ := by
      cases s with
      | mk d => congr; exact Array.eq_empty_of_size_eq_zero h0
    go_enter Tryd.func18, Tryd.ntmps18
    go_wp2_with fail
    refine (trim_nil _).mono ?_
    rintro e w1 ⟨rfl, rfl⟩
    go_wp2_with fail
    go_ret
    exact ⟨rfl, Below.refl _ _⟩
  · have ht := Aside0.mk (trim_0 s hs h0 w)
    clear hs h0
    go_enter Tryd.func18, Tryd.ntmps18
    go_wp2_with fail
    refine ht.out.mono ?_
    rintro e w1 ⟨R, rfl, hR, hB⟩
    go_wp2_with fail
    go_ret
    exact ⟨rfl, hB⟩
end Go.Proofs.YtknphhcppllpoaaDoor.Hand
