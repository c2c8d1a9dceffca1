/- TrackRounds, walked: each block that was marked is looked at by the first backup that begins behind it and is done. -/
import Derived.Test.YtffemlfdhkndiaaTrackC
import Derived.Test.YtffemlfdhkndiaaAbs
import Derived.Test.YtffemlfdhkndiaaOps
import Derived.Deep.WholeRow
import Derived.Test.YtffemlfdhkndiaaAx0
namespace Go.Proofs.Ytffemlfdhkndiaa.WTrackRounds
open Go.RowKit Go.Proofs.YtffemlfdhkndiaaW.PrintWords Go.Proofs.YtffemlfdhkndiaaW.PrintLast Go.Proofs.YtffemlfdhkndiaaW.PrintMore Go.Proofs.Ytffemlfdhkndiaa.A Go.Proofs.Ytffemlfdhkndiaa.Bits Go.Proofs.Ytffemlfdhkndiaa.Hand Go.Proofs.Ytffemlfdhkndiaa.Open
set_option linter.unusedVariables false
set_option linter.unusedSimpArgs false
attribute [local go_sem] max2_int min2_int max_two min_two max_three min_three max_four min_four
theorem memB_bits (n x k : Nat) (hn : n ≤ 64) (hk : k < n) : memB (spansOf (bitsS n x)) (k : Int) = x.testBit k := by
  rw [Bool.eq_iff_iff, memB_iff, bits_mem, Int.toNat_natCast]
  exact ⟨fun h => h.2.2.2, fun h => ⟨by omega, by omega, by omega, h⟩⟩
/-- The first so many places as told, the others as they were. -/
def upTo (f : Nat → Bool) (b : List Bool) (k : Nat) : List Bool := (List.range 64).map fun j => if j < k then f j else b.getD j false
theorem upTo_length (f : Nat → Bool) (b : List Bool) (k : Nat) : (upTo f b k).length = 64 := by unfold upTo; simp
theorem upTo_get (f : Nat → Bool) (b : List Bool) (k j : Nat) (hj : j < 64) : (upTo f b k).getD j false = if j < k then f j else b.getD j false := by
  unfold upTo
  rw [List.getD_eq_getElem?_getD, List.getElem?_map, List.getElem?_range hj]; rfl
theorem upTo_zero (f : Nat → Bool) (b : List Bool) (hb : b.length = 64) : upTo f b 0 = b := by
  apply List.ext_getElem?
  intro j
  by_cases hj : j < 64
  · unfold upTo
    rw [List.getElem?_map, List.getElem?_range hj, List.getElem?_eq_getElem (by omega)]
    simp [List.getD_eq_getElem?_getD, List.getElem?_eq_getElem (show j < b.length by omega)]
  · rw [List.getElem?_eq_none (by rw [upTo_length]; omega), List.getElem?_eq_none (by omega)]
theorem upTo_step (f : Nat → Bool) (b : List Bool) (k : Nat) (hk : k < 64) : (upTo f b k).set k (f k) = upTo f b (k + 1) := by
  apply List.ext_getElem?
  intro j
  rw [List.getElem?_set]
  by_cases hj : j < 64
  · unfold upTo
    rw [List.getElem?_map, List.getElem?_map, List.getElem?_range hj]
    by_cases e : k = j
    · subst e
      simp [hk]
    · rw [if_neg e]
      by_cases h : j < k
      · simp [h, show j < k + 1 by omega]
      · simp [h, show ¬ j < k + 1 by omega]
  · rw [if_neg (by omega), List.getElem?_eq_none (by rw [upTo_length]; omega), List.getElem?_eq_none (by rw [upTo_length]; omega)]
/-- What holds between the things that are done. -/
def Due (n : Nat) (du se : List Bool) (x1 x2 : Nat) (b : Bool) : Prop :=
  du.length = 64 ∧ se.length = 64 ∧ x1 < 18446744073709551616 ∧ x2 < 18446744073709551616 ∧
  (∀ k, k < n → du.getD k false = true → x1.testBit k = true ∨ (b = true ∧ x2.testBit k = true)) ∧
  (b = true → ∀ k, k < n → du.getD k false = true → se.getD k false = false → x1.testBit k = true)
theorem Due.zero (n : Nat) : Due n none64 none64 0 0 false := by
  refine ⟨by simp, by simp, by decide, by decide, ?_, ?_⟩
  · intro k _ h
    rw [none64_get] at h; cases h
  · intro h; cases h
theorem put_get (s : List Bool) (x : S31) (k : Nat) (hs : s.length = 64) : (putS s [x] true).getD k false = if wh x.f0 x.f1 ∧ x.f0 ≤ k ∧ (k : Int) < x.f0 + x.f1 then true else s.getD k false := putOne_get s x true k hs
theorem Due.mark {n : Nat} {du se : List Bool} {x1 x2 : Nat} {b : Bool} (h : Due n du se x1 x2 b) (hn : n ≤ 64) (F M : Int) :
    Due n (putS du [⟨F, M⟩] true) (upTo (fun j => se.getD j false && !(putS none64 [⟨F, M⟩] true).getD j false) se 64) (x1 ||| markV n F M) x2 b := by
  obtain ⟨h1, h2, h3, h4, h5, h6⟩ := h
  refine ⟨(putS_length _ _ _).trans h1, upTo_length _ _ _, or_lt h3 (markV_lt n F M), h4, fun k hk hd => ?_, fun hb k hk hd hs => ?_⟩
  · rw [put_get _ _ _ h1] at hd
    rw [Nat.testBit_or, markV_test]
    by_cases hin : wh F M ∧ F ≤ (k : Int) ∧ (k : Int) < F + M
    · left; simp [hin, hk]
    · rw [if_neg hin] at hd
      rcases h5 k hk hd with h | h
      · left; rw [h]; rfl
      · exact .inr h
  · rw [put_get _ _ _ h1] at hd
    rw [upTo_get _ _ _ _ (by omega), if_pos (by omega), put_get _ _ _ (by simp)] at hs
    rw [Nat.testBit_or, markV_test]
    by_cases hin : wh F M ∧ F ≤ (k : Int) ∧ (k : Int) < F + M
    · simp [hin, hk]
    · rw [if_neg hin] at hd
      rw [if_neg hin, none64_get] at hs
      rw [h6 hb k hk hd (by simpa using hs)]; rfl
theorem Due.freeze {n : Nat} {du se : List Bool} {x1 x2 : Nat} (h : Due n du se x1 x2 false) (hn : n ≤ 64) : Due n du (upTo (fun j => x1.testBit j) se n) 0 x1 true := by
  obtain ⟨h1, h2, h3, h4, h5, h6⟩ := h
  refine ⟨h1, upTo_length _ _ _, by decide, h3, fun k hk hd => ?_, fun _ k hk hd hs => ?_⟩
  · rcases h5 k hk hd with h | ⟨h, _⟩
    · exact .inr ⟨rfl, h⟩
    · cases h
  · rw [upTo_get _ _ _ _ (by omega), if_pos hk] at hs
    rcases h5 k hk hd with h | ⟨h, _⟩
    · rw [hs] at h; cases h
    · cases h
theorem Due.commit {n : Nat} {du se : List Bool} {x1 x2 : Nat} (h : Due n du se x1 x2 true) (hn : n ≤ 64) : Due n (upTo (fun j => du.getD j false && !se.getD j false) du 64) none64 x1 0 false := by
  obtain ⟨h1, h2, h3, h4, h5, h6⟩ := h
  refine ⟨upTo_length _ _ _, by simp, h3, by decide, fun k hk hd => ?_, fun h => by cases h⟩
  rw [upTo_get _ _ _ _ (by omega), if_pos (by omega)] at hd
  simp only [Bool.and_eq_true, Bool.not_eq_true'] at hd
  exact .inl (h6 rfl k hk hd.1 hd.2)
theorem Due.idle {n : Nat} {du se : List Bool} {x1 x2 : Nat} (h : Due n du se x1 x2 false) : Due n du none64 x1 x2 false := by
  obtain ⟨h1, h2, h3, h4, h5, h6⟩ := h
  exact ⟨h1, by simp, h3, h4, h5, fun h => by cases h⟩
theorem Due.back {n : Nat} {du se : List Bool} {x1 x2 : Nat} (h : Due n du se x1 x2 true) : Due n du none64 (x1 ||| (x2 &&& ones 0 n)) 0 false := by
  obtain ⟨h1, h2, h3, h4, h5, h6⟩ := h
  refine ⟨h1, by simp, or_lt h3 (and_lt h4), by decide, fun k hk hd => ?_, fun h => by cases h⟩
  left
  rw [Nat.testBit_or, Nat.testBit_and, ones_test]
  rcases h5 k hk hd with h | ⟨_, h⟩
  · rw [h]; rfl
  · rw [h]; simp [hk]
set_option maxRecDepth 100000 in
theorem early (b : Int) (A : Option Addr) (c : Nat) (l : List Op6) (w : World) (h : b < 1 ∨ (¬ b < 1 ∧ 64 < b) ∨ (¬ b < 1 ∧ ¬ 64 < b ∧ 60 < (l.length : Int))) :
    Calls Try.prog 9 #[.int .i64 b, .slice A l.length c] w fun e w' => e = .returned (.bool true) ∧ Below w.heap.size w w' := by
  rcases h with h | ⟨h0, h⟩ | ⟨h0, h1, h⟩
  all_goals
    go_enter Try.func9, Try.ntmps9
    go_wp2_with (go_at_call 35; refine (alive6 _).mono ?_; rintro e w1 ⟨rfl, hB⟩)
    go_ret
    exact ⟨rfl, hB⟩
set_option maxRecDepth 100000 in
set_option maxHeartbeats 6400000 in
theorem main (n : Nat) (A : Option Addr) (c : Nat) (l : List Op6) (w : World) (h1 : 1 ≤ n) (h2 : n ≤ 64) (h3 : l.length ≤ 60) (hA : OpsC w A l) :
    Calls Try.prog 9 #[.int .i64 (n : Int), .slice A l.length c] w fun e w' => e = .returned (.bool true) ∧ Below w.heap.size w w' := by
  have CA := Aside0.mk hA
  have i1 : ¬ (n : Int) < 1 := by omega
  have i2 : ¬ (64 : Int) < (n : Int) := by omega
  have i3 : ¬ (60 : Int) < (l.length : Int) := by omega
  have i5 : (1 : Int) ≤ (n : Int) := by omega
  have i6 : (n : Int) ≤ 64 := by omega
  have i7 : (l.length : Int) ≤ 60 := by omega
  have HB0 := Aside0.mk (Below.refl w.heap.size w)
  clear hA
  go_enter Try.func9, Try.ntmps9
  go_wp2_with fail
  refine (alive6 _).mono ?_
  rintro e w1 ⟨rfl, hB⟩
  have HB1 := Aside0.mk (below_step HB0.out hB)
  clear hB HB0
  go_wp2_with fail
  refine (track_new n h1 h2 _).mono ?_
  rintro e w2 ⟨gt, rfl, ht, hB⟩
  obtain ⟨tb, htb⟩ : ∃ n, n = w1.heap.size := ⟨_, rfl⟩
  rw [← htb] at ht
  have GB : Aside0 (w.heap.size ≤ tb) := ⟨by rw [htb]; exact HB1.out.size⟩
  have T2 := Aside0.mk ht
  have HB2 := Aside0.mk (below_step HB1.out hB)
  clear ht hB htb HB1
  go_wp2_with fail
  refine (freeze_ok tb gt n 0 0 true false _ h2 T2.out).mono ?_
  rintro e w3 ⟨rfl, ht, hB⟩
  have T3 := Aside0.mk ht
  have HB3 := Aside0.mk (below_mix HB2.out GB.out hB)
  clear hB ht HB2 T2
  go_wp2_with fail
  refine (commit_ok tb gt n 0 0 false true _ h2 T3.out).mono ?_
  rintro e w4 ⟨rfl, ht, hB⟩
  have T4 := Aside0.mk ht
  have HB4 := Aside0.mk (below_mix HB3.out GB.out hB)
  clear hB ht HB3 T3
  go_wp2_with fail
  refine code_abs (fun X => Below w.heap.size w X ∧ TrackAt X tb gt n 0 0 false false false ∧ Blk X w4.heap.size 27 (setArr none64) ∧ Blk X (w4.heap.size + 1) 27 (setArr none64)) ⟨below_alloc (below_alloc HB4.out _) _, (T4.out.keep (below_alloc (Below.refl _ _) _)).keep (below_alloc (Below.refl _ _) _), (Blk.new _ _ _).alloc _, Blk.new2 _ _ _ _⟩ ?_
  rintro wq ⟨hb, ht, hsa, hsb⟩
  have HBq := Aside0.mk hb
  have Tq := Aside0.mk ht
  have SD := Aside0.mk hsa
  have SS := Aside0.mk hsb
  have hg0 : Aside0 (w.heap.size ≤ w4.heap.size) := ⟨HB4.out.size⟩
  clear hb ht hsa hsb HB4 T4
  generalize w4.heap.size = gd at *
  go_loopg [9] l.length (fun kq v wq => ∃ (i : Nat) (du se : List Bool) (x1 x2 : Nat) (b : Bool), i + kq = l.length ∧ v = .int .i64 (i : Int) ∧ Aside0 (Due n du se x1 x2 b) ∧ Aside0 (Below w.heap.size w wq) ∧ Aside0 (TrackAt wq tb gt n x1 x2 false false b) ∧ Aside0 (Blk wq gd 27 (setArr du)) ∧ Aside0 (Blk wq (gd + 1) 27 (setArr se)))
  case atStart => exact ⟨0, none64, none64, 0, 0, false, by omega, rfl, ⟨Due.zero n⟩, HBq, Tq, SD, SS⟩
  case round =>
    clear HBq Tq SD SS
    obtain ⟨i, du, se, x1, x2, b, hi, rfl, HD, HB, HT, SD, SS⟩ := hrel
    by_cases hlt : i < l.length
    · skip
      have hlt' : (i : Int) < (l.length : Int) := by omega
      obtain ⟨ad, e1, c0, c1, c2⟩ := (CA.out.keep HB.out).at i hlt
      subst e1
      obtain ⟨_, e1, z0, _, _⟩ := CA.out.at i hlt
      cases e1
      have hab : Aside0 ((ad.add (i * 3)).block < w.heap.size) := ⟨World.block_lt_of_cell? w _ z0⟩
      clear z0
      generalize l[i] = op at *
      obtain ⟨K, F, M⟩ := op
      simp only at c0 c1 c2
      obtain ⟨kk, rfl⟩ : ∃ z, gk = z + 1 := ⟨gk - 1, by omega⟩
      have hld : Aside0 (du.length = 64) := ⟨HD.out.1⟩
      have hls : Aside0 (se.length = 64) := ⟨HD.out.2.1⟩
      have hl1 : Aside0 (x1 < 18446744073709551616) := ⟨HD.out.2.2.1⟩
      have hl2 : Aside0 (x2 < 18446744073709551616) := ⟨HD.out.2.2.2.1⟩
      by_cases k1 : K = 1
      · subst k1
        go_wp2_with fail
        refine start_ (n := 9) (S := fun w' => Below w.heap.size w w' ∧ TrackAt w' tb gt n x1 x2 false false b ∧ Blk w' gd 27 (setArr du) ∧ Blk w' (gd + 1) 27 (setArr se) ∧ w'.cell? ⟨(ad.add (i * 3)).block, (ad.add (i * 3)).off + 1, none⟩ = some (.int .i64 F) ∧ w'.cell? ⟨(ad.add (i * 3)).block, (ad.add (i * 3)).off + 2, none⟩ = some (.int .i64 M)) (ds := [8]) #[false, false, false, false, false, false, false, false, false] (by kernel_rfl) rfl rfl ⟨(below_drew1 HB.out), (TrackAt.keep HT.out (below_drew1 (Below.refl _ _))), (Blk.drew SD.out), (Blk.drew SS.out), c1, c2⟩ (fun hHeld => ?_)
        refine pure_ (i := 1) (N := some 66) (v := ?_) (a' := ?_) #[false, true, false, false, false, false, false, false, false] rfl rfl (by kernel_rfl) (fun _ _ _ h => h) (Or.inl ⟨by rfl, ?_⟩) ?_ ?_
        rotate_left
        · intro w'
          go_simp
          with_reducible rfl
        rotate_left
        · simp only [Act.put, List.setIfInBounds_toArray, List.set_cons_zero, List.set_cons_succ, i64_w, i32_w]
          rfl
        refine pure_ (i := 2) (N := some 67) (v := ?_) (a' := ?_) #[false, true, true, false, false, false, false, false, false] rfl rfl (by kernel_rfl) (fun _ _ _ h => h) (Or.inl ⟨by rfl, ?_⟩) ?_ ?_
        rotate_left
        · intro w'
          go_simp
          with_reducible rfl
        rotate_left
        · simp only [Act.put, List.setIfInBounds_toArray, List.set_cons_zero, List.set_cons_succ, i64_w, i32_w]
          rfl
        refine pure_ (i := 3) (N := some 68) (v := ?_) (a' := ?_) #[false, true, true, true, false, false, false, false, false] rfl rfl (by kernel_rfl) (fun _ _ _ h => h) (Or.inl ⟨by rfl, ?_⟩) ?_ ?_
        rotate_left
        · intro w'
          go_simp
          with_reducible rfl
        rotate_left
        · simp only [Act.put, List.setIfInBounds_toArray, List.set_cons_zero, List.set_cons_succ, i64_w, i32_w]
          rfl
        refine pure_ (i := 4) (N := some 69) (v := ?_) (a' := ?_) #[false, true, true, true, true, false, false, false, false] rfl rfl (by kernel_rfl) (fun _ _ _ h => h) (Or.inl ⟨by rfl, ?_⟩) ?_ ?_
        rotate_left
        · intro w'
          go_simp
          with_reducible rfl
        rotate_left
        · simp only [Act.put, List.setIfInBounds_toArray, List.set_cons_zero, List.set_cons_succ, i64_w, i32_w]
          rfl
        refine take_ (i := 0) (N := some 65) (v := ?_) (a' := ?_) #[true, true, true, true, true, false, false, false, false] rfl rfl (by kernel_rfl) (fun _ _ _ h => h) (Or.inl ⟨by rfl, ?_⟩) hHeld ?_ ?_
        rotate_left
        · rintro w' ⟨s0, s1, s2, s3, s4, s5⟩
          refine row_yields 27 (.tmp 7) ?_ gd ?_ 27 (setArr du) (0, 0) _ s2.hd Try.underlying27 rfl (by rw [setArr_size, hld.out]; exact info27)
          · rfl
          · rfl
        rotate_left
        · simp only [Act.put, List.setIfInBounds_toArray, List.set_cons_zero, List.set_cons_succ, i64_w, i32_w]
          rfl
        refine take_ (i := 5) (N := some 70) (v := ?_) (a' := ?_) #[true, true, true, true, true, true, false, false, false] rfl rfl (by kernel_rfl) (fun _ _ _ h => h) (Or.inl ⟨by rfl, ?_⟩) hHeld ?_ ?_
        rotate_left
        · rintro w' ⟨s0, s1, s2, s3, s4, s5⟩
          go_simp
          with_reducible rfl
        rotate_left
        · simp only [Act.put, List.setIfInBounds_toArray, List.set_cons_zero, List.set_cons_succ, i64_w, i32_w]
          rfl
        refine one_ (i := 6) (N := some 71) #[true, true, true, true, true, true, true, false, false] rfl rfl (by kernel_rfl) (by decide) (fun K hK => ?_)
        refine value_ (w1 := ?_) (v := ?_) (by rfl) rfl ?_ ?_
        rotate_left 2
        · go_simp
          constructor
          · rfl
          · rfl
        refine hK.out _ _ ⟨(below_alloc hHeld.1 _), (TrackAt.keep hHeld.2.1 (below_alloc (Below.refl _ _) _)), (Blk.alloc hHeld.2.2.1 _), (Blk.alloc hHeld.2.2.2.1 _), (keep (below_alloc (Below.refl _ _) _) hHeld.2.2.2.2.1), (keep (below_alloc (Below.refl _ _) _) hHeld.2.2.2.2.2)⟩ (fun hHeld => ?_)
        clear hK K
        refine norm_ (a' := ?_) ?_ ?_
        rotate_left
        · show Act.put _ (some 71) _ = _
          simp only [Act.put, List.setIfInBounds_toArray, List.set_cons_zero, List.set_cons_succ, i64_w, i32_w]
          rfl
        refine one_ (i := 7) (N := some 72) #[true, true, true, true, true, true, true, true, false] rfl rfl (by kernel_rfl) (by decide) (fun K hK => ?_)
        refine goes_ Try.func15 (by kernel_rfl) rfl #[.agg (setArr du), .slice (some ⟨wr.heap.size, 0, none⟩) [(⟨F, M⟩ : S31)].length 1, .bool true] (by rfl) rfl rfl (by simp only [List.map_toArray, List.map_cons, List.map_nil]; rfl) ?_
        with_reducible refine (emulsionref1_Set_Put.calls du hld (some ⟨wr.heap.size, 0, none⟩) 1 [⟨F, M⟩] true _ (Kd.C_below (C_lit wr [⟨F, M⟩] (by simp) #[.int .i64 F, .int .i64 M] rfl) (below_drew1 (Below.refl _ _))) (Nat.le_refl _)).mono ?_
        rintro e w50 ⟨rfl, hb⟩
        refine ⟨_, rfl, ?_⟩
        refine hK.out _ _ ⟨(below_step hHeld.1 hb), (TrackAt.keep hHeld.2.1 hb), (Blk.keep hHeld.2.2.1 hb), (Blk.keep hHeld.2.2.2.1 hb), (keep hb hHeld.2.2.2.2.1), (keep hb hHeld.2.2.2.2.2)⟩ (fun hHeld => ?_)
        clear hK K
        refine norm_ (a' := ?_) ?_ ?_
        rotate_left
        · show Act.put _ (some 72) _ = _
          simp only [Act.put, List.setIfInBounds_toArray, List.set_cons_zero, List.set_cons_succ, i64_w, i32_w]
          rfl
        refine last_ (i := 8) (N := none) #[true, true, true, true, true, true, true, true, true] rfl rfl (by kernel_rfl) (by decide) (fun K hK => ?_)
        rw [if_pos (by rfl)]
        refine wp_store_row 27 (.tmp 7) (.tmp 72) (by rfl) gd (setArr (putS du [⟨F, M⟩] true)) (by rfl) (by rfl) 27 (setArr du) hHeld.2.2.1.hd (by rw [setArr_size, putS_length, hld.out]; exact info27) (by rw [setArr_size, setArr_size, putS_length]) (setArr_one _) ?_
        refine hK.out _ _ ?_
        clear hK K
        refine done_ (by kernel_rfl) ?_
        have HB5 : Aside0 (Below w.heap.size w (w50.setRow gd (setArr (putS du [⟨F, M⟩] true)))) := ⟨below_setRow hHeld.1 hg0.out _⟩
        have HT5 := Aside0.mk (hHeld.2.1.onlyB (only_row w50 gd (setArr (putS du [⟨F, M⟩] true))) hHeld.2.2.1 (by decide) (by decide))
        have SD5 := Aside0.mk (hHeld.2.2.1.row (setArr (putS du [⟨F, M⟩] true)))
        have SS5 := Aside0.mk (hHeld.2.2.2.1.rowFar (show gd + 1 ≠ gd by omega) (setArr (putS du [⟨F, M⟩] true)))
        have d1 := keepO (only_row w50 gd (setArr (putS du [⟨F, M⟩] true))) hHeld.2.2.2.2.1 (show (ad.add (i * 3)).block ≠ gd by have := hab.out; have := hg0.out; omega)
        have d2 := keepO (only_row w50 gd (setArr (putS du [⟨F, M⟩] true))) hHeld.2.2.2.2.2 (show (ad.add (i * 3)).block ≠ gd by have := hab.out; have := hg0.out; omega)
        clear hHeld c0 c1 c2 hb
        generalize hw6 : w50.setRow gd (setArr (putS du [⟨F, M⟩] true)) = w6 at *
        clear hw6
        have hlD : Aside0 ((putS du [⟨F, M⟩] true).length = 64) := ⟨(putS_length _ _ _).trans hld.out⟩
        have HD5 := Aside0.mk (HD.out.mark h2 F M)
        generalize putS du [⟨F, M⟩] true = D at *
        go_wp2_with fail
        refine (emulsionref1_Set_Put.calls none64 ⟨by simp⟩ (some ⟨w6.heap.size, 0, none⟩) 1 [⟨F, M⟩] true _ (C_lit w6 [⟨F, M⟩] (by simp) #[.int .i64 F, .int .i64 M] rfl) (Nat.le_refl _)).mono ?_
        rintro e w7 ⟨rfl, hB⟩
        have HB7 := Aside0.mk (below_step (below_alloc HB5.out _) hB)
        have HT7 := Aside0.mk ((HT5.out.keep (below_alloc (Below.refl _ _) _)).keep hB)
        have SD7 := Aside0.mk ((SD5.out.alloc _).keep hB)
        have SS7 := Aside0.mk ((SS5.out.alloc _).keep hB)
        have e1 := keep hB (keep (below_alloc (Below.refl _ _) _) d1)
        have e2 := keep hB (keep (below_alloc (Below.refl _ _) _) d2)
        clear hB d1 d2 HB5 HT5 SD5 SS5
        have hlS : Aside0 ((putS none64 [⟨F, M⟩] true).length = 64) := ⟨(putS_length _ _ _).trans (by simp)⟩
        generalize putS none64 [⟨F, M⟩] true = sq at *
        go_wp2_with (with_reducible refine wpList_store_row rfl 27 (.tmp 10) (.tmp 80) rfl (w7.heap.size) (setArr sq) rfl rfl 27 _ (heap_alloc_new _ _) (by rw [setArr_size, hlS.out] <;> exact info27) (by rw [setArr_size, hlS.out] <;> with_unfolding_all rfl) (setArr_one _) ?_)
        rw [World.setRow_alloc_new]
        refine code_abs (fun X => Below w.heap.size w X ∧ TrackAt X tb gt n x1 x2 false false b ∧ Blk X gd 27 (setArr D) ∧ Blk X (gd + 1) 27 (setArr se) ∧ Blk X w7.heap.size 27 (setArr sq) ∧ X.cell? ⟨(ad.add (i * 3)).block, (ad.add (i * 3)).off + 1, none⟩ = some (.int .i64 F) ∧ X.cell? ⟨(ad.add (i * 3)).block, (ad.add (i * 3)).off + 2, none⟩ = some (.int .i64 M)) ⟨below_alloc HB7.out _, HT7.out.keep (below_alloc (Below.refl _ _) _), SD7.out.alloc _, SS7.out.alloc _, Blk.new _ _ _, keep (below_alloc (Below.refl _ _) _) e1, keep (below_alloc (Below.refl _ _) _) e2⟩ ?_
        rintro w8 ⟨hb, ht, s1, s2, s3, e3, e4⟩
        have HB8 := Aside0.mk hb
        have HT8 := Aside0.mk ht
        have SD8 := Aside0.mk s1
        have SS8 := Aside0.mk s2
        have SQ8 := Aside0.mk s3
        have hgq : Aside0 (gd + 1 < w7.heap.size ∧ w.heap.size ≤ w7.heap.size) := ⟨⟨SS7.out.lt, HB7.out.size⟩⟩
        clear hb ht s1 s2 s3 e1 e2 HB7 HT7 SD7 SS7
        generalize w7.heap.size = gq at *
        go_loopg [11] 64 (fun kq v wq => ∃ k : Nat, k + kq = 64 ∧ v = .int .i64 (k : Int) ∧ Aside0 (Below w.heap.size w wq) ∧ Aside0 (TrackAt wq tb gt n x1 x2 false false b) ∧ Aside0 (Blk wq gd 27 (setArr D)) ∧ Aside0 (Blk wq (gd + 1) 27 (setArr (upTo (fun j => se.getD j false && !sq.getD j false) se k))) ∧ Aside0 (Blk wq gq 27 (setArr sq)) ∧ wq.cell? ⟨(ad.add (i * 3)).block, (ad.add (i * 3)).off + 1, none⟩ = some (.int .i64 F) ∧ wq.cell? ⟨(ad.add (i * 3)).block, (ad.add (i * 3)).off + 2, none⟩ = some (.int .i64 M))
        case atStart => exact ⟨0, by omega, rfl, HB8, HT8, SD8, by rw [upTo_zero _ _ hls.out]; exact SS8, SQ8, e3, e4⟩
        case round =>
          clear HB8 HT8 SD8 SS8 SQ8 e3 e4
          obtain ⟨k, hk, rfl, HB, HT, SD, SS, SQ, d1, d2⟩ := hrel
          by_cases hkl : k < 64
          · have hkl' : (k : Int) < 64 := by omega
            have hk0 : (0 : Int) ≤ (k : Int) := by omega
            have hup := Aside0.mk (upTo_get (fun j => se.getD j false && !sq.getD j false) se k k hkl)
            have ca := SS.out.cell (setArr_get (upTo (fun j => se.getD j false && !sq.getD j false) se k) k (by rw [upTo_length]; omega))
            have fa := SS.out.frozen k
            have cb := SQ.out.cell (setArr_get sq k (by have := hlS.out; omega))
            have hst : Aside0 ((upTo (fun j => se.getD j false && !sq.getD j false) se k).set k (se.getD k false && !sq.getD k false) = upTo (fun j => se.getD j false && !sq.getD j false) se (k + 1)) := ⟨upTo_step (fun j => se.getD j false && !sq.getD j false) se k hkl⟩
            rw [hup.out, if_neg (by omega)] at ca
            obtain ⟨jj, rfl⟩ : ∃ z, gk = z + 1 := ⟨gk - 1, by omega⟩
            generalize se.getD k false = p at *
            generalize sq.getD k false = q at *
            have hrd := Aside0.mk (setArr_set (upTo (fun j => se.getD j false && !sq.getD j false) se k) k (p && !q))
            have hbn : (ad.add (i * 3)).block ≠ gd + 1 := by have := hab.out; have := hg0.out; omega
            have HBN := Aside0.mk hbn
            clear hbn hup
            cases p
            all_goals
              go_wp2_with fail
              go_roundg jj
              case measure => omega
              case rel =>
                refine ⟨k + 1, by omega, by go_num, ⟨HB.out.setCell (show w.heap.size ≤ gd + 1 by have := hg0.out; omega) _⟩, ⟨HT.out.onlyB (only_set (only_refl _ _) _ _) SS.out (by decide) (by decide)⟩, ⟨SD.out.far (show gd ≠ gd + 1 by omega) _⟩, ⟨?_⟩, ⟨SQ.out.far (show gq ≠ gd + 1 by have := hgq.out; omega) _⟩, ?_, ?_⟩
                · rw [← hst.out, ← hrd.out]; exact SS.out.set_ k _
                · exact (World.cell?_setCell_other _ _ _ _ (fun e => by have := congrArg Addr.block e; exact HBN.out (by first | exact this | exact this.symm))).trans d1
                · exact (World.cell?_setCell_other _ _ _ _ (fun e => by have := congrArg Addr.block e; exact HBN.out (by first | exact this | exact this.symm))).trans d2
          · have hkl' : ¬ (k : Int) < 64 := by omega
            obtain rfl : k = 64 := by omega
            have HD6 := HD5
            generalize upTo (fun j => se.getD j false && !sq.getD j false) se 64 = se2 at *
            go_wp2_with fail
            refine (track_mark tb gt n x1 x2 false false b _ HT.out F M h2 hl1.out).mono ?_
            rintro e w81 ⟨rfl, ht, hB⟩
            have SD_81 := Aside0.mk (SD.out.deep hB (by decide) (by decide))
            clear SD
            have SS_81 := Aside0.mk (SS.out.deep hB (by decide) (by decide))
            clear SS
            have T81 := Aside0.mk ht
            have HB81 := Aside0.mk (below_mix HB.out GB.out hB)
            clear hB ht HB HT
            generalize ((cnt (minus (markV n F M) x1) : Nat) : Int) = zz at *
            go_wp2_with fail
            go_roundg kk
            case measure => omega
            case rel => exact ⟨i + 1, D, se2, _, x2, b, by omega, by go_num, HD6, HB81, T81, SD_81, SS_81⟩
      · by_cases k2 : K = 2
        · subst k2
          cases b
          · skip
            go_wp2_with fail
            refine (track_busy tb gt n x1 x2 false false false _ HT.out).mono ?_
            rintro e w101 ⟨rfl, hB⟩
            have T101 := Aside0.mk (HT.out.keep hB)
            have SD_101 := Aside0.mk (SD.out.keep hB)
            clear SD
            have SS_101 := Aside0.mk (SS.out.keep hB)
            clear SS
            have HB101 := Aside0.mk (below_step HB.out hB)
            clear hB HB HT
            go_wp2_with fail
            refine (freeze_ok tb gt n x1 x2 false false _ h2 T101.out).mono ?_
            rintro e w102 ⟨rfl, ht, hB⟩
            have SD_102 := Aside0.mk (SD_101.out.deep hB (by decide) (by decide))
            clear SD_101
            have SS_102 := Aside0.mk (SS_101.out.deep hB (by decide) (by decide))
            clear SS_101
            have T102 := Aside0.mk ht
            have HB102 := Aside0.mk (below_mix HB101.out GB.out hB)
            clear hB ht HB101 T101
            go_wp2_with fail
            refine (frozen_ok tb gt n 0 x1 false false _ h2 hl1.out T102.out).mono ?_
            rintro e w103 ⟨gr, rfl, hg, hr, hB⟩
            have SD_103 := Aside0.mk (SD_102.out.keep hB)
            clear SD_102
            have SS_103 := Aside0.mk (SS_102.out.keep hB)
            clear SS_102
            have T103 := Aside0.mk (T102.out.keep hB)
            have RF_103 := Aside0.mk hr
            have GE_RF : Aside0 (w.heap.size ≤ gr) := ⟨Nat.le_trans HB102.out.size hg⟩
            have HB103 := Aside0.mk (below_step HB102.out hB)
            clear hB hr hg HB102 T102
            have hm : Aside0 (∀ k, k < n → memB (spansOf (markS n x1 false)) (k : Int) = x1.testBit k) := ⟨fun k hk => memB_bits n x1 k h2 hk⟩
            generalize hL : spansOf (markS n x1 false) = La at *
            have TL : Aside0 (Tidy 0 La) := ⟨hL ▸ spansOf_tidy _⟩
            clear hL
            obtain ⟨b1, hb1⟩ : ∃ z, RunsAt w103 z gr La := ⟨_, RF_103.out⟩
            have RF := Aside0.mk hb1
            clear hb1 RF_103
            have hdx : Aside0 (∀ k, k < n → du.getD k false = true → x1.testBit k = true) := ⟨fun k hk hd => by rcases HD.out.2.2.2.2.1 k hk hd with h | ⟨h, _⟩; exact h; cases h⟩
            have HDf := Aside0.mk (HD.out.freeze h2)
            go_wp2_with fail
            go_loopg [13] n (fun kq v wq => ∃ k : Nat, k + kq = n ∧ v = .int .i64 (k : Int) ∧ Aside0 (Below w.heap.size w wq) ∧ Aside0 (TrackAt wq tb gt n 0 x1 false false true) ∧ Aside0 (RunsAt wq b1 gr La) ∧ Aside0 (Blk wq gd 27 (setArr du)) ∧ Aside0 (Blk wq (gd + 1) 27 (setArr (upTo (fun j => x1.testBit j) se k))))
            case atStart => exact ⟨0, by omega, rfl, HB103, T103, RF, SD_103, by rw [upTo_zero _ _ hls.out]; exact SS_103⟩
            case round =>
              clear HB103 T103 RF SD_103 SS_103
              obtain ⟨k, hk, rfl, HB, HT, RF, SD, SS⟩ := hrel
              by_cases hkl : k < n
              · have hkl' : (k : Int) < (n : Int) := by omega
                have hk0 : (0 : Int) ≤ (k : Int) := by omega
                have hk64 : (k : Int) < 64 := by omega
                have cd := SD.out.cell (setArr_get du k (by have := hld.out; omega))
                have hst : Aside0 ((upTo (fun j => x1.testBit j) se k).set k (x1.testBit k) = upTo (fun j => x1.testBit j) se (k + 1)) := ⟨upTo_step (fun j => x1.testBit j) se k (by omega)⟩
                have hmk := Aside0.mk (hm.out k hkl)
                have hdk := hdx.out k hkl
                have hrd := Aside0.mk (setArr_set (upTo (fun j => x1.testBit j) se k) k (x1.testBit k))
                have cs : ∀ W, Blk W (gd + 1) 27 (setArr (upTo (fun j => x1.testBit j) se k)) → W.cell? ⟨gd + 1, k, none⟩ = some (.bool ((upTo (fun j => x1.testBit j) se k).getD k false)) := fun W h => h.cell (setArr_get _ k (by rw [upTo_length]; omega))
                have Hcs := Aside0.mk cs
                clear cs
                obtain ⟨jj, rfl⟩ : ∃ z, gk = z + 1 := ⟨gk - 1, by omega⟩
                generalize du.getD k false = p at *
                generalize x1.testBit k = bb at *
                cases p
                · skip
                  clear hdk
                  go_wp2_with fail
                  refine (runs_has b1 gr La (k : Int) _ TL.out RF.out).mono ?_
                  rintro e w121 ⟨rfl, hB⟩
                  rw [hmk.out]
                  have T121 := Aside0.mk (HT.out.keep hB)
                  have RF_121 := Aside0.mk (RF.out.keep hB)
                  clear RF
                  have SD_121 := Aside0.mk (SD.out.keep hB)
                  clear SD
                  have SS_121 := Aside0.mk (SS.out.keep hB)
                  clear SS
                  have HB121 := Aside0.mk (below_step HB.out hB)
                  clear hB HB HT
                  have ca := Hcs.out _ SS_121.out
                  have fa := SS_121.out.frozen k
                  go_wp2_with fail
                  go_roundg jj
                  case measure => omega
                  case rel =>
                    refine ⟨k + 1, by omega, by go_num, ⟨HB121.out.setCell (show w.heap.size ≤ gd + 1 by have := hg0.out; omega) _⟩, ⟨T121.out.onlyB (only_set (only_refl _ _) _ _) SS_121.out (by decide) (by decide)⟩, ⟨RF_121.out.only (only_set (only_refl _ (gd + 1)) _ _) ?_ SS_121.out (by decide)⟩, ⟨SD_121.out.far (show gd ≠ gd + 1 by omega) _⟩, ⟨?_⟩⟩
                    · obtain ⟨v, hv, _⟩ := RF_121.out
                      exact hv.ne SS_121.out (by decide)
                    · rw [← hst.out, ← hrd.out]; exact SS_121.out.set_ k _
                · skip
                  have hbt := hdk rfl
                  subst hbt
                  clear hdk
                  go_wp2_with fail
                  refine (runs_has b1 gr La (k : Int) _ TL.out RF.out).mono ?_
                  rintro e w121 ⟨rfl, hB⟩
                  rw [hmk.out]
                  have T121 := Aside0.mk (HT.out.keep hB)
                  have RF_121 := Aside0.mk (RF.out.keep hB)
                  clear RF
                  have SD_121 := Aside0.mk (SD.out.keep hB)
                  clear SD
                  have SS_121 := Aside0.mk (SS.out.keep hB)
                  clear SS
                  have HB121 := Aside0.mk (below_step HB.out hB)
                  clear hB HB HT
                  go_wp2_with fail
                  refine (runs_has b1 gr La (k : Int) _ TL.out RF_121.out).mono ?_
                  rintro e w122 ⟨rfl, hB⟩
                  rw [hmk.out]
                  have T122 := Aside0.mk (T121.out.keep hB)
                  have RF_122 := Aside0.mk (RF_121.out.keep hB)
                  clear RF_121
                  have SD_122 := Aside0.mk (SD_121.out.keep hB)
                  clear SD_121
                  have SS_122 := Aside0.mk (SS_121.out.keep hB)
                  clear SS_121
                  have HB122 := Aside0.mk (below_step HB121.out hB)
                  clear hB HB121 T121
                  have ca := Hcs.out _ SS_122.out
                  have fa := SS_122.out.frozen k
                  go_wp2_with fail
                  go_roundg jj
                  case measure => omega
                  case rel =>
                    refine ⟨k + 1, by omega, by go_num, ⟨HB122.out.setCell (show w.heap.size ≤ gd + 1 by have := hg0.out; omega) _⟩, ⟨T122.out.onlyB (only_set (only_refl _ _) _ _) SS_122.out (by decide) (by decide)⟩, ⟨RF_122.out.only (only_set (only_refl _ (gd + 1)) _ _) ?_ SS_122.out (by decide)⟩, ⟨SD_122.out.far (show gd ≠ gd + 1 by omega) _⟩, ⟨?_⟩⟩
                    · obtain ⟨v, hv, _⟩ := RF_122.out
                      exact hv.ne SS_122.out (by decide)
                    · rw [← hst.out, ← hrd.out]; exact SS_122.out.set_ k _
              · have hkl' : ¬ (k : Int) < (n : Int) := by omega
                obtain rfl : k = n := by omega
                go_wp2_with fail
                go_roundg kk
                case measure => omega
                case rel => exact ⟨i + 1, du, _, 0, x1, true, by omega, by go_num, HDf, HB, HT, SD, SS⟩
          · skip
            go_wp2_with fail
            refine (track_busy tb gt n x1 x2 false false true _ HT.out).mono ?_
            rintro e w141 ⟨rfl, hB⟩
            have T141 := Aside0.mk (HT.out.keep hB)
            have SD_141 := Aside0.mk (SD.out.keep hB)
            clear SD
            have SS_141 := Aside0.mk (SS.out.keep hB)
            clear SS
            have HB141 := Aside0.mk (below_step HB.out hB)
            clear hB HB HT
            go_wp2_with fail
            go_roundg kk
            case measure => omega
            case rel => exact ⟨i + 1, du, se, x1, x2, true, by omega, by go_num, HD, HB141, T141, SD_141, SS_141⟩
        · by_cases k3 : K = 3
          · subst k3
            cases b
            · skip
              go_wp2_with fail
              refine (track_busy tb gt n x1 x2 false false false _ HT.out).mono ?_
              rintro e w161 ⟨rfl, hB⟩
              have T161 := Aside0.mk (HT.out.keep hB)
              have SD_161 := Aside0.mk (SD.out.keep hB)
              clear SD
              have SS_161 := Aside0.mk (SS.out.keep hB)
              clear SS
              have HB161 := Aside0.mk (below_step HB.out hB)
              clear hB HB HT
              go_wp2_with (with_reducible refine wpList_store_row rfl 27 (.tmp 8) (.tmp 153) (by with_unfolding_all rfl) (gd + 1) (setArr none64) (by with_unfolding_all rfl) (by with_unfolding_all rfl) 27 (setArr se) SS_161.out.hd (by rw [setArr_size, show none64.length = 64 by simp]; exact info27) (by rw [setArr_size, setArr_size, hls.out]; simp) (setArr_one _) ?_)
              go_roundg kk
              case measure => omega
              case rel => exact ⟨i + 1, du, none64, x1, x2, false, by omega, by go_num, ⟨HD.out.idle⟩, ⟨below_setRow HB161.out (show w.heap.size ≤ gd + 1 by have := hg0.out; omega) _⟩, ⟨T161.out.onlyB (only_row _ _ _) SS_161.out (by decide) (by decide)⟩, ⟨SD_161.out.rowFar (show gd ≠ gd + 1 by omega) _⟩, ⟨SS_161.out.row _⟩⟩
            · skip
              go_wp2_with fail
              refine (track_busy tb gt n x1 x2 false false true _ HT.out).mono ?_
              rintro e w181 ⟨rfl, hB⟩
              have T181 := Aside0.mk (HT.out.keep hB)
              have SD_181 := Aside0.mk (SD.out.keep hB)
              clear SD
              have SS_181 := Aside0.mk (SS.out.keep hB)
              clear SS
              have HB181 := Aside0.mk (below_step HB.out hB)
              clear hB HB HT
              go_wp2_with fail
              refine (commit_ok tb gt n x1 x2 false false _ h2 T181.out).mono ?_
              rintro e w182 ⟨rfl, ht, hB⟩
              have SD_182 := Aside0.mk (SD_181.out.deep hB (by decide) (by decide))
              clear SD_181
              have SS_182 := Aside0.mk (SS_181.out.deep hB (by decide) (by decide))
              clear SS_181
              have T182 := Aside0.mk ht
              have HB182 := Aside0.mk (below_mix HB181.out GB.out hB)
              clear hB ht HB181 T181
              have HDc := Aside0.mk (HD.out.commit h2)
              go_wp2_with fail
              go_loopg [14] 64 (fun kq v wq => ∃ k : Nat, k + kq = 64 ∧ v = .int .i64 (k : Int) ∧ Aside0 (Below w.heap.size w wq) ∧ Aside0 (TrackAt wq tb gt n x1 0 false false false) ∧ Aside0 (Blk wq gd 27 (setArr (upTo (fun j => du.getD j false && !se.getD j false) du k))) ∧ Aside0 (Blk wq (gd + 1) 27 (setArr se)))
              case atStart => exact ⟨0, by omega, rfl, HB182, T182, by rw [upTo_zero _ _ hld.out]; exact SD_182, SS_182⟩
              case round =>
                clear HB182 T182 SD_182 SS_182
                obtain ⟨k, hk, rfl, HB, HT, SD, SS⟩ := hrel
                by_cases hkl : k < 64
                · have hkl' : (k : Int) < 64 := by omega
                  have hk0 : (0 : Int) ≤ (k : Int) := by omega
                  have hup := Aside0.mk (upTo_get (fun j => du.getD j false && !se.getD j false) du k k hkl)
                  have ca := SD.out.cell (setArr_get (upTo (fun j => du.getD j false && !se.getD j false) du k) k (by rw [upTo_length]; omega))
                  have fa := SD.out.frozen k
                  have cb := SS.out.cell (setArr_get se k (by have := hls.out; omega))
                  have hst : Aside0 ((upTo (fun j => du.getD j false && !se.getD j false) du k).set k (du.getD k false && !se.getD k false) = upTo (fun j => du.getD j false && !se.getD j false) du (k + 1)) := ⟨upTo_step (fun j => du.getD j false && !se.getD j false) du k hkl⟩
                  rw [hup.out, if_neg (by omega)] at ca
                  obtain ⟨jj, rfl⟩ : ∃ z, gk = z + 1 := ⟨gk - 1, by omega⟩
                  generalize du.getD k false = p at *
                  generalize se.getD k false = q at *
                  have hrd := Aside0.mk (setArr_set (upTo (fun j => du.getD j false && !se.getD j false) du k) k (p && !q))
                  clear hup
                  cases p
                  all_goals
                    go_wp2_with fail
                    go_roundg jj
                    case measure => omega
                    case rel =>
                      refine ⟨k + 1, by omega, by go_num, ⟨HB.out.setCell (show w.heap.size ≤ gd by exact hg0.out) _⟩, ⟨HT.out.onlyB (only_set (only_refl _ _) _ _) SD.out (by decide) (by decide)⟩, ⟨?_⟩, ⟨SS.out.far (show gd + 1 ≠ gd by omega) _⟩⟩
                      rw [← hst.out, ← hrd.out]; exact SD.out.set_ k _
                · have hkl' : ¬ (k : Int) < 64 := by omega
                  obtain rfl : k = 64 := by omega
                  generalize upTo (fun j => du.getD j false && !se.getD j false) du 64 = du2 at *
                  go_wp2_with (with_reducible refine wpList_store_row rfl 27 (.tmp 8) (.tmp 153) (by with_unfolding_all rfl) (gd + 1) (setArr none64) (by with_unfolding_all rfl) (by with_unfolding_all rfl) 27 (setArr se) SS.out.hd (by rw [setArr_size, show none64.length = 64 by simp]; exact info27) (by rw [setArr_size, setArr_size, hls.out]; simp) (setArr_one _) ?_)
                  go_roundg kk
                  case measure => omega
                  case rel => exact ⟨i + 1, du2, none64, x1, 0, false, by omega, by go_num, ⟨HDc.out⟩, ⟨below_setRow HB.out (show w.heap.size ≤ gd + 1 by have := hg0.out; omega) _⟩, ⟨HT.out.onlyB (only_row _ _ _) SS.out (by decide) (by decide)⟩, ⟨SD.out.rowFar (show gd ≠ gd + 1 by omega) _⟩, ⟨SS.out.row _⟩⟩
          · by_cases k4 : K = 4
            · subst k4
              cases b
              · skip
                go_wp2_with fail
                refine (back_idle tb gt n x1 x2 false false _ h2 hl1.out hl2.out HT.out).mono ?_
                rintro e w201 ⟨rfl, ht, hB⟩
                have SD_201 := Aside0.mk (SD.out.deep hB (by decide) (by decide))
                clear SD
                have SS_201 := Aside0.mk (SS.out.deep hB (by decide) (by decide))
                clear SS
                have T201 := Aside0.mk ht
                have HB201 := Aside0.mk (below_mix HB.out GB.out hB)
                clear hB ht HB HT
                go_wp2_with (with_reducible refine wpList_store_row rfl 27 (.tmp 8) (.tmp 158) (by with_unfolding_all rfl) (gd + 1) (setArr none64) (by with_unfolding_all rfl) (by with_unfolding_all rfl) 27 (setArr se) SS_201.out.hd (by rw [setArr_size, show none64.length = 64 by simp]; exact info27) (by rw [setArr_size, setArr_size, hls.out]; simp) (setArr_one _) ?_)
                go_roundg kk
                case measure => omega
                case rel => exact ⟨i + 1, du, none64, x1, x2, false, by omega, by go_num, ⟨HD.out.idle⟩, ⟨below_setRow HB201.out (show w.heap.size ≤ gd + 1 by have := hg0.out; omega) _⟩, ⟨T201.out.onlyB (only_row _ _ _) SS_201.out (by decide) (by decide)⟩, ⟨SD_201.out.rowFar (show gd ≠ gd + 1 by omega) _⟩, ⟨SS_201.out.row _⟩⟩
              · skip
                go_wp2_with fail
                refine (back_ok tb gt n x1 x2 false false _ h2 hl1.out hl2.out HT.out).mono ?_
                rintro e w201 ⟨rfl, ht, hB⟩
                rw [Bool.or_false] at ht
                have SD_201 := Aside0.mk (SD.out.deep hB (by decide) (by decide))
                clear SD
                have SS_201 := Aside0.mk (SS.out.deep hB (by decide) (by decide))
                clear SS
                have T201 := Aside0.mk ht
                have HB201 := Aside0.mk (below_mix HB.out GB.out hB)
                clear hB ht HB HT
                go_wp2_with (with_reducible refine wpList_store_row rfl 27 (.tmp 8) (.tmp 158) (by with_unfolding_all rfl) (gd + 1) (setArr none64) (by with_unfolding_all rfl) (by with_unfolding_all rfl) 27 (setArr se) SS_201.out.hd (by rw [setArr_size, show none64.length = 64 by simp]; exact info27) (by rw [setArr_size, setArr_size, hls.out]; simp) (setArr_one _) ?_)
                go_roundg kk
                case measure => omega
                case rel => exact ⟨i + 1, du, none64, (x1 ||| (x2 &&& ones 0 n)), 0, false, by omega, by go_num, ⟨HD.out.back⟩, ⟨below_setRow HB201.out (show w.heap.size ≤ gd + 1 by have := hg0.out; omega) _⟩, ⟨T201.out.onlyB (only_row _ _ _) SS_201.out (by decide) (by decide)⟩, ⟨SD_201.out.rowFar (show gd ≠ gd + 1 by omega) _⟩, ⟨SS_201.out.row _⟩⟩
            · go_wp2_with fail
              go_roundg kk
              case measure => omega
              case rel => exact ⟨i + 1, du, se, x1, x2, b, by omega, by go_num, HD, HB, HT, SD, SS⟩
    · have hlt' : ¬ (i : Int) < (l.length : Int) := by omega
      go_wp2_with fail
      go_ret
      exact ⟨rfl, HB.out⟩
theorem walk (b : Int) (A : Option Addr) (c : Nat) (l : List Op6) (w : World) (_ : (Lit.int .i64 b).wf = true) (_ : l.length ≤ c) (hA : OpsC w A l) :
    Calls Try.prog 9 #[.int .i64 b, .slice A l.length c] w fun e w' => e = .returned (.bool true) ∧ Below w.heap.size w w' := by
  by_cases h : b < 1 ∨ (¬ b < 1 ∧ 64 < b) ∨ (¬ b < 1 ∧ ¬ 64 < b ∧ 60 < (l.length : Int))
  · exact early b A c l w h
  · obtain ⟨n, rfl⟩ := Int.eq_ofNat_of_zero_le (show 0 ≤ b by omega)
    exact main n A c l w (by omega) (by omega) (by omega) hA
end Go.Proofs.Ytffemlfdhkndiaa.WTrackRounds
