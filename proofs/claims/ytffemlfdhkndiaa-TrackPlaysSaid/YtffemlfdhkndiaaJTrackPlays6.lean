/- Parts of the proof for TrackPlays: TrackD, Model. -/
import Derived.Deep.WholeRow
import Derived.Deep.MidRow
import Derived.Test.YtffemlfdhkndiaaJTrackPlays5
import Derived.Test.YtffemlfdhkndiaaJTrackPlays3
import Derived.Test.YtffemlfdhkndiaaJTrackPlays2
section
namespace Go.Proofs.Ytffemlfdhkndiaa.Hand
open Go.RowKit Go.Proofs.YtffemlfdhkndiaaW.PrintWords Go.Proofs.YtffemlfdhkndiaaW.PrintLast Go.Proofs.YtffemlfdhkndiaaW.PrintMore Go.Proofs.Ytffemlfdhkndiaa.A Go.Proofs.Ytffemlfdhkndiaa.Bits
set_option linter.unusedVariables false
set_option linter.unusedSimpArgs false
attribute [local go_sem] max2_int min2_int max_two min_two max_three min_three max_four min_four
theorem and_hi {n x : Nat} (h : Hi n x) : x &&& ones 0 n = x := by
  refine Nat.eq_of_testBit_eq (fun i => ?_)
  rw [Nat.testBit_and, ones_test, Nat.zero_add, decide_eq_true (Nat.zero_le i), Bool.true_and]
  by_cases hi : i < n
  · rw [decide_eq_true hi, Bool.and_true]
  · rw [h i (by omega), Bool.false_and]
set_option maxRecDepth 100000 in
theorem marks_copy (g n x : Nat) (l : Bool) (hn : n ≤ 64) (hx : x < 18446744073709551616) (hh : Hi n x) (w : World) (hd : DirtAt w g n x) :
    Calls Try.prog 92 #[.agg #[ptr g, .bool l]] w fun e w' => ∃ g', e = .returned (.agg #[ptr g', .bool l]) ∧ w.heap.size ≤ g' ∧ DirtAt w' g' n x ∧ Below w.heap.size w w' := by
  have HB := Aside0.mk (Below.refl w.heap.size w)
  have D := Aside0.mk hd
  clear hd
  go_enter Try.func92, Try.ntmps92
  go_upto_region 1 with fail
  refine code_abs (fun WQ => Below w.heap.size w WQ ∧ DirtAt WQ g n x ∧ Blk WQ w.heap.size 107 #[ptr g, .bool l] ∧ Blk WQ (w.heap.size + 1) 107 #[.pointer none, .bool false]) ⟨below_step HB.out (below_alloc (below_alloc (Below.refl _ _) _) _), D.out.keep (below_alloc (below_alloc (Below.refl _ _) _) _), (Blk.new _ _ _).alloc _, Blk.new2 _ _ _ _⟩ ?_
  rintro w1 ⟨h_HB, h_D, h_M1, h_M2⟩
  replace HB := Aside0.mk h_HB
  replace D := Aside0.mk h_D
  have M1 := Aside0.mk h_M1
  have M2 := Aside0.mk h_M2
  clear h_HB h_D h_M1 h_M2
  obtain ⟨q1, hq1⟩ : ∃ z, z = w.heap.size := ⟨_, rfl⟩
  obtain ⟨q2, hq2⟩ : ∃ z, z = w.heap.size + 1 := ⟨_, rfl⟩
  rw [← hq1] at M1
  rw [← hq2] at M2
  rw [← hq2, ← hq1]
  have HQ : Aside0 (w.heap.size ≤ q2) := ⟨by omega⟩
  clear hq1 hq2
  have a0 := M1.out.cell (i := 0) rfl
  go_wp2_with fail
  refine (dirt_blocks g n x _ D.out).mono ?_
  rintro e w2 ⟨rfl, hB⟩
  replace HB := Aside0.mk (below_step HB.out hB)
  replace D := Aside0.mk (D.out.keep hB)
  replace M1 := Aside0.mk (M1.out.keep hB)
  replace M2 := Aside0.mk (M2.out.keep hB)
  clear hB
  clear a0
  go_wp2_with fail
  refine (dirt_new (n : Int) _).mono ?_
  rintro e w3 ⟨rfl, hr, hB⟩
  rw [show (min (max (n : Int) 0) 64).toNat = n by omega] at hr
  have NE_D_E : Aside0 (g ≠ w2.heap.size) := ⟨by have := D.out.lt; omega⟩
  have GE_E : Aside0 (w.heap.size ≤ w2.heap.size) := ⟨by have := HB.out.size; omega⟩
  replace HB := Aside0.mk (below_step HB.out hB)
  replace D := Aside0.mk (D.out.keep hB)
  replace M1 := Aside0.mk (M1.out.keep hB)
  replace M2 := Aside0.mk (M2.out.keep hB)
  clear hB
  have E := Aside0.mk hr
  clear hr
  generalize w2.heap.size = g3 at *
  have a0 := M1.out.cell (i := 0) rfl
  go_wp2_with fail
  refine (dirt_or g3 n 0 g n x hn (by decide) hx _ E.out D.out).mono ?_
  rintro e w4 ⟨rfl, hr, ho⟩
  rw [Nat.zero_or, and_hi hh] at hr
  replace HB := Aside0.mk (below_only HB.out ho GE_E.out)
  replace D := Aside0.mk (D.out.only ho NE_D_E.out)
  replace M1 := Aside0.mk (M1.out.onlyT ho E.out (by decide))
  replace M2 := Aside0.mk (M2.out.onlyT ho E.out (by decide))
  clear ho
  replace E := Aside0.mk hr
  clear hr
  clear a0
  have a1 := M1.out.cell (i := 1) rfl
  have b0 := M2.out.cell (i := 0) rfl
  have b1 := M2.out.cell (i := 1) rfl
  have f0 := M2.out.frozen 0
  have f1 := M2.out.frozen 1
  generalize ((cnt (minus (x &&& ones 0 n) 0) : Nat) : Int) = zz at *
  go_wp2_with fail
  have HZ := Aside0.mk ((M2.out.set_ 0 (ptr g3)).set_ 1 (.bool l))
  have N3 : Aside0 (g3 ≠ q2) := ⟨E.out.neT M2.out (by decide)⟩
  exact bodyPost_ret (v := .agg #[ptr g3, .bool l]) (results_cell_row rfl _ _ q2 107 _ (0, 0) _ rfl HZ.out.hd Try.underlying107 rfl (by kernel_rfl)) rfl ⟨g3, rfl, GE_E.out, (E.out.far (p := ⟨q2, 0, none⟩) N3.out _).far (p := ⟨q2, 1, none⟩) N3.out _, (HB.out.setCell HQ.out _).setCell HQ.out _⟩
set_option maxRecDepth 100000 in
set_option maxHeartbeats 800000 in
theorem track_copy (base gt n x1 x2 : Nat) (l1 l2 b : Bool) (w : World) (hn : n ≤ 64) (hx : x1 < 18446744073709551616) (hy : x2 < 18446744073709551616) (hh : Hi n x1) (hk : Hi n x2) (h : TrackAt w base gt n x1 x2 l1 l2 b) :
    Calls Try.prog 47 #[ptr gt] w fun e w' => ∃ gc, e = .returned (ptr gc) ∧ TrackAt w' w.heap.size gc n x1 x2 l1 l2 b ∧ Below w.heap.size w w' := by
  have HB := Aside0.mk (Below.refl w.heap.size w)
  have HN := Aside0.mk (track_none base gt n x1 x2 l1 l2 b w h)
  obtain ⟨g1, g2, h1, h2, h3, h4, ht, d1, d2⟩ := h
  have TT := Aside0.mk ht
  have D1 := Aside0.mk d1
  have D2 := Aside0.mk d2
  clear ht d1 d2 h1 h2 h3 h4
  go_enter Try.func47, Try.ntmps47
  go_wp2_with fail
  refine (HN.out).mono ?_
  rintro e w1 ⟨rfl, hB⟩
  replace HB := Aside0.mk (below_step HB.out hB)
  replace TT := Aside0.mk (TT.out.keep hB)
  replace D1 := Aside0.mk (D1.out.keep hB)
  replace D2 := Aside0.mk (D2.out.keep hB)
  clear hB
  clear HN
  go_wp2_with fail
  have T0 := Aside0.mk (TT.out.cell (i := 0) (v := ptr g1) rfl)
  have T1 := Aside0.mk (TT.out.cell (i := 1) (v := .bool l1) rfl)
  have T2 := Aside0.mk (TT.out.cell (i := 2) (v := ptr g2) rfl)
  have T3 := Aside0.mk (TT.out.cell (i := 3) (v := .bool l2) rfl)
  have T4 := Aside0.mk (TT.out.cell (i := 4) (v := .bool b) rfl)
  refine start_ (n := 17) (S := fun w' => Below w.heap.size w w' ∧ Blk w' gt 109 #[ptr g1, .bool l1, ptr g2, .bool l2, .bool b] ∧ DirtAt w' g1 n x1 ∧ DirtAt w' g2 n x2 ∧ w'.cell? ⟨gt, 0, none⟩ = some (ptr g1) ∧ w'.cell? ⟨gt, 1, none⟩ = some (.bool l1) ∧ w'.cell? ⟨gt, 2, none⟩ = some (ptr g2) ∧ w'.cell? ⟨gt, 3, none⟩ = some (.bool l2) ∧ w'.cell? ⟨gt, 4, none⟩ = some (.bool b)) (ds := []) #[false, false, false, false, false, false, false, false, false, false, false, false, false, false, false, false, false] (by kernel_rfl) rfl rfl ⟨(below_drew1 HB.out), (TT.out.keep (below_drew1 (Below.refl _ _))), (D1.out.keep (below_drew1 (Below.refl _ _))), (D2.out.keep (below_drew1 (Below.refl _ _))), (keep (below_drew1 (Below.refl _ _)) T0.out), (keep (below_drew1 (Below.refl _ _)) T1.out), (keep (below_drew1 (Below.refl _ _)) T2.out), (keep (below_drew1 (Below.refl _ _)) T3.out), (keep (below_drew1 (Below.refl _ _)) T4.out)⟩ (fun hHeld => ?_)
  refine pure_ (i := 0) (N := some 5) (v := ?_) (a' := ?_) #[true, false, false, false, false, false, false, false, false, false, false, false, false, false, false, false, false] rfl rfl (by kernel_rfl) (fun _ _ _ h => h) (Or.inl ⟨by rfl, ?_⟩) ?_ ?_
  rotate_left
  · intro w'
    go_simp
    with_reducible rfl
  rotate_left
  · simp only [Act.put, List.setIfInBounds_toArray, List.set_cons_zero, List.set_cons_succ, i64_w, i32_w]
    rfl
  refine pure_ (i := 1) (N := some 6) (v := ?_) (a' := ?_) #[true, true, false, false, false, false, false, false, false, false, false, false, false, false, false, false, false] rfl rfl (by kernel_rfl) (fun _ _ _ h => h) (Or.inl ⟨by rfl, ?_⟩) ?_ ?_
  rotate_left
  · intro w'
    go_simp
    with_reducible rfl
  rotate_left
  · simp only [Act.put, List.setIfInBounds_toArray, List.set_cons_zero, List.set_cons_succ, i64_w, i32_w]
    rfl
  refine pure_ (i := 2) (N := some 7) (v := ?_) (a' := ?_) #[true, true, true, false, false, false, false, false, false, false, false, false, false, false, false, false, false] rfl rfl (by kernel_rfl) (fun _ _ _ h => h) (Or.inl ⟨by rfl, ?_⟩) ?_ ?_
  rotate_left
  · intro w'
    go_simp
    with_reducible rfl
  rotate_left
  · simp only [Act.put, List.setIfInBounds_toArray, List.set_cons_zero, List.set_cons_succ, i64_w, i32_w]
    rfl
  refine pure_ (i := 5) (N := some 10) (v := ?_) (a' := ?_) #[true, true, true, false, false, true, false, false, false, false, false, false, false, false, false, false, false] rfl rfl (by kernel_rfl) (fun _ _ _ h => h) (Or.inl ⟨by rfl, ?_⟩) ?_ ?_
  rotate_left
  · intro w'
    go_simp
    with_reducible rfl
  rotate_left
  · simp only [Act.put, List.setIfInBounds_toArray, List.set_cons_zero, List.set_cons_succ, i64_w, i32_w]
    rfl
  refine pure_ (i := 6) (N := some 11) (v := ?_) (a' := ?_) #[true, true, true, false, false, true, true, false, false, false, false, false, false, false, false, false, false] rfl rfl (by kernel_rfl) (fun _ _ _ h => h) (Or.inl ⟨by rfl, ?_⟩) ?_ ?_
  rotate_left
  · intro w'
    go_simp
    with_reducible rfl
  rotate_left
  · simp only [Act.put, List.setIfInBounds_toArray, List.set_cons_zero, List.set_cons_succ, i64_w, i32_w]
    rfl
  refine pure_ (i := 7) (N := some 12) (v := ?_) (a' := ?_) #[true, true, true, false, false, true, true, true, false, false, false, false, false, false, false, false, false] rfl rfl (by kernel_rfl) (fun _ _ _ h => h) (Or.inl ⟨by rfl, ?_⟩) ?_ ?_
  rotate_left
  · intro w'
    go_simp
    with_reducible rfl
  rotate_left
  · simp only [Act.put, List.setIfInBounds_toArray, List.set_cons_zero, List.set_cons_succ, i64_w, i32_w]
    rfl
  refine pure_ (i := 10) (N := some 15) (v := ?_) (a' := ?_) #[true, true, true, false, false, true, true, true, false, false, true, false, false, false, false, false, false] rfl rfl (by kernel_rfl) (fun _ _ _ h => h) (Or.inl ⟨by rfl, ?_⟩) ?_ ?_
  rotate_left
  · intro w'
    go_simp
    with_reducible rfl
  rotate_left
  · simp only [Act.put, List.setIfInBounds_toArray, List.set_cons_zero, List.set_cons_succ, i64_w, i32_w]
    rfl
  refine pure_ (i := 11) (N := some 16) (v := ?_) (a' := ?_) #[true, true, true, false, false, true, true, true, false, false, true, true, false, false, false, false, false] rfl rfl (by kernel_rfl) (fun _ _ _ h => h) (Or.inl ⟨by rfl, ?_⟩) ?_ ?_
  rotate_left
  · intro w'
    go_simp
    with_reducible rfl
  rotate_left
  · simp only [Act.put, List.setIfInBounds_toArray, List.set_cons_zero, List.set_cons_succ, i64_w, i32_w]
    rfl
  refine pure_ (i := 12) (N := some 17) (v := ?_) (a' := ?_) #[true, true, true, false, false, true, true, true, false, false, true, true, true, false, false, false, false] rfl rfl (by kernel_rfl) (fun _ _ _ h => h) (Or.inl ⟨by rfl, ?_⟩) ?_ ?_
  rotate_left
  · intro w'
    go_simp
    with_reducible rfl
  rotate_left
  · simp only [Act.put, List.setIfInBounds_toArray, List.set_cons_zero, List.set_cons_succ, i64_w, i32_w]
    rfl
  refine take_ (i := 3) (N := some 8) (v := ?_) (a' := ?_) #[true, true, true, true, false, true, true, true, false, false, true, true, true, false, false, false, false] rfl rfl (by kernel_rfl) (fun _ _ _ h => h) (Or.inl ⟨by rfl, ?_⟩) hHeld ?_ ?_
  rotate_left
  · rintro w' ⟨s0, s1, s2, s3, s4, s5, s6, s7, s8⟩
    go_simp
    with_reducible rfl
  rotate_left
  · simp only [Act.put, List.setIfInBounds_toArray, List.set_cons_zero, List.set_cons_succ, i64_w, i32_w]
    rfl
  refine take_ (i := 8) (N := some 13) (v := ?_) (a' := ?_) #[true, true, true, true, false, true, true, true, true, false, true, true, true, false, false, false, false] rfl rfl (by kernel_rfl) (fun _ _ _ h => h) (Or.inl ⟨by rfl, ?_⟩) hHeld ?_ ?_
  rotate_left
  · rintro w' ⟨s0, s1, s2, s3, s4, s5, s6, s7, s8⟩
    go_simp
    with_reducible rfl
  rotate_left
  · simp only [Act.put, List.setIfInBounds_toArray, List.set_cons_zero, List.set_cons_succ, i64_w, i32_w]
    rfl
  refine take_ (i := 13) (N := some 18) (v := ?_) (a' := ?_) #[true, true, true, true, false, true, true, true, true, false, true, true, true, true, false, false, false] rfl rfl (by kernel_rfl) (fun _ _ _ h => h) (Or.inl ⟨by rfl, ?_⟩) hHeld ?_ ?_
  rotate_left
  · rintro w' ⟨s0, s1, s2, s3, s4, s5, s6, s7, s8⟩
    go_simp
    with_reducible rfl
  rotate_left
  · simp only [Act.put, List.setIfInBounds_toArray, List.set_cons_zero, List.set_cons_succ, i64_w, i32_w]
    rfl
  refine one_ (i := 4) (N := some 9) #[true, true, true, true, true, true, true, true, true, false, true, true, true, true, false, false, false] rfl rfl (by kernel_rfl) (by decide) (fun K hK => ?_)
  refine goes_ Try.func92 (by kernel_rfl) rfl #[.agg #[ptr g1, .bool l1]] (by rfl) rfl rfl (by simp only [List.map_toArray, List.map_cons, List.map_nil]; rfl) ?_
  with_reducible refine (marks_copy g1 n x1 l1 hn hx hh _ hHeld.2.2.1).mono ?_
  rintro e w8 ⟨g3, rfl, ge3, hd3, hb⟩
  refine ⟨_, rfl, ?_⟩
  replace ge3 : w.heap.size ≤ g3 := Nat.le_trans hHeld.1.size ge3
  refine hK.out _ _ ⟨(below_step hHeld.1 hb), (hHeld.2.1.keep hb), (hHeld.2.2.1.keep hb), (hHeld.2.2.2.1.keep hb), (keep hb hHeld.2.2.2.2.1), (keep hb hHeld.2.2.2.2.2.1), (keep hb hHeld.2.2.2.2.2.2.1), (keep hb hHeld.2.2.2.2.2.2.2.1), (keep hb hHeld.2.2.2.2.2.2.2.2)⟩ (fun hHeld => ?_)
  clear hK K
  refine norm_ (a' := ?_) ?_ ?_
  rotate_left
  · show Act.put _ (some 9) _ = _
    simp only [Act.put, List.setIfInBounds_toArray, List.set_cons_zero, List.set_cons_succ, i64_w, i32_w]
    rfl
  refine one_ (i := 9) (N := some 14) #[true, true, true, true, true, true, true, true, true, true, true, true, true, true, false, false, false] rfl rfl (by kernel_rfl) (by decide) (fun K hK => ?_)
  refine goes_ Try.func92 (by kernel_rfl) rfl #[.agg #[ptr g2, .bool l2]] (by rfl) rfl rfl (by simp only [List.map_toArray, List.map_cons, List.map_nil]; rfl) ?_
  with_reducible refine (marks_copy g2 n x2 l2 hn hy hk _ hHeld.2.2.2.1).mono ?_
  rintro e w9 ⟨g4, rfl, ge4, hd4, hb⟩
  refine ⟨_, rfl, ?_⟩
  have hne : g3 ≠ g4 := by have := hd3.lt; omega
  replace ge4 : w.heap.size ≤ g4 := Nat.le_trans hHeld.1.size ge4
  replace hd3 := hd3.keep hb
  refine hK.out _ _ ⟨(below_step hHeld.1 hb), (hHeld.2.1.keep hb), (hHeld.2.2.1.keep hb), (hHeld.2.2.2.1.keep hb), (keep hb hHeld.2.2.2.2.1), (keep hb hHeld.2.2.2.2.2.1), (keep hb hHeld.2.2.2.2.2.2.1), (keep hb hHeld.2.2.2.2.2.2.2.1), (keep hb hHeld.2.2.2.2.2.2.2.2)⟩ (fun hHeld => ?_)
  clear hK K
  refine norm_ (a' := ?_) ?_ ?_
  rotate_left
  · show Act.put _ (some 14) _ = _
    simp only [Act.put, List.setIfInBounds_toArray, List.set_cons_zero, List.set_cons_succ, i64_w, i32_w]
    rfl
  refine pure_ (i := 14) (N := some 19) (v := ?_) (a' := ?_) #[true, true, true, true, true, true, true, true, true, true, true, true, true, true, true, false, false] rfl rfl (by kernel_rfl) (fun _ _ _ h => h) (Or.inl ⟨by rfl, ?_⟩) ?_ ?_
  rotate_left
  · intro w'
    go_simp
    with_reducible rfl
  rotate_left
  · simp only [Act.put, List.setIfInBounds_toArray, List.set_cons_zero, List.set_cons_succ, i64_w, i32_w]
    rfl
  refine one_ (i := 15) (N := some 20) #[true, true, true, true, true, true, true, true, true, true, true, true, true, true, true, true, false] rfl rfl (by kernel_rfl) (by decide) (fun K hK => ?_)
  refine value_ (w1 := ?_) (v := ?_) (by rfl) rfl ?_ ?_
  rotate_left 2
  · go_simp
    constructor
    · rfl
    · rfl
  have hN := Blk.new w9 109 #[ptr g3, .bool l1, ptr g4, .bool l2, .bool b]
  have geN : w.heap.size ≤ w9.heap.size := hHeld.1.size
  replace hd3 := hd3.alloc (.cells #[ptr g3, .bool l1, ptr g4, .bool l2, .bool b] 109)
  replace hd4 := hd4.alloc (.cells #[ptr g3, .bool l1, ptr g4, .bool l2, .bool b] 109)
  refine hK.out _ _ ⟨(below_alloc hHeld.1 _), (hHeld.2.1.keep (below_alloc (Below.refl _ _) _)), (hHeld.2.2.1.keep (below_alloc (Below.refl _ _) _)), (hHeld.2.2.2.1.keep (below_alloc (Below.refl _ _) _)), (keep (below_alloc (Below.refl _ _) _) hHeld.2.2.2.2.1), (keep (below_alloc (Below.refl _ _) _) hHeld.2.2.2.2.2.1), (keep (below_alloc (Below.refl _ _) _) hHeld.2.2.2.2.2.2.1), (keep (below_alloc (Below.refl _ _) _) hHeld.2.2.2.2.2.2.2.1), (keep (below_alloc (Below.refl _ _) _) hHeld.2.2.2.2.2.2.2.2)⟩ (fun hHeld => ?_)
  clear hK K
  refine norm_ (a' := ?_) ?_ ?_
  rotate_left
  · show Act.put _ (some 20) _ = _
    simp only [Act.put, List.setIfInBounds_toArray, List.set_cons_zero, List.set_cons_succ, i64_w, i32_w]
    rfl
  refine pure_ (i := 16) (N := some 2) (v := ?_) (a' := ?_) #[true, true, true, true, true, true, true, true, true, true, true, true, true, true, true, true, true] rfl rfl (by kernel_rfl) (fun _ _ _ h => h) (Or.inl ⟨by rfl, ?_⟩) ?_ ?_
  rotate_left
  · intro w'
    go_simp
    with_reducible rfl
  rotate_left
  · simp only [Act.put, List.setIfInBounds_toArray, List.set_cons_zero, List.set_cons_succ, i64_w, i32_w]
    rfl
  refine done_ (by kernel_rfl) ?_
  replace HB := Aside0.mk hHeld.1
  replace TT := Aside0.mk hHeld.2.1
  replace D1 := Aside0.mk hHeld.2.2.1
  replace D2 := Aside0.mk hHeld.2.2.2.1
  replace T0 := Aside0.mk hHeld.2.2.2.2.1
  replace T1 := Aside0.mk hHeld.2.2.2.2.2.1
  replace T2 := Aside0.mk hHeld.2.2.2.2.2.2.1
  replace T3 := Aside0.mk hHeld.2.2.2.2.2.2.2.1
  replace T4 := Aside0.mk hHeld.2.2.2.2.2.2.2.2
  clear hHeld
  go_wp2_with fail
  go_ret
  exact ⟨_, rfl, ⟨g3, g4, geN, ge3, ge4, hne, hN, hd3, hd4⟩, HB.out⟩
set_option maxRecDepth 100000 in
theorem track_lose_nil (w : World) : Calls Try.prog 46 #[.pointer none] w fun e w' => e = .returned (.tuple #[]) ∧ Below w.heap.size w w' := by
  go_enter Try.func46, Try.ntmps46
  go_wp2_with fail
  refine (track_none_nil _).mono ?_
  rintro e w1 ⟨rfl, hB⟩
  go_wp2_with fail
  go_end0
  exact ⟨rfl, hB⟩
set_option maxRecDepth 100000 in
theorem track_frozen_nil (w : World) : Calls Try.prog 38 #[.pointer none] w fun e w' => ∃ gr, e = .returned (ptrR gr) ∧ w.heap.size ≤ gr ∧ RunsAt w' w.heap.size gr [] ∧ Below w.heap.size w w' := by
  go_enter Try.func38, Try.ntmps38
  go_wp2_with fail
  refine (track_none_nil _).mono ?_
  rintro e w1 ⟨rfl, hB⟩
  go_wp2_with fail
  refine (runs_of [] none 0 _ (C_noneR _)).mono ?_
  rintro e w2 ⟨rfl, hr, hB2⟩
  go_wp2_with fail
  go_ret
  exact ⟨_, rfl, hB.size, (show RunsAt w2 w1.heap.size w1.heap.size [] by rw [show putV [] [] = ([] : List S31) from rfl] at hr; exact hr).lower hB.size, below_step hB hB2⟩
set_option maxRecDepth 100000 in
theorem track_now_nil (w : World) : Calls Try.prog 42 #[.pointer none] w fun e w' => ∃ gr, e = .returned (ptrR gr) ∧ w.heap.size ≤ gr ∧ RunsAt w' w.heap.size gr [] ∧ Below w.heap.size w w' := by
  go_enter Try.func42, Try.ntmps42
  go_wp2_with fail
  refine (track_none_nil _).mono ?_
  rintro e w1 ⟨rfl, hB⟩
  go_wp2_with fail
  refine (runs_of [] none 0 _ (C_noneR _)).mono ?_
  rintro e w2 ⟨rfl, hr, hB2⟩
  go_wp2_with fail
  go_ret
  exact ⟨_, rfl, hB.size, (show RunsAt w2 w1.heap.size w1.heap.size [] by rw [show putV [] [] = ([] : List S31) from rfl] at hr; exact hr).lower hB.size, below_step hB hB2⟩
set_option maxRecDepth 100000 in
theorem track_freeze_nil (w : World) : Calls Try.prog 37 #[.pointer none] w fun e w' => e = .returned (.int .i64 1) ∧ Below w.heap.size w w' := by
  go_enter Try.func37, Try.ntmps37
  go_wp2_with fail
  refine (track_none_nil _).mono ?_
  rintro e w1 ⟨rfl, hB⟩
  go_wp2_with fail
  go_ret
  exact ⟨rfl, hB⟩
set_option maxRecDepth 100000 in
theorem track_idle_nil (w : World) : Calls Try.prog 89 #[.pointer none] w fun e w' => e = .returned (.int .i64 1) ∧ Below w.heap.size w w' := by
  go_enter Try.func89, Try.ntmps89
  go_wp2_with fail
  refine (track_none_nil _).mono ?_
  rintro e w1 ⟨rfl, hB⟩
  go_wp2_with fail
  go_ret
  exact ⟨rfl, hB⟩
set_option maxRecDepth 100000 in
theorem track_commit_nil (w : World) : Calls Try.prog 39 #[.pointer none] w fun e w' => e = .returned (.int .i64 1) ∧ Below w.heap.size w w' := by
  go_enter Try.func39, Try.ntmps39
  go_wp2_with fail
  refine (track_idle_nil _).mono ?_
  rintro e w1 ⟨rfl, hB⟩
  go_wp2_with fail
  go_ret
  exact ⟨rfl, hB⟩
set_option maxRecDepth 100000 in
theorem track_back_nil (w : World) : Calls Try.prog 45 #[.pointer none] w fun e w' => e = .returned (.int .i64 1) ∧ Below w.heap.size w w' := by
  go_enter Try.func45, Try.ntmps45
  go_wp2_with fail
  refine (track_idle_nil _).mono ?_
  rintro e w1 ⟨rfl, hB⟩
  go_wp2_with fail
  go_ret
  exact ⟨rfl, hB⟩
set_option maxRecDepth 100000 in
theorem track_lost_nil (w : World) : Calls Try.prog 40 #[.pointer none] w fun e w' => e = .returned (.bool false) ∧ Below w.heap.size w w' := by
  go_enter Try.func40, Try.ntmps40
  go_wp2_with fail
  refine (track_none_nil _).mono ?_
  rintro e w1 ⟨rfl, hB⟩
  go_wp2_with fail
  go_ret
  exact ⟨rfl, hB⟩
set_option maxRecDepth 100000 in
theorem track_busy_nil (w : World) : Calls Try.prog 44 #[.pointer none] w fun e w' => e = .returned (.bool false) ∧ Below w.heap.size w w' := by
  go_enter Try.func44, Try.ntmps44
  go_wp2_with fail
  go_ret
  exact ⟨rfl, Below.refl _ _⟩
set_option maxRecDepth 100000 in
theorem track_copy_nil (w : World) : Calls Try.prog 47 #[.pointer none] w fun e w' => e = .returned (.pointer none) ∧ Below w.heap.size w w' := by
  go_enter Try.func47, Try.ntmps47
  go_wp2_with fail
  refine (track_none_nil _).mono ?_
  rintro e w1 ⟨rfl, hB⟩
  go_wp2_with fail
  go_ret
  exact ⟨rfl, hB⟩
set_option maxRecDepth 100000 in
theorem track_mark_nil (F M : Int) (w : World) : Calls Try.prog 41 #[.pointer none, .agg #[.int .i64 F, .int .i64 M]] w fun e w' => e = .returned (.int .i64 0) ∧ Below w.heap.size w w' := by
  go_enter Try.func41, Try.ntmps41
  go_wp2_with fail
  refine (track_none_nil _).mono ?_
  rintro e w1 ⟨rfl, hB⟩
  have hB2 := below_step (below_alloc (Below.refl _ _) _) hB
  go_wp2_with fail
  go_ret
  exact ⟨rfl, hB2⟩
end Go.Proofs.Ytffemlfdhkndiaa.Hand
end
section
namespace Go.Proofs.Ytffemlfdhkndiaa.Hand
open Go.RowKit Go.Proofs.YtffemlfdhkndiaaW.PrintWords Go.Proofs.YtffemlfdhkndiaaW.PrintLast Go.Proofs.YtffemlfdhkndiaaW.PrintMore Go.Proofs.Ytffemlfdhkndiaa.A Go.Proofs.Ytffemlfdhkndiaa.Bits
set_option linter.unusedVariables false
set_option linter.unusedSimpArgs false
def setFrom : Array Value → Nat → List Value → Array Value
  | cs, _, [] => cs
  | cs, o, v :: r => setFrom (cs.setIfInBounds o v) (o + 1) r
theorem Blk.cells {g t : Nat} : ∀ (vs : List Value) (o : Nat) (w : World) (cs : Array Value), Blk w g t cs → Blk (w.setCells g o vs) g t (setFrom cs o vs)
  | [], _, _, _, h => h
  | v :: r, o, w, cs, h => by rw [World.setCells, setFrom]; exact Blk.cells r (o + 1) _ _ (h.set_ o v)
theorem only_cells {g : Nat} : ∀ (vs : List Value) (o : Nat) (a w : World), Only a w g → Only a (w.setCells g o vs) g
  | [], _, _, _, h => h
  | v :: r, o, a, w, h => by rw [World.setCells]; exact only_cells r (o + 1) a _ (only_set h o v)
theorem setFrom_mid : ∀ (vs a b c : List Value), b.length = vs.length → setFrom (a ++ (b ++ c)).toArray a.length vs = (a ++ (vs ++ c)).toArray
  | [], a, b, c, h => by rw [List.eq_nil_of_length_eq_zero h]; rfl
  | v :: r, a, b, c, h => by
    obtain ⟨x, b', rfl⟩ : ∃ x b', b = x :: b' := by cases b with | nil => simp at h | cons x b' => exact ⟨x, b', rfl⟩
    rw [setFrom, List.setIfInBounds_toArray]
    have e : (a ++ (x :: b' ++ c)).set a.length v = (a ++ [v]) ++ (b' ++ c) := by
      rw [List.set_append_right _ _ (Nat.le_refl _), Nat.sub_self]; simp
    rw [e, show a.length + 1 = (a ++ [v]).length by simp, setFrom_mid r (a ++ [v]) b' c (by simpa using h)]
    simp
theorem Blk.range {w : World} {g t : Nat} {a b c : List Value} (h : Blk w g t (a ++ (b ++ c)).toArray) (o : Nat) (ho : o = a.length) : w.rangeAt g o b := by
  subst ho
  intro j v hj
  refine h.cell ?_
  rw [List.getElem?_toArray, List.getElem?_append_right (by omega), show a.length + j - a.length = j by omega, List.getElem?_append_left (by have := (List.getElem?_eq_some_iff.1 hj).1; omega)]
  exact hj
theorem Blk.there {w : World} {g t : Nat} {a b c : List Value} (h : Blk w g t (a ++ (b ++ c)).toArray) (o : Nat) (ho : o = a.length) (n : Nat) (hn : n = b.length) : w.there g o n := by
  subst hn
  intro j hj
  refine ⟨?_, h.frozen _⟩
  rw [h.range o ho j b[j] (List.getElem?_eq_getElem hj)]
  rfl
abbrev bl (s : List Bool) : List Value := s.map Value.bool
/-- The model's cells. -/
def modC (n : Nat) (x y : List Bool) (l g b : Bool) : Array Value := (.int .i64 (n : Int) :: (bl x ++ (bl y ++ [.bool l, .bool g, .bool b]))).toArray
theorem modC_size (n : Nat) (x y : List Bool) (l g b : Bool) (hx : x.length = 64) (hy : y.length = 64) : (modC n x y l g b).size = 132 := by unfold modC; simp [hx, hy]
theorem modC_one (n : Nat) (x y : List Bool) (l g b : Bool) : (modC n x y l g b).all (·.oneCell') = true := by
  unfold modC
  rw [List.all_toArray, List.all_eq_true]
  intro v hv
  simp only [List.mem_cons, List.mem_append, List.mem_map, List.not_mem_nil, or_false] at hv
  rcases hv with rfl | ⟨_, _, rfl⟩ | ⟨_, _, rfl⟩ | rfl | rfl | rfl <;> rfl
section
variable {n k : Nat} {x y x' : List Bool} {l g b : Bool}
theorem mod_x (h : k < x.length) : (modC n x y l g b)[1 + k]? = some (.bool (x.getD k false)) := by
  unfold modC
  rw [List.getElem?_toArray, Nat.add_comm, List.getElem?_cons_succ, List.getElem?_append_left (by simpa using h), List.getElem?_map, List.getD_eq_getElem?_getD, List.getElem?_eq_getElem h]; rfl
theorem mod_y (hx : x.length = 64) (h : k < y.length) : (modC n x y l g b)[65 + k]? = some (.bool (y.getD k false)) := by
  unfold modC
  rw [List.getElem?_toArray, show 65 + k = (64 + k) + 1 by omega, List.getElem?_cons_succ, List.getElem?_append_right (by simp [hx]), List.length_map, hx, show 64 + k - 64 = k by omega, List.getElem?_append_left (by simpa using h), List.getElem?_map, List.getD_eq_getElem?_getD, List.getElem?_eq_getElem h]; rfl
theorem mod_f (hx : x.length = 64) (hy : y.length = 64) (i : Nat) (v : Value) (h : [Value.bool l, .bool g, .bool b][i]? = some v) : (modC n x y l g b)[129 + i]? = some v := by
  unfold modC
  rw [List.getElem?_toArray, show 129 + i = (128 + i) + 1 by omega, List.getElem?_cons_succ, List.getElem?_append_right (by simp [hx]; omega), List.length_map, hx, List.getElem?_append_right (by simp [hy]; omega), List.length_map, hy, show 128 + i - 64 - 64 = i by omega]; exact h
theorem mod_setx (hx : x.length = 64) (hk : k < 64) (v : Bool) : (modC n x y l g b).setIfInBounds (1 + k) (.bool v) = modC n (x.set k v) y l g b := by
  unfold modC
  rw [List.setIfInBounds_toArray, Nat.add_comm, List.set_cons_succ, List.set_append_left _ _ (by simp [hx]; omega), show bl (x.set k v) = (bl x).set k (.bool v) from List.map_set]
theorem mod_setl (hx : x.length = 64) (hy : y.length = 64) (v : Bool) : (modC n x y l g b).setIfInBounds 129 (.bool v) = modC n x y v g b := by
  unfold modC
  rw [List.setIfInBounds_toArray, List.set_cons_succ, List.set_append_right _ _ (by simp [hx]), List.length_map, hx, List.set_append_right _ _ (by simp [hy]), List.length_map, hy]; rfl
theorem mod_setg (hx : x.length = 64) (hy : y.length = 64) (v : Bool) : (modC n x y l g b).setIfInBounds 130 (.bool v) = modC n x y l v b := by
  unfold modC
  rw [List.setIfInBounds_toArray, List.set_cons_succ, List.set_append_right _ _ (by simp [hx]), List.length_map, hx, List.set_append_right _ _ (by simp [hy]), List.length_map, hy]; rfl
theorem mod_setb (hx : x.length = 64) (hy : y.length = 64) (v : Bool) : (modC n x y l g b).setIfInBounds 131 (.bool v) = modC n x y l g v := by
  unfold modC
  rw [List.setIfInBounds_toArray, List.set_cons_succ, List.set_append_right _ _ (by simp [hx]), List.length_map, hx, List.set_append_right _ _ (by simp [hy]), List.length_map, hy]; rfl
theorem mod_xs (hx : x.length = x'.length) : setFrom (modC n x y l g b) 1 (bl x') = modC n x' y l g b :=
  setFrom_mid (bl x') [Value.int .i64 (n : Int)] (bl x) (bl y ++ [Value.bool l, Value.bool g, Value.bool b]) (by simpa using hx)
theorem mod_ys (hx : x.length = 64) (hy : y.length = x'.length) : setFrom (modC n x y l g b) 65 (bl x') = modC n x x' l g b := by
  have := setFrom_mid (bl x') (Value.int .i64 (n : Int) :: bl x) (bl y) [Value.bool l, Value.bool g, Value.bool b] (by simpa using hy)
  rw [show (Value.int .i64 (n : Int) :: bl x).length = 65 by simp [hx]] at this
  exact this
end
abbrev ModAt (w : World) (gm n : Nat) (x y : List Bool) (l g b : Bool) : Prop := Blk w gm 75 (modC n x y l g b)
section
variable {w : World} {gm n : Nat} {x y : List Bool} {l g b : Bool}
theorem ModAt.rx (h : ModAt w gm n x y l g b) : w.rangeAt gm 1 (bl x) := Blk.range (a := [.int .i64 (n : Int)]) (b := bl x) (c := bl y ++ [.bool l, .bool g, .bool b]) h 1 rfl
theorem ModAt.ry (h : ModAt w gm n x y l g b) (hx : x.length = 64) : w.rangeAt gm 65 (bl y) := Blk.range (a := .int .i64 (n : Int) :: bl x) (b := bl y) (c := [.bool l, .bool g, .bool b]) h 65 (by simp [hx])
theorem ModAt.tx (h : ModAt w gm n x y l g b) (hx : x.length = 64) : w.there gm 1 64 := Blk.there (a := [.int .i64 (n : Int)]) (b := bl x) (c := bl y ++ [.bool l, .bool g, .bool b]) h 1 rfl 64 (by simp [hx])
theorem ModAt.ty (h : ModAt w gm n x y l g b) (hx : x.length = 64) (hy : y.length = 64) : w.there gm 65 64 := Blk.there (a := .int .i64 (n : Int) :: bl x) (b := bl y) (c := [.bool l, .bool g, .bool b]) h 65 (by simp [hx]) 64 (by simp [hy])
end
theorem infoM : (Try.prog.info? 75).map (·.size) = some 132 := by kernel_rfl
theorem C_lit0 (W : World) (n : Nat) (hn : W.heap.size = n) (a m : Int) : Kd.C k31 (W.alloc (.cells #[.int .i64 a, .int .i64 m] 31)) (some ⟨n, 0, none⟩) 1 [⟨a, m⟩] := by
  subst hn
  exact C_lit W [⟨a, m⟩] (by simp) _ rfl
theorem all_set (n : Nat) (hn : n ≤ 64) : putS none64 [⟨0, (n : Int)⟩] true = bitsS n allX := by
  refine bools_ext (putS_len _ _ _ (by simp)) (bitsS_length _ _) (fun k hk => ?_)
  rw [← Bool.eq_iff_iff]
  show (putOne none64 ⟨0, (n : Int)⟩ true).getD k false = _
  rw [putOne_get _ _ _ _ (by simp), none64_get, bitsS_get n allX k hk, allX_bit k hk, Bool.and_true]
  show (if (wh 0 (n : Int) ∧ (0 : Int) ≤ (k : Int) ∧ (k : Int) < 0 + (n : Int)) then true else false) = _
  by_cases h : k < n
  · rw [if_pos ⟨⟨by omega, by omega, by omega⟩, by omega, by omega⟩, decide_eq_true h]
  · rw [if_neg (fun e => h (by have := e.2.2; omega)), decide_eq_false h]
set_option maxRecDepth 100000 in
theorem all_calls (n : Nat) (hn : n ≤ 64) (w : World) :
    Calls Try.prog 93 #[.int .i64 (n : Int)] w fun e w' => e = .returned (.agg (setArr (bitsS n allX))) ∧ Below w.heap.size w w' := by
  have Hs : Aside0 (bitsS n allX = putS none64 [⟨0, (n : Int)⟩] true) := ⟨(all_set n hn).symm⟩
  generalize bitsS n allX = s at *
  go_enter Try.func93, Try.ntmps93
  go_wp2_with fail
  have hl : Aside0 (s.length = 64) := ⟨by rw [Hs.out]; exact putS_len _ _ _ (by simp)⟩
  refine calls_abs (fun X => Below w.heap.size w X ∧ Blk X w.heap.size 27 (setArr (List.replicate 64 false)) ∧ Kd.C k31 X (some ⟨w.heap.size + 1, 0, none⟩) 1 [⟨0, (n : Int)⟩]) ⟨by repeat (first | exact Below.refl _ _ | apply below_alloc), (Blk.new _ _ _).alloc _, C_lit0 _ _ (by simp) 0 (n : Int)⟩ ?_
  rintro W ⟨hb, hz, hc⟩
  have HB := Aside0.mk hb
  have HZ := Aside0.mk hz
  have HC := Aside0.mk hc
  clear hb hz hc
  refine (emulsionref1_Set_Put.calls none64 ⟨by simp⟩ _ 1 [⟨0, (n : Int)⟩] true _ HC.out (by simp)).mono ?_
  rintro e w1 ⟨rfl, hB⟩
  rw [← Hs.out]
  have HB1 := Aside0.mk (below_step HB.out hB)
  have HZ1 := Aside0.mk (HZ.out.keep hB)
  clear hB HB HZ HC
  go_wp2_with (with_reducible refine wpList_store_row rfl 27 (.tmp 2) (.tmp 7) rfl w.heap.size (setArr s) rfl rfl 27 (setArr (List.replicate 64 false)) HZ1.out.hd (by rw [setArr_size, hl.out]; exact info27) (by rw [setArr_size, setArr_size, hl.out, List.length_replicate]) (setArr_one _) ?_)
  have HZ2 : Blk (w1.setRow w.heap.size (setArr s)) w.heap.size 27 (setArr s) := setRow_heap _ _ _ _ _ _ HZ1.out.hd
  exact bodyPost_ret (v := .agg (setArr s)) (results_cell_row rfl _ _ w.heap.size 27 _ (0, 0) _ rfl HZ2.hd Try.underlying27 rfl (by rw [setArr_size, hl.out]; exact info27)) rfl ⟨rfl, below_setRow HB1.out (by omega) _⟩
set_option maxRecDepth 100000 in
theorem shown_calls (n xv : Nat) (x y : List Bool) (l g b al : Bool) (hn : n ≤ 64) (hl : x.length = 64) (w : World) :
    Calls Try.prog 48 #[.agg (modC n x y l g b), .agg (setArr (bitsS n xv)), .bool al] w fun e w' => e = .returned (.agg (setArr (markS n xv al))) ∧ Below w.heap.size w w' := by
  have Hl : Aside0 ((bitsS n xv).length = 64) := ⟨bitsS_length _ _⟩
  have Ha : Aside0 ((bitsS n allX).length = 64) := ⟨bitsS_length _ _⟩
  generalize hm : modC n x y l g b = M
  have HM : Aside0 (M[0]? = some (.int .i64 (n : Int))) := ⟨by rw [← hm]; rfl⟩
  clear hm
  go_enter Try.func48, Try.ntmps48
  go_upto_region 1 with fail
  refine code_abs (fun X => Below w.heap.size w X ∧ Blk X w.heap.size 75 M ∧ Blk X (w.heap.size + 1) 27 (setArr (bitsS n xv)) ∧ Blk X (w.heap.size + 1 + 1) 27 (setArr (List.replicate 64 false))) ⟨by repeat (first | exact Below.refl _ _ | apply below_alloc), ((Blk.new _ _ _).alloc _).alloc _, (Blk.new2 _ _ _ _).alloc _, by unfold Blk; rw [show w.heap.size + 1 + 1 = ((w.alloc (.cells M 75)).alloc (.cells (setArr (bitsS n xv)) 27)).heap.size by simp]; exact heap_alloc_new _ _⟩ ?_
  rintro W ⟨hb, hm, hx, hz⟩
  have HB := Aside0.mk hb
  have HX := Aside0.mk hx
  have HZ := Aside0.mk hz
  have m0 := hm.cell HM.out
  obtain ⟨gz, hgz⟩ : ∃ q, q = w.heap.size + 1 + 1 := ⟨_, rfl⟩
  have Hg : Aside0 (w.heap.size ≤ gz) := ⟨by omega⟩
  rw [← hgz] at HZ
  rw [← hgz]
  clear hb hm hx hz hgz
  cases al
  · go_wp2_with (first | (with_reducible refine wpList_load_row rfl 27 (.tmp 4) rfl (w.heap.size + 1) rfl 27 _ (0, 0) _ HX.out.hd Try.underlying27 rfl (by rw [setArr_size, Hl.out]; exact info27) ?_) | (with_reducible refine wpList_store_row rfl 27 (.tmp 6) (.tmp 11) rfl gz (setArr (bitsS n xv)) rfl rfl 27 (setArr (List.replicate 64 false)) HZ.out.hd (by rw [setArr_size, Hl.out]; exact info27) (by rw [setArr_size, setArr_size, Hl.out, List.length_replicate]) (setArr_one _) ?_))
    have HZ2 : Blk (W.setRow gz (setArr (bitsS n xv))) gz 27 (setArr (bitsS n xv)) := setRow_heap _ _ _ _ _ _ HZ.out.hd
    exact bodyPost_ret (v := .agg (setArr (bitsS n xv))) (results_cell_row rfl _ _ gz 27 _ (0, 0) _ rfl HZ2.hd Try.underlying27 rfl (by rw [setArr_size, Hl.out]; exact info27)) rfl ⟨rfl, below_setRow HB.out Hg.out _⟩
  · go_wp2_with fail
    refine (all_calls n hn _).mono ?_
    rintro e w1 ⟨rfl, hB⟩
    have HB1 := Aside0.mk (below_step HB.out hB)
    have HZ1 := Aside0.mk (HZ.out.keep hB)
    clear hB HB HZ m0
    go_wp2_with (with_reducible refine wpList_store_row rfl 27 (.tmp 6) (.tmp 10) rfl gz (setArr (bitsS n allX)) rfl rfl 27 (setArr (List.replicate 64 false)) HZ1.out.hd (by rw [setArr_size, Ha.out]; exact info27) (by rw [setArr_size, setArr_size, Ha.out, List.length_replicate]) (setArr_one _) ?_)
    have HZ2 : Blk (w1.setRow gz (setArr (bitsS n allX))) gz 27 (setArr (bitsS n allX)) := setRow_heap _ _ _ _ _ _ HZ1.out.hd
    exact bodyPost_ret (v := .agg (setArr (bitsS n allX))) (results_cell_row rfl _ _ gz 27 _ (0, 0) _ rfl HZ2.hd Try.underlying27 rfl (by rw [setArr_size, Ha.out]; exact info27)) rfl ⟨rfl, below_setRow HB1.out Hg.out _⟩
end Go.Proofs.Ytffemlfdhkndiaa.Hand
end
