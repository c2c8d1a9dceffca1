/- Parts of the proof for DirtPlays: BookT, BookN, BookP, BookR, BookW, BookA, BookAddS, Ax5, Ax7, Ax9, Span, SpanB, Tidy, Row. -/
import Derived.Test.YtffemlfdhkndiaaJDirtPlays2
section
namespace Go.Proofs.Ytffemlfdhkndiaa.Hand
open Go.RowKit Go.Proofs.YtffemlfdhkndiaaW.PrintWords Go.Proofs.YtffemlfdhkndiaaW.PrintLast Go.Proofs.YtffemlfdhkndiaaW.PrintMore Go.Proofs.Ytffemlfdhkndiaa.A
set_option linter.unusedVariables false
set_option linter.unusedSimpArgs false
attribute [local go_sem] max2_int min2_int max_two min_two max_three min_three max_four min_four
theorem drawnB {w W : World} (h : Drawn0 w W) : Below w.heap.size w W := by
  obtain ⟨k, rfl⟩ := h
  exact pw_below_drewN (Below.refl _ _) _
/-- A book: its fourteen rows. -/
def bookC (VI UI VS US VE UE : Value) : Array Value := #[.slice none 0 0, .slice none 0 0, VI, UI, VS, US, VE, UE, .slice none 0 0, .slice none 0 0, .slice none 0 0, .slice none 0 0, .slice none 0 0, .slice none 0 0]
set_option maxRecDepth 100000 in
set_option maxHeartbeats 1600000 in
theorem still_Spans (g base : Nat) (VI UI VE UE : Value) (V U : Value) (vs us : List Value) (L : List (List S31)) (w : World) (hb : Blk w g 52 (bookC VI UI V U VE UE)) (hP : Pile k31 31 22 w base V U vs us L)
    (hL : L.length ≤ 250) (hB : ∀ (i : Nat) l, L[i]? = some l → l.length ≤ 1000000) :
    Calls Try.prog 60 #[.pointer (some ⟨g, 0, none⟩)] w fun e w' => e = .returned (.bool true) ∧ Below w.heap.size w w' := by
  obtain ⟨A, n, rfl⟩ := row_slice hP.hV
  obtain ⟨AU, nU, rfl⟩ := row_slice hP.hU
  have HB := Aside0.mk hb
  have HP := Aside0.mk hP
  have HBd := Aside0.mk hB
  have HL := Aside0.mk hL
  clear hb hP hB hL
  go_enter Try.func60, Try.ntmps60
  go_wp2_with fail
  go_loopg [3] L.length (fun kq v wq => ∃ k : Nat, k + kq = L.length ∧ v = .int .i64 (k : Int) ∧ Aside0 (Below w.heap.size w wq))
  case atStart => exact ⟨0, by omega, rfl, ⟨Below.refl _ _⟩⟩
  case round =>
    obtain ⟨k, hk, rfl, HW⟩ := hrel
    have hb1 := HB.out.keep HW.out
    have c4 := hb1.cell (i := 4) (v := .slice A L.length n) rfl
    have HB1 := Aside0.mk hb1
    clear hb1
    by_cases hlt : k < L.length
    · have hlt' : (k : Int) < (L.length : Int) := by omega
      have hk' : (k : Int) ≤ 250 := by have := HL.out; omega
      obtain ⟨kk, rfl⟩ : ∃ z, gk = z + 1 := ⟨gk - 1, by omega⟩
      obtain ⟨l, hl⟩ : ∃ l, L[k]? = some l := ⟨_, List.getElem?_eq_getElem hlt⟩
      have hbd := HBd.out k l hl
      obtain ⟨gv, cV, Av, cv, hVe, hcell, _, _, hle, hC⟩ := (HP.out.shelf.below HW.out).at hl
      obtain ⟨gu, cU, Au, cu, hUe, hcell2, _, _, hle2, hC2⟩ := (HP.out.shelfU.below HW.out).at hl
      injection hVe with q1 q2 q3
      injection hUe with q4 q5 q6
      subst q1; subst q3; subst q4; subst q6
      have HCa := Aside0.mk hC
      have HCb := Aside0.mk hC2
      have hcb : HB1.out.cell (i := 5) (v := .slice (some ⟨gu, 0, none⟩) L.length nU) rfl = HB1.out.cell (i := 5) rfl := rfl
      have c5 := HB1.out.cell (i := 5) (v := .slice (some ⟨gu, 0, none⟩) L.length nU) rfl
      have hsm := Aside0.mk (sameSpans_f l (by omega) (l.length + 1) (by omega))
      clear hC hC2 hcb
      go_wp2_with fail
      refine start_ (n := 16) (S := fun w' => w'.cell? ⟨g, 4, none⟩ = some (.slice (some ⟨gv, 0, none⟩) L.length n) ∧ w'.cell? ⟨g, 5, none⟩ = some (.slice (some ⟨gu, 0, none⟩) L.length nU) ∧ w'.cell? ⟨gv, k, none⟩ = some (.slice Av l.length cv) ∧ w'.cell? ⟨gu, k, none⟩ = some (.slice Au l.length cu) ∧ Below w.heap.size w w' ∧ Kd.C k31 w' Av l.length l ∧ Kd.C k31 w' Au l.length l) (ds := []) #[false, false, false, false, false, false, false, false, false, false, false, false, false, false, false, false] (by kernel_rfl) rfl rfl ⟨c4, c5, hcell, hcell2, (below_drew HW.out), (Kd.C_drew HCa.out), (Kd.C_drew HCb.out)⟩ (fun hHeld => ?_)
      refine pure_ (i := 0) (N := some 13) (v := ?_) (a' := ?_) #[true, false, false, false, false, false, false, false, false, false, false, false, false, false, false, false] rfl rfl (by kernel_rfl) (fun _ _ _ h => h) (Or.inl ⟨by rfl, ?_⟩) ?_ ?_
      rotate_left
      · intro w'
        go_simp
        with_reducible rfl
      rotate_left
      · simp only [Act.put, List.setIfInBounds_toArray, List.set_cons_zero, List.set_cons_succ, i64_w, i32_w]
        rfl
      refine pure_ (i := 1) (N := some 14) (v := ?_) (a' := ?_) #[true, true, false, false, false, false, false, false, false, false, false, false, false, false, false, false] rfl rfl (by kernel_rfl) (fun _ _ _ h => h) (Or.inl ⟨by rfl, ?_⟩) ?_ ?_
      rotate_left
      · intro w'
        go_simp
        with_reducible rfl
      rotate_left
      · simp only [Act.put, List.setIfInBounds_toArray, List.set_cons_zero, List.set_cons_succ, i64_w, i32_w]
        rfl
      refine pure_ (i := 2) (N := some 15) (v := ?_) (a' := ?_) #[true, true, true, false, false, false, false, false, false, false, false, false, false, false, false, false] rfl rfl (by kernel_rfl) (fun _ _ _ h => h) (Or.inl ⟨by rfl, ?_⟩) ?_ ?_
      rotate_left
      · intro w'
        go_simp
        with_reducible rfl
      rotate_left
      · simp only [Act.put, List.setIfInBounds_toArray, List.set_cons_zero, List.set_cons_succ, i64_w, i32_w]
        rfl
      refine pure_ (i := 4) (N := some 17) (v := ?_) (a' := ?_) #[true, true, true, false, true, false, false, false, false, false, false, false, false, false, false, false] rfl rfl (by kernel_rfl) (fun _ _ _ h => h) (Or.inl ⟨by rfl, ?_⟩) ?_ ?_
      rotate_left
      · intro w'
        go_simp
        with_reducible rfl
      rotate_left
      · simp only [Act.put, List.setIfInBounds_toArray, List.set_cons_zero, List.set_cons_succ, i64_w, i32_w]
        rfl
      refine pure_ (i := 7) (N := some 20) (v := ?_) (a' := ?_) #[true, true, true, false, true, false, false, true, false, false, false, false, false, false, false, false] rfl rfl (by kernel_rfl) (fun _ _ _ h => h) (Or.inl ⟨by rfl, ?_⟩) ?_ ?_
      rotate_left
      · intro w'
        go_simp
        with_reducible rfl
      rotate_left
      · simp only [Act.put, List.setIfInBounds_toArray, List.set_cons_zero, List.set_cons_succ, i64_w, i32_w]
        rfl
      refine pure_ (i := 8) (N := some 21) (v := ?_) (a' := ?_) #[true, true, true, false, true, false, false, true, true, false, false, false, false, false, false, false] rfl rfl (by kernel_rfl) (fun _ _ _ h => h) (Or.inl ⟨by rfl, ?_⟩) ?_ ?_
      rotate_left
      · intro w'
        go_simp
        with_reducible rfl
      rotate_left
      · simp only [Act.put, List.setIfInBounds_toArray, List.set_cons_zero, List.set_cons_succ, i64_w, i32_w]
        rfl
      refine pure_ (i := 9) (N := some 22) (v := ?_) (a' := ?_) #[true, true, true, false, true, false, false, true, true, true, false, false, false, false, false, false] rfl rfl (by kernel_rfl) (fun _ _ _ h => h) (Or.inl ⟨by rfl, ?_⟩) ?_ ?_
      rotate_left
      · intro w'
        go_simp
        with_reducible rfl
      rotate_left
      · simp only [Act.put, List.setIfInBounds_toArray, List.set_cons_zero, List.set_cons_succ, i64_w, i32_w]
        rfl
      refine pure_ (i := 11) (N := some 24) (v := ?_) (a' := ?_) #[true, true, true, false, true, false, false, true, true, true, false, true, false, false, false, false] rfl rfl (by kernel_rfl) (fun _ _ _ h => h) (Or.inl ⟨by rfl, ?_⟩) ?_ ?_
      rotate_left
      · intro w'
        go_simp
        with_reducible rfl
      rotate_left
      · simp only [Act.put, List.setIfInBounds_toArray, List.set_cons_zero, List.set_cons_succ, i64_w, i32_w]
        rfl
      refine take_ (i := 3) (N := some 16) (v := ?_) (a' := ?_) #[true, true, true, true, true, false, false, true, true, true, false, true, false, false, false, false] rfl rfl (by kernel_rfl) (fun _ _ _ h => h) (Or.inl ⟨by rfl, ?_⟩) hHeld ?_ ?_
      rotate_left
      · rintro w' ⟨s0, s1, s2, s3, s4, s5, s6⟩
        go_simp
        with_reducible rfl
      rotate_left
      · simp only [Act.put, List.setIfInBounds_toArray, List.set_cons_zero, List.set_cons_succ, i64_w, i32_w]
        rfl
      refine pure_ (i := 5) (N := some 18) (v := ?_) (a' := ?_) #[true, true, true, true, true, true, false, true, true, true, false, true, false, false, false, false] rfl rfl (by kernel_rfl) (fun _ _ _ h => h) (Or.inl ⟨by rfl, ?_⟩) ?_ ?_
      rotate_left
      · intro w'
        go_simp
        with_reducible rfl
      rotate_left
      · simp only [Act.put, List.setIfInBounds_toArray, List.set_cons_zero, List.set_cons_succ, i64_w, i32_w]
        rfl
      refine take_ (i := 6) (N := some 19) (v := ?_) (a' := ?_) #[true, true, true, true, true, true, true, true, true, true, false, true, false, false, false, false] rfl rfl (by kernel_rfl) (fun _ _ _ h => h) (Or.inl ⟨by rfl, ?_⟩) hHeld ?_ ?_
      rotate_left
      · rintro w' ⟨s0, s1, s2, s3, s4, s5, s6⟩
        go_simp
        with_reducible rfl
      rotate_left
      · simp only [Act.put, List.setIfInBounds_toArray, List.set_cons_zero, List.set_cons_succ, i64_w, i32_w]
        rfl
      refine take_ (i := 10) (N := some 23) (v := ?_) (a' := ?_) #[true, true, true, true, true, true, true, true, true, true, true, true, false, false, false, false] rfl rfl (by kernel_rfl) (fun _ _ _ h => h) (Or.inl ⟨by rfl, ?_⟩) hHeld ?_ ?_
      rotate_left
      · rintro w' ⟨s0, s1, s2, s3, s4, s5, s6⟩
        go_simp
        with_reducible rfl
      rotate_left
      · simp only [Act.put, List.setIfInBounds_toArray, List.set_cons_zero, List.set_cons_succ, i64_w, i32_w]
        rfl
      refine pure_ (i := 12) (N := some 25) (v := ?_) (a' := ?_) #[true, true, true, true, true, true, true, true, true, true, true, true, true, false, false, false] rfl rfl (by kernel_rfl) (fun _ _ _ h => h) (Or.inl ⟨by rfl, ?_⟩) ?_ ?_
      rotate_left
      · intro w'
        go_simp
        with_reducible rfl
      rotate_left
      · simp only [Act.put, List.setIfInBounds_toArray, List.set_cons_zero, List.set_cons_succ, i64_w, i32_w]
        rfl
      refine take_ (i := 13) (N := some 26) (v := ?_) (a' := ?_) #[true, true, true, true, true, true, true, true, true, true, true, true, true, true, false, false] rfl rfl (by kernel_rfl) (fun _ _ _ h => h) (Or.inl ⟨by rfl, ?_⟩) hHeld ?_ ?_
      rotate_left
      · rintro w' ⟨s0, s1, s2, s3, s4, s5, s6⟩
        go_simp
        with_reducible rfl
      rotate_left
      · simp only [Act.put, List.setIfInBounds_toArray, List.set_cons_zero, List.set_cons_succ, i64_w, i32_w]
        rfl
      refine one_ (i := 14) (N := some 27) #[true, true, true, true, true, true, true, true, true, true, true, true, true, true, true, false] rfl rfl (by kernel_rfl) (by decide) (fun K hK => ?_)
      refine goes_ Try.func28 (by kernel_rfl) rfl #[.slice Av l.length cv, .slice Au l.length cu] (by rfl) rfl rfl (by simp only [List.map_toArray, List.map_cons, List.map_nil]; rfl) ?_
      with_reducible refine (emulsionbook_SameSpans.calls (l.length + 1) Av cv l Au cu l true _ hHeld.2.2.2.2.2.1 hle hHeld.2.2.2.2.2.2 hle2 hsm.out).mono ?_
      rintro e w6 ⟨rfl, hd⟩
      refine ⟨_, rfl, ?_⟩
      refine hK.out _ _ ⟨(keepP (drawnB hd) hHeld.1), (keepP (drawnB hd) hHeld.2.1), (keepP (drawnB hd) hHeld.2.2.1), (keepP (drawnB hd) hHeld.2.2.2.1), (below_step hHeld.2.2.2.2.1 (drawnB hd)), (Kd.C_below hHeld.2.2.2.2.2.1 (drawnB hd)), (Kd.C_below hHeld.2.2.2.2.2.2 (drawnB hd))⟩ (fun hHeld => ?_)
      clear hK K
      refine norm_ (a' := ?_) ?_ ?_
      rotate_left
      · show Act.put _ (some 27) _ = _
        simp only [Act.put, List.setIfInBounds_toArray, List.set_cons_zero, List.set_cons_succ, i64_w, i32_w]
        rfl
      refine pure_ (i := 15) (N := some 28) (v := ?_) (a' := ?_) #[true, true, true, true, true, true, true, true, true, true, true, true, true, true, true, true] rfl rfl (by kernel_rfl) (fun _ _ _ h => h) (Or.inl ⟨by rfl, ?_⟩) ?_ ?_
      rotate_left
      · intro w'
        go_simp
        with_reducible rfl
      rotate_left
      · simp only [Act.put, List.setIfInBounds_toArray, List.set_cons_zero, List.set_cons_succ, i64_w, i32_w]
        rfl
      refine done_ (by kernel_rfl) ?_
      have HW5 := Aside0.mk hHeld.2.2.2.2.1
      clear hHeld
      go_wp2_with fail
      go_roundg kk
      case measure => omega
      case rel => exact ⟨k + 1, by omega, by go_num, HW5⟩
    · obtain rfl : k = L.length := by omega
      have hlt' : ¬ (L.length : Int) < (L.length : Int) := by omega
      go_wp2_with fail
      go_ret
      exact ⟨rfl, HW.out⟩
set_option maxRecDepth 100000 in
set_option maxHeartbeats 1600000 in
theorem still_Ints (g base : Nat) (VS US VE UE : Value) (V U : Value) (vs us : List Value) (L : List (List Int)) (w : World) (hb : Blk w g 52 (bookC V U VS US VE UE)) (hP : Pile (Kd.int .i64) 3 118 w base V U vs us L)
    (hL : L.length ≤ 250) (hB : ∀ (i : Nat) l, L[i]? = some l → l.length ≤ 1000000) :
    Calls Try.prog 59 #[.pointer (some ⟨g, 0, none⟩)] w fun e w' => e = .returned (.bool true) ∧ Below w.heap.size w w' := by
  obtain ⟨A, n, rfl⟩ := row_slice hP.hV
  obtain ⟨AU, nU, rfl⟩ := row_slice hP.hU
  have HB := Aside0.mk hb
  have HP := Aside0.mk hP
  have HBd := Aside0.mk hB
  have HL := Aside0.mk hL
  clear hb hP hB hL
  go_enter Try.func59, Try.ntmps59
  go_wp2_with fail
  go_loopg [3] L.length (fun kq v wq => ∃ k : Nat, k + kq = L.length ∧ v = .int .i64 (k : Int) ∧ Aside0 (Below w.heap.size w wq))
  case atStart => exact ⟨0, by omega, rfl, ⟨Below.refl _ _⟩⟩
  case round =>
    obtain ⟨k, hk, rfl, HW⟩ := hrel
    have hb1 := HB.out.keep HW.out
    have c4 := hb1.cell (i := 2) (v := .slice A L.length n) rfl
    have HB1 := Aside0.mk hb1
    clear hb1
    by_cases hlt : k < L.length
    · have hlt' : (k : Int) < (L.length : Int) := by omega
      have hk' : (k : Int) ≤ 250 := by have := HL.out; omega
      obtain ⟨kk, rfl⟩ : ∃ z, gk = z + 1 := ⟨gk - 1, by omega⟩
      obtain ⟨l, hl⟩ : ∃ l, L[k]? = some l := ⟨_, List.getElem?_eq_getElem hlt⟩
      have hbd := HBd.out k l hl
      obtain ⟨gv, cV, Av, cv, hVe, hcell, _, _, hle, hC⟩ := (HP.out.shelf.below HW.out).at hl
      obtain ⟨gu, cU, Au, cu, hUe, hcell2, _, _, hle2, hC2⟩ := (HP.out.shelfU.below HW.out).at hl
      injection hVe with q1 q2 q3
      injection hUe with q4 q5 q6
      subst q1; subst q3; subst q4; subst q6
      have HCa := Aside0.mk hC
      have HCb := Aside0.mk hC2
      have hcb : HB1.out.cell (i := 3) (v := .slice (some ⟨gu, 0, none⟩) L.length nU) rfl = HB1.out.cell (i := 3) rfl := rfl
      have c5 := HB1.out.cell (i := 3) (v := .slice (some ⟨gu, 0, none⟩) L.length nU) rfl
      have hsm := Aside0.mk (sameInts_f l (by omega) (l.length + 1) (by omega))
      clear hC hC2 hcb
      go_wp2_with fail
      refine start_ (n := 16) (S := fun w' => w'.cell? ⟨g, 2, none⟩ = some (.slice (some ⟨gv, 0, none⟩) L.length n) ∧ w'.cell? ⟨g, 3, none⟩ = some (.slice (some ⟨gu, 0, none⟩) L.length nU) ∧ w'.cell? ⟨gv, k, none⟩ = some (.slice Av l.length cv) ∧ w'.cell? ⟨gu, k, none⟩ = some (.slice Au l.length cu) ∧ Below w.heap.size w w' ∧ Kd.C (Kd.int .i64) w' Av l.length l ∧ Kd.C (Kd.int .i64) w' Au l.length l) (ds := []) #[false, false, false, false, false, false, false, false, false, false, false, false, false, false, false, false] (by kernel_rfl) rfl rfl ⟨c4, c5, hcell, hcell2, (below_drew HW.out), (Kd.C_drew HCa.out), (Kd.C_drew HCb.out)⟩ (fun hHeld => ?_)
      refine pure_ (i := 0) (N := some 13) (v := ?_) (a' := ?_) #[true, false, false, false, false, false, false, false, false, false, false, false, false, false, false, false] rfl rfl (by kernel_rfl) (fun _ _ _ h => h) (Or.inl ⟨by rfl, ?_⟩) ?_ ?_
      rotate_left
      · intro w'
        go_simp
        with_reducible rfl
      rotate_left
      · simp only [Act.put, List.setIfInBounds_toArray, List.set_cons_zero, List.set_cons_succ, i64_w, i32_w]
        rfl
      refine pure_ (i := 1) (N := some 14) (v := ?_) (a' := ?_) #[true, true, false, false, false, false, false, false, false, false, false, false, false, false, false, false] rfl rfl (by kernel_rfl) (fun _ _ _ h => h) (Or.inl ⟨by rfl, ?_⟩) ?_ ?_
      rotate_left
      · intro w'
        go_simp
        with_reducible rfl
      rotate_left
      · simp only [Act.put, List.setIfInBounds_toArray, List.set_cons_zero, List.set_cons_succ, i64_w, i32_w]
        rfl
      refine pure_ (i := 2) (N := some 15) (v := ?_) (a' := ?_) #[true, true, true, false, false, false, false, false, false, false, false, false, false, false, false, false] rfl rfl (by kernel_rfl) (fun _ _ _ h => h) (Or.inl ⟨by rfl, ?_⟩) ?_ ?_
      rotate_left
      · intro w'
        go_simp
        with_reducible rfl
      rotate_left
      · simp only [Act.put, List.setIfInBounds_toArray, List.set_cons_zero, List.set_cons_succ, i64_w, i32_w]
        rfl
      refine pure_ (i := 4) (N := some 17) (v := ?_) (a' := ?_) #[true, true, true, false, true, false, false, false, false, false, false, false, false, false, false, false] rfl rfl (by kernel_rfl) (fun _ _ _ h => h) (Or.inl ⟨by rfl, ?_⟩) ?_ ?_
      rotate_left
      · intro w'
        go_simp
        with_reducible rfl
      rotate_left
      · simp only [Act.put, List.setIfInBounds_toArray, List.set_cons_zero, List.set_cons_succ, i64_w, i32_w]
        rfl
      refine pure_ (i := 7) (N := some 20) (v := ?_) (a' := ?_) #[true, true, true, false, true, false, false, true, false, false, false, false, false, false, false, false] rfl rfl (by kernel_rfl) (fun _ _ _ h => h) (Or.inl ⟨by rfl, ?_⟩) ?_ ?_
      rotate_left
      · intro w'
        go_simp
        with_reducible rfl
      rotate_left
      · simp only [Act.put, List.setIfInBounds_toArray, List.set_cons_zero, List.set_cons_succ, i64_w, i32_w]
        rfl
      refine pure_ (i := 8) (N := some 21) (v := ?_) (a' := ?_) #[true, true, true, false, true, false, false, true, true, false, false, false, false, false, false, false] rfl rfl (by kernel_rfl) (fun _ _ _ h => h) (Or.inl ⟨by rfl, ?_⟩) ?_ ?_
      rotate_left
      · intro w'
        go_simp
        with_reducible rfl
      rotate_left
      · simp only [Act.put, List.setIfInBounds_toArray, List.set_cons_zero, List.set_cons_succ, i64_w, i32_w]
        rfl
      refine pure_ (i := 9) (N := some 22) (v := ?_) (a' := ?_) #[true, true, true, false, true, false, false, true, true, true, false, false, false, false, false, false] rfl rfl (by kernel_rfl) (fun _ _ _ h => h) (Or.inl ⟨by rfl, ?_⟩) ?_ ?_
      rotate_left
      · intro w'
        go_simp
        with_reducible rfl
      rotate_left
      · simp only [Act.put, List.setIfInBounds_toArray, List.set_cons_zero, List.set_cons_succ, i64_w, i32_w]
        rfl
      refine pure_ (i := 11) (N := some 24) (v := ?_) (a' := ?_) #[true, true, true, false, true, false, false, true, true, true, false, true, false, false, false, false] rfl rfl (by kernel_rfl) (fun _ _ _ h => h) (Or.inl ⟨by rfl, ?_⟩) ?_ ?_
      rotate_left
      · intro w'
        go_simp
        with_reducible rfl
      rotate_left
      · simp only [Act.put, List.setIfInBounds_toArray, List.set_cons_zero, List.set_cons_succ, i64_w, i32_w]
        rfl
      refine take_ (i := 3) (N := some 16) (v := ?_) (a' := ?_) #[true, true, true, true, true, false, false, true, true, true, false, true, false, false, false, false] rfl rfl (by kernel_rfl) (fun _ _ _ h => h) (Or.inl ⟨by rfl, ?_⟩) hHeld ?_ ?_
      rotate_left
      · rintro w' ⟨s0, s1, s2, s3, s4, s5, s6⟩
        go_simp
        with_reducible rfl
      rotate_left
      · simp only [Act.put, List.setIfInBounds_toArray, List.set_cons_zero, List.set_cons_succ, i64_w, i32_w]
        rfl
      refine pure_ (i := 5) (N := some 18) (v := ?_) (a' := ?_) #[true, true, true, true, true, true, false, true, true, true, false, true, false, false, false, false] rfl rfl (by kernel_rfl) (fun _ _ _ h => h) (Or.inl ⟨by rfl, ?_⟩) ?_ ?_
      rotate_left
      · intro w'
        go_simp
        with_reducible rfl
      rotate_left
      · simp only [Act.put, List.setIfInBounds_toArray, List.set_cons_zero, List.set_cons_succ, i64_w, i32_w]
        rfl
      refine take_ (i := 6) (N := some 19) (v := ?_) (a' := ?_) #[true, true, true, true, true, true, true, true, true, true, false, true, false, false, false, false] rfl rfl (by kernel_rfl) (fun _ _ _ h => h) (Or.inl ⟨by rfl, ?_⟩) hHeld ?_ ?_
      rotate_left
      · rintro w' ⟨s0, s1, s2, s3, s4, s5, s6⟩
        go_simp
        with_reducible rfl
      rotate_left
      · simp only [Act.put, List.setIfInBounds_toArray, List.set_cons_zero, List.set_cons_succ, i64_w, i32_w]
        rfl
      refine take_ (i := 10) (N := some 23) (v := ?_) (a' := ?_) #[true, true, true, true, true, true, true, true, true, true, true, true, false, false, false, false] rfl rfl (by kernel_rfl) (fun _ _ _ h => h) (Or.inl ⟨by rfl, ?_⟩) hHeld ?_ ?_
      rotate_left
      · rintro w' ⟨s0, s1, s2, s3, s4, s5, s6⟩
        go_simp
        with_reducible rfl
      rotate_left
      · simp only [Act.put, List.setIfInBounds_toArray, List.set_cons_zero, List.set_cons_succ, i64_w, i32_w]
        rfl
      refine pure_ (i := 12) (N := some 25) (v := ?_) (a' := ?_) #[true, true, true, true, true, true, true, true, true, true, true, true, true, false, false, false] rfl rfl (by kernel_rfl) (fun _ _ _ h => h) (Or.inl ⟨by rfl, ?_⟩) ?_ ?_
      rotate_left
      · intro w'
        go_simp
        with_reducible rfl
      rotate_left
      · simp only [Act.put, List.setIfInBounds_toArray, List.set_cons_zero, List.set_cons_succ, i64_w, i32_w]
        rfl
      refine take_ (i := 13) (N := some 26) (v := ?_) (a' := ?_) #[true, true, true, true, true, true, true, true, true, true, true, true, true, true, false, false] rfl rfl (by kernel_rfl) (fun _ _ _ h => h) (Or.inl ⟨by rfl, ?_⟩) hHeld ?_ ?_
      rotate_left
      · rintro w' ⟨s0, s1, s2, s3, s4, s5, s6⟩
        go_simp
        with_reducible rfl
      rotate_left
      · simp only [Act.put, List.setIfInBounds_toArray, List.set_cons_zero, List.set_cons_succ, i64_w, i32_w]
        rfl
      refine one_ (i := 14) (N := some 27) #[true, true, true, true, true, true, true, true, true, true, true, true, true, true, true, false] rfl rfl (by kernel_rfl) (by decide) (fun K hK => ?_)
      refine goes_ Try.func98 (by kernel_rfl) rfl #[.slice Av l.length cv, .slice Au l.length cu] (by rfl) rfl rfl (by simp only [List.map_toArray, List.map_cons, List.map_nil]; rfl) ?_
      with_reducible refine (emulsionbook_SameInts.calls (l.length + 1) Av cv l Au cu l true _ hHeld.2.2.2.2.2.1 hle hHeld.2.2.2.2.2.2 hle2 hsm.out).mono ?_
      rintro e w6 ⟨rfl, hd⟩
      refine ⟨_, rfl, ?_⟩
      refine hK.out _ _ ⟨(keepP (drawnB hd) hHeld.1), (keepP (drawnB hd) hHeld.2.1), (keepP (drawnB hd) hHeld.2.2.1), (keepP (drawnB hd) hHeld.2.2.2.1), (below_step hHeld.2.2.2.2.1 (drawnB hd)), (Kd.C_below hHeld.2.2.2.2.2.1 (drawnB hd)), (Kd.C_below hHeld.2.2.2.2.2.2 (drawnB hd))⟩ (fun hHeld => ?_)
      clear hK K
      refine norm_ (a' := ?_) ?_ ?_
      rotate_left
      · show Act.put _ (some 27) _ = _
        simp only [Act.put, List.setIfInBounds_toArray, List.set_cons_zero, List.set_cons_succ, i64_w, i32_w]
        rfl
      refine pure_ (i := 15) (N := some 28) (v := ?_) (a' := ?_) #[true, true, true, true, true, true, true, true, true, true, true, true, true, true, true, true] rfl rfl (by kernel_rfl) (fun _ _ _ h => h) (Or.inl ⟨by rfl, ?_⟩) ?_ ?_
      rotate_left
      · intro w'
        go_simp
        with_reducible rfl
      rotate_left
      · simp only [Act.put, List.setIfInBounds_toArray, List.set_cons_zero, List.set_cons_succ, i64_w, i32_w]
        rfl
      refine done_ (by kernel_rfl) ?_
      have HW5 := Aside0.mk hHeld.2.2.2.2.1
      clear hHeld
      go_wp2_with fail
      go_roundg kk
      case measure => omega
      case rel => exact ⟨k + 1, by omega, by go_num, HW5⟩
    · obtain rfl : k = L.length := by omega
      have hlt' : ¬ (L.length : Int) < (L.length : Int) := by omega
      go_wp2_with fail
      go_ret
      exact ⟨rfl, HW.out⟩
set_option maxRecDepth 100000 in
set_option maxHeartbeats 1600000 in
theorem still_Extents (g base : Nat) (VI UI VS US : Value) (V U : Value) (vs us : List Value) (L : List (List S135)) (w : World) (hb : Blk w g 52 (bookC VI UI VS US V U)) (hP : Pile k135 135 120 w base V U vs us L)
    (hL : L.length ≤ 250) (hB : ∀ (i : Nat) l, L[i]? = some l → l.length ≤ 1000000) :
    Calls Try.prog 61 #[.pointer (some ⟨g, 0, none⟩)] w fun e w' => e = .returned (.bool true) ∧ Below w.heap.size w w' := by
  obtain ⟨A, n, rfl⟩ := row_slice hP.hV
  obtain ⟨AU, nU, rfl⟩ := row_slice hP.hU
  have HB := Aside0.mk hb
  have HP := Aside0.mk hP
  have HBd := Aside0.mk hB
  have HL := Aside0.mk hL
  clear hb hP hB hL
  go_enter Try.func61, Try.ntmps61
  go_wp2_with fail
  go_loopg [3] L.length (fun kq v wq => ∃ k : Nat, k + kq = L.length ∧ v = .int .i64 (k : Int) ∧ Aside0 (Below w.heap.size w wq))
  case atStart => exact ⟨0, by omega, rfl, ⟨Below.refl _ _⟩⟩
  case round =>
    obtain ⟨k, hk, rfl, HW⟩ := hrel
    have hb1 := HB.out.keep HW.out
    have c4 := hb1.cell (i := 6) (v := .slice A L.length n) rfl
    have HB1 := Aside0.mk hb1
    clear hb1
    by_cases hlt : k < L.length
    · have hlt' : (k : Int) < (L.length : Int) := by omega
      have hk' : (k : Int) ≤ 250 := by have := HL.out; omega
      obtain ⟨kk, rfl⟩ : ∃ z, gk = z + 1 := ⟨gk - 1, by omega⟩
      obtain ⟨l, hl⟩ : ∃ l, L[k]? = some l := ⟨_, List.getElem?_eq_getElem hlt⟩
      have hbd := HBd.out k l hl
      obtain ⟨gv, cV, Av, cv, hVe, hcell, _, _, hle, hC⟩ := (HP.out.shelf.below HW.out).at hl
      obtain ⟨gu, cU, Au, cu, hUe, hcell2, _, _, hle2, hC2⟩ := (HP.out.shelfU.below HW.out).at hl
      injection hVe with q1 q2 q3
      injection hUe with q4 q5 q6
      subst q1; subst q3; subst q4; subst q6
      have HCa := Aside0.mk hC
      have HCb := Aside0.mk hC2
      have hcb : HB1.out.cell (i := 7) (v := .slice (some ⟨gu, 0, none⟩) L.length nU) rfl = HB1.out.cell (i := 7) rfl := rfl
      have c5 := HB1.out.cell (i := 7) (v := .slice (some ⟨gu, 0, none⟩) L.length nU) rfl
      have hsm := Aside0.mk (sameExtents_f l (by omega) (l.length + 1) (by omega))
      clear hC hC2 hcb
      go_wp2_with fail
      refine start_ (n := 16) (S := fun w' => w'.cell? ⟨g, 6, none⟩ = some (.slice (some ⟨gv, 0, none⟩) L.length n) ∧ w'.cell? ⟨g, 7, none⟩ = some (.slice (some ⟨gu, 0, none⟩) L.length nU) ∧ w'.cell? ⟨gv, k, none⟩ = some (.slice Av l.length cv) ∧ w'.cell? ⟨gu, k, none⟩ = some (.slice Au l.length cu) ∧ Below w.heap.size w w' ∧ Kd.C k135 w' Av l.length l ∧ Kd.C k135 w' Au l.length l) (ds := []) #[false, false, false, false, false, false, false, false, false, false, false, false, false, false, false, false] (by kernel_rfl) rfl rfl ⟨c4, c5, hcell, hcell2, (below_drew HW.out), (Kd.C_drew HCa.out), (Kd.C_drew HCb.out)⟩ (fun hHeld => ?_)
      refine pure_ (i := 0) (N := some 13) (v := ?_) (a' := ?_) #[true, false, false, false, false, false, false, false, false, false, false, false, false, false, false, false] rfl rfl (by kernel_rfl) (fun _ _ _ h => h) (Or.inl ⟨by rfl, ?_⟩) ?_ ?_
      rotate_left
      · intro w'
        go_simp
        with_reducible rfl
      rotate_left
      · simp only [Act.put, List.setIfInBounds_toArray, List.set_cons_zero, List.set_cons_succ, i64_w, i32_w]
        rfl
      refine pure_ (i := 1) (N := some 14) (v := ?_) (a' := ?_) #[true, true, false, false, false, false, false, false, false, false, false, false, false, false, false, false] rfl rfl (by kernel_rfl) (fun _ _ _ h => h) (Or.inl ⟨by rfl, ?_⟩) ?_ ?_
      rotate_left
      · intro w'
        go_simp
        with_reducible rfl
      rotate_left
      · simp only [Act.put, List.setIfInBounds_toArray, List.set_cons_zero, List.set_cons_succ, i64_w, i32_w]
        rfl
      refine pure_ (i := 2) (N := some 15) (v := ?_) (a' := ?_) #[true, true, true, false, false, false, false, false, false, false, false, false, false, false, false, false] rfl rfl (by kernel_rfl) (fun _ _ _ h => h) (Or.inl ⟨by rfl, ?_⟩) ?_ ?_
      rotate_left
      · intro w'
        go_simp
        with_reducible rfl
      rotate_left
      · simp only [Act.put, List.setIfInBounds_toArray, List.set_cons_zero, List.set_cons_succ, i64_w, i32_w]
        rfl
      refine pure_ (i := 4) (N := some 17) (v := ?_) (a' := ?_) #[true, true, true, false, true, false, false, false, false, false, false, false, false, false, false, false] rfl rfl (by kernel_rfl) (fun _ _ _ h => h) (Or.inl ⟨by rfl, ?_⟩) ?_ ?_
      rotate_left
      · intro w'
        go_simp
        with_reducible rfl
      rotate_left
      · simp only [Act.put, List.setIfInBounds_toArray, List.set_cons_zero, List.set_cons_succ, i64_w, i32_w]
        rfl
      refine pure_ (i := 7) (N := some 20) (v := ?_) (a' := ?_) #[true, true, true, false, true, false, false, true, false, false, false, false, false, false, false, false] rfl rfl (by kernel_rfl) (fun _ _ _ h => h) (Or.inl ⟨by rfl, ?_⟩) ?_ ?_
      rotate_left
      · intro w'
        go_simp
        with_reducible rfl
      rotate_left
      · simp only [Act.put, List.setIfInBounds_toArray, List.set_cons_zero, List.set_cons_succ, i64_w, i32_w]
        rfl
      refine pure_ (i := 8) (N := some 21) (v := ?_) (a' := ?_) #[true, true, true, false, true, false, false, true, true, false, false, false, false, false, false, false] rfl rfl (by kernel_rfl) (fun _ _ _ h => h) (Or.inl ⟨by rfl, ?_⟩) ?_ ?_
      rotate_left
      · intro w'
        go_simp
        with_reducible rfl
      rotate_left
      · simp only [Act.put, List.setIfInBounds_toArray, List.set_cons_zero, List.set_cons_succ, i64_w, i32_w]
        rfl
      refine pure_ (i := 9) (N := some 22) (v := ?_) (a' := ?_) #[true, true, true, false, true, false, false, true, true, true, false, false, false, false, false, false] rfl rfl (by kernel_rfl) (fun _ _ _ h => h) (Or.inl ⟨by rfl, ?_⟩) ?_ ?_
      rotate_left
      · intro w'
        go_simp
        with_reducible rfl
      rotate_left
      · simp only [Act.put, List.setIfInBounds_toArray, List.set_cons_zero, List.set_cons_succ, i64_w, i32_w]
        rfl
      refine pure_ (i := 11) (N := some 24) (v := ?_) (a' := ?_) #[true, true, true, false, true, false, false, true, true, true, false, true, false, false, false, false] rfl rfl (by kernel_rfl) (fun _ _ _ h => h) (Or.inl ⟨by rfl, ?_⟩) ?_ ?_
      rotate_left
      · intro w'
        go_simp
        with_reducible rfl
      rotate_left
      · simp only [Act.put, List.setIfInBounds_toArray, List.set_cons_zero, List.set_cons_succ, i64_w, i32_w]
        rfl
      refine take_ (i := 3) (N := some 16) (v := ?_) (a' := ?_) #[true, true, true, true, true, false, false, true, true, true, false, true, false, false, false, false] rfl rfl (by kernel_rfl) (fun _ _ _ h => h) (Or.inl ⟨by rfl, ?_⟩) hHeld ?_ ?_
      rotate_left
      · rintro w' ⟨s0, s1, s2, s3, s4, s5, s6⟩
        go_simp
        with_reducible rfl
      rotate_left
      · simp only [Act.put, List.setIfInBounds_toArray, List.set_cons_zero, List.set_cons_succ, i64_w, i32_w]
        rfl
      refine pure_ (i := 5) (N := some 18) (v := ?_) (a' := ?_) #[true, true, true, true, true, true, false, true, true, true, false, true, false, false, false, false] rfl rfl (by kernel_rfl) (fun _ _ _ h => h) (Or.inl ⟨by rfl, ?_⟩) ?_ ?_
      rotate_left
      · intro w'
        go_simp
        with_reducible rfl
      rotate_left
      · simp only [Act.put, List.setIfInBounds_toArray, List.set_cons_zero, List.set_cons_succ, i64_w, i32_w]
        rfl
      refine take_ (i := 6) (N := some 19) (v := ?_) (a' := ?_) #[true, true, true, true, true, true, true, true, true, true, false, true, false, false, false, false] rfl rfl (by kernel_rfl) (fun _ _ _ h => h) (Or.inl ⟨by rfl, ?_⟩) hHeld ?_ ?_
      rotate_left
      · rintro w' ⟨s0, s1, s2, s3, s4, s5, s6⟩
        go_simp
        with_reducible rfl
      rotate_left
      · simp only [Act.put, List.setIfInBounds_toArray, List.set_cons_zero, List.set_cons_succ, i64_w, i32_w]
        rfl
      refine take_ (i := 10) (N := some 23) (v := ?_) (a' := ?_) #[true, true, true, true, true, true, true, true, true, true, true, true, false, false, false, false] rfl rfl (by kernel_rfl) (fun _ _ _ h => h) (Or.inl ⟨by rfl, ?_⟩) hHeld ?_ ?_
      rotate_left
      · rintro w' ⟨s0, s1, s2, s3, s4, s5, s6⟩
        go_simp
        with_reducible rfl
      rotate_left
      · simp only [Act.put, List.setIfInBounds_toArray, List.set_cons_zero, List.set_cons_succ, i64_w, i32_w]
        rfl
      refine pure_ (i := 12) (N := some 25) (v := ?_) (a' := ?_) #[true, true, true, true, true, true, true, true, true, true, true, true, true, false, false, false] rfl rfl (by kernel_rfl) (fun _ _ _ h => h) (Or.inl ⟨by rfl, ?_⟩) ?_ ?_
      rotate_left
      · intro w'
        go_simp
        with_reducible rfl
      rotate_left
      · simp only [Act.put, List.setIfInBounds_toArray, List.set_cons_zero, List.set_cons_succ, i64_w, i32_w]
        rfl
      refine take_ (i := 13) (N := some 26) (v := ?_) (a' := ?_) #[true, true, true, true, true, true, true, true, true, true, true, true, true, true, false, false] rfl rfl (by kernel_rfl) (fun _ _ _ h => h) (Or.inl ⟨by rfl, ?_⟩) hHeld ?_ ?_
      rotate_left
      · rintro w' ⟨s0, s1, s2, s3, s4, s5, s6⟩
        go_simp
        with_reducible rfl
      rotate_left
      · simp only [Act.put, List.setIfInBounds_toArray, List.set_cons_zero, List.set_cons_succ, i64_w, i32_w]
        rfl
      refine one_ (i := 14) (N := some 27) #[true, true, true, true, true, true, true, true, true, true, true, true, true, true, true, false] rfl rfl (by kernel_rfl) (by decide) (fun K hK => ?_)
      refine goes_ Try.func99 (by kernel_rfl) rfl #[.slice Av l.length cv, .slice Au l.length cu] (by rfl) rfl rfl (by simp only [List.map_toArray, List.map_cons, List.map_nil]; rfl) ?_
      with_reducible refine (emulsionbook_SameExtents.calls (l.length + 1) Av cv l Au cu l true _ hHeld.2.2.2.2.2.1 hle hHeld.2.2.2.2.2.2 hle2 hsm.out).mono ?_
      rintro e w6 ⟨rfl, hd⟩
      refine ⟨_, rfl, ?_⟩
      refine hK.out _ _ ⟨(keepP (drawnB hd) hHeld.1), (keepP (drawnB hd) hHeld.2.1), (keepP (drawnB hd) hHeld.2.2.1), (keepP (drawnB hd) hHeld.2.2.2.1), (below_step hHeld.2.2.2.2.1 (drawnB hd)), (Kd.C_below hHeld.2.2.2.2.2.1 (drawnB hd)), (Kd.C_below hHeld.2.2.2.2.2.2 (drawnB hd))⟩ (fun hHeld => ?_)
      clear hK K
      refine norm_ (a' := ?_) ?_ ?_
      rotate_left
      · show Act.put _ (some 27) _ = _
        simp only [Act.put, List.setIfInBounds_toArray, List.set_cons_zero, List.set_cons_succ, i64_w, i32_w]
        rfl
      refine pure_ (i := 15) (N := some 28) (v := ?_) (a' := ?_) #[true, true, true, true, true, true, true, true, true, true, true, true, true, true, true, true] rfl rfl (by kernel_rfl) (fun _ _ _ h => h) (Or.inl ⟨by rfl, ?_⟩) ?_ ?_
      rotate_left
      · intro w'
        go_simp
        with_reducible rfl
      rotate_left
      · simp only [Act.put, List.setIfInBounds_toArray, List.set_cons_zero, List.set_cons_succ, i64_w, i32_w]
        rfl
      refine done_ (by kernel_rfl) ?_
      have HW5 := Aside0.mk hHeld.2.2.2.2.1
      clear hHeld
      go_wp2_with fail
      go_roundg kk
      case measure => omega
      case rel => exact ⟨k + 1, by omega, by go_num, HW5⟩
    · obtain rfl : k = L.length := by omega
      have hlt' : ¬ (L.length : Int) < (L.length : Int) := by omega
      go_wp2_with fail
      go_ret
      exact ⟨rfl, HW.out⟩
end Go.Proofs.Ytffemlfdhkndiaa.Hand
end
section
namespace Go.Proofs.Ytffemlfdhkndiaa.Hand
open Go.RowKit Go.Proofs.YtffemlfdhkndiaaW.PrintWords Go.Proofs.YtffemlfdhkndiaaW.PrintLast Go.Proofs.YtffemlfdhkndiaaW.PrintMore Go.Proofs.Ytffemlfdhkndiaa.A
set_option linter.unusedVariables false
set_option linter.unusedSimpArgs false
attribute [local go_sem] max2_int min2_int max_two min_two max_three min_three max_four min_four
set_option maxRecDepth 100000 in
set_option maxHeartbeats 800000 in
theorem still_nil_Texts (g : Nat) (cs : Array Value) (w : World) (hb : Blk w g 52 cs) (hc : cs[0]? = some (.slice none 0 0)) :
    Calls Try.prog 58 #[.pointer (some ⟨g, 0, none⟩)] w fun e w' => e = .returned (.bool true) ∧ w' = w := by
  have c4 := hb.cell (i := 0) (v := .slice none 0 0) hc
  clear hb
  go_enter Try.func58, Try.ntmps58
  go_wp2_with fail
  go_loopg [3] 0 (fun kq v wq => v = .int .i64 0 ∧ wq = w)
  case atStart => exact ⟨rfl, rfl⟩
  case round =>
    obtain ⟨rfl, rfl⟩ := hrel
    go_wp2_with fail
    go_ret
    exact ⟨rfl, rfl⟩
set_option maxRecDepth 100000 in
set_option maxHeartbeats 800000 in
theorem put_nil_Texts (g : Nat) (cs : Array Value) (w : World) (hb : Blk w g 52 cs) (hc : cs[0]? = some (.slice none 0 0)) :
    Calls Try.prog 66 #[.pointer (some ⟨g, 0, none⟩)] w fun e w' => e = .returned (.tuple #[]) ∧ w' = w := by
  have c4 := hb.cell (i := 0) (v := .slice none 0 0) hc
  clear hb
  go_enter Try.func66, Try.ntmps66
  go_wp2_with fail
  go_loopg [2] 0 (fun kq v wq => v = .int .i64 0 ∧ wq = w)
  case atStart => exact ⟨rfl, rfl⟩
  case round =>
    obtain ⟨rfl, rfl⟩ := hrel
    go_wp2_with fail
    go_end0
    exact ⟨rfl, rfl⟩
set_option maxRecDepth 100000 in
set_option maxHeartbeats 800000 in
theorem grow_nil_Texts (g : Nat) (cs : Array Value) (w : World) (hb : Blk w g 52 cs) (hc : cs[0]? = some (.slice none 0 0)) :
    Calls Try.prog 72 #[.pointer (some ⟨g, 0, none⟩)] w fun e w' => e = .returned (.slice none 0 0) ∧ w' = w := by
  have c4 := hb.cell (i := 0) (v := .slice none 0 0) hc
  clear hb
  go_enter Try.func72, Try.ntmps72
  go_wp2_with fail
  go_loopg [3, 4] 0 (fun kq o v wq => v = .int .i64 0 ∧ wq = w ∧ o = .slice none 0 0)
  case atStart => exact ⟨rfl, rfl, rfl⟩
  case round =>
    obtain ⟨rfl, rfl, rfl⟩ := hrel
    go_wp2_with fail
    go_ret
    exact ⟨rfl, rfl⟩
set_option maxRecDepth 100000 in
set_option maxHeartbeats 800000 in
theorem marked_nil_Texts (w : World) :
    Calls Try.prog 79 #[.slice none 0 0] w fun e w' => e = .returned (.bool true) ∧ w' = w := by
  go_enter Try.func79, Try.ntmps79
  go_wp2_with fail
  go_loopg [3] 0 (fun kq v wq => v = .int .i64 0 ∧ wq = w)
  case atStart => exact ⟨rfl, rfl⟩
  case round =>
    obtain ⟨rfl, rfl⟩ := hrel
    go_wp2_with fail
    go_ret
    exact ⟨rfl, rfl⟩
set_option maxRecDepth 100000 in
set_option maxHeartbeats 800000 in
theorem still_nil_Shelves (g : Nat) (cs : Array Value) (w : World) (hb : Blk w g 52 cs) (hc : cs[8]? = some (.slice none 0 0)) :
    Calls Try.prog 62 #[.pointer (some ⟨g, 0, none⟩)] w fun e w' => e = .returned (.bool true) ∧ w' = w := by
  have c4 := hb.cell (i := 8) (v := .slice none 0 0) hc
  clear hb
  go_enter Try.func62, Try.ntmps62
  go_wp2_with fail
  go_loopg [3] 0 (fun kq v wq => v = .int .i64 0 ∧ wq = w)
  case atStart => exact ⟨rfl, rfl⟩
  case round =>
    obtain ⟨rfl, rfl⟩ := hrel
    go_wp2_with fail
    go_ret
    exact ⟨rfl, rfl⟩
set_option maxRecDepth 100000 in
set_option maxHeartbeats 800000 in
theorem put_nil_Shelves (g : Nat) (cs : Array Value) (w : World) (hb : Blk w g 52 cs) (hc : cs[8]? = some (.slice none 0 0)) :
    Calls Try.prog 70 #[.pointer (some ⟨g, 0, none⟩)] w fun e w' => e = .returned (.tuple #[]) ∧ w' = w := by
  have c4 := hb.cell (i := 8) (v := .slice none 0 0) hc
  clear hb
  go_enter Try.func70, Try.ntmps70
  go_wp2_with fail
  go_loopg [2] 0 (fun kq v wq => v = .int .i64 0 ∧ wq = w)
  case atStart => exact ⟨rfl, rfl⟩
  case round =>
    obtain ⟨rfl, rfl⟩ := hrel
    go_wp2_with fail
    go_end0
    exact ⟨rfl, rfl⟩
set_option maxRecDepth 100000 in
set_option maxHeartbeats 800000 in
theorem grow_nil_Shelves (g : Nat) (cs : Array Value) (w : World) (hb : Blk w g 52 cs) (hc : cs[8]? = some (.slice none 0 0)) :
    Calls Try.prog 76 #[.pointer (some ⟨g, 0, none⟩)] w fun e w' => e = .returned (.slice none 0 0) ∧ w' = w := by
  have c4 := hb.cell (i := 8) (v := .slice none 0 0) hc
  clear hb
  go_enter Try.func76, Try.ntmps76
  go_wp2_with fail
  go_loopg [3, 4] 0 (fun kq o v wq => v = .int .i64 0 ∧ wq = w ∧ o = .slice none 0 0)
  case atStart => exact ⟨rfl, rfl, rfl⟩
  case round =>
    obtain ⟨rfl, rfl, rfl⟩ := hrel
    go_wp2_with fail
    go_ret
    exact ⟨rfl, rfl⟩
set_option maxRecDepth 100000 in
set_option maxHeartbeats 800000 in
theorem marked_nil_Shelves (w : World) :
    Calls Try.prog 83 #[.slice none 0 0] w fun e w' => e = .returned (.bool true) ∧ w' = w := by
  go_enter Try.func83, Try.ntmps83
  go_wp2_with fail
  go_loopg [3] 0 (fun kq v wq => v = .int .i64 0 ∧ wq = w)
  case atStart => exact ⟨rfl, rfl⟩
  case round =>
    obtain ⟨rfl, rfl⟩ := hrel
    go_wp2_with fail
    go_ret
    exact ⟨rfl, rfl⟩
set_option maxRecDepth 100000 in
set_option maxHeartbeats 800000 in
theorem still_nil_Pairs (g : Nat) (cs : Array Value) (w : World) (hb : Blk w g 52 cs) (hc : cs[10]? = some (.slice none 0 0)) :
    Calls Try.prog 63 #[.pointer (some ⟨g, 0, none⟩)] w fun e w' => e = .returned (.bool true) ∧ w' = w := by
  have c4 := hb.cell (i := 10) (v := .slice none 0 0) hc
  clear hb
  go_enter Try.func63, Try.ntmps63
  go_wp2_with fail
  go_loopg [3] 0 (fun kq v wq => v = .int .i64 0 ∧ wq = w)
  case atStart => exact ⟨rfl, rfl⟩
  case round =>
    obtain ⟨rfl, rfl⟩ := hrel
    go_wp2_with fail
    go_ret
    exact ⟨rfl, rfl⟩
set_option maxRecDepth 100000 in
set_option maxHeartbeats 800000 in
theorem put_nil_Pairs (g : Nat) (cs : Array Value) (w : World) (hb : Blk w g 52 cs) (hc : cs[10]? = some (.slice none 0 0)) :
    Calls Try.prog 71 #[.pointer (some ⟨g, 0, none⟩)] w fun e w' => e = .returned (.tuple #[]) ∧ w' = w := by
  have c4 := hb.cell (i := 10) (v := .slice none 0 0) hc
  clear hb
  go_enter Try.func71, Try.ntmps71
  go_wp2_with fail
  go_loopg [2] 0 (fun kq v wq => v = .int .i64 0 ∧ wq = w)
  case atStart => exact ⟨rfl, rfl⟩
  case round =>
    obtain ⟨rfl, rfl⟩ := hrel
    go_wp2_with fail
    go_end0
    exact ⟨rfl, rfl⟩
set_option maxRecDepth 100000 in
set_option maxHeartbeats 800000 in
theorem grow_nil_Pairs (g : Nat) (cs : Array Value) (w : World) (hb : Blk w g 52 cs) (hc : cs[10]? = some (.slice none 0 0)) :
    Calls Try.prog 77 #[.pointer (some ⟨g, 0, none⟩)] w fun e w' => e = .returned (.slice none 0 0) ∧ w' = w := by
  have c4 := hb.cell (i := 10) (v := .slice none 0 0) hc
  clear hb
  go_enter Try.func77, Try.ntmps77
  go_wp2_with fail
  go_loopg [3, 4] 0 (fun kq o v wq => v = .int .i64 0 ∧ wq = w ∧ o = .slice none 0 0)
  case atStart => exact ⟨rfl, rfl, rfl⟩
  case round =>
    obtain ⟨rfl, rfl, rfl⟩ := hrel
    go_wp2_with fail
    go_ret
    exact ⟨rfl, rfl⟩
set_option maxRecDepth 100000 in
set_option maxHeartbeats 800000 in
theorem marked_nil_Pairs (w : World) :
    Calls Try.prog 84 #[.slice none 0 0] w fun e w' => e = .returned (.bool true) ∧ w' = w := by
  go_enter Try.func84, Try.ntmps84
  go_wp2_with fail
  go_loopg [3] 0 (fun kq v wq => v = .int .i64 0 ∧ wq = w)
  case atStart => exact ⟨rfl, rfl⟩
  case round =>
    obtain ⟨rfl, rfl⟩ := hrel
    go_wp2_with fail
    go_ret
    exact ⟨rfl, rfl⟩
set_option maxRecDepth 100000 in
set_option maxHeartbeats 800000 in
theorem still_nil_Points (g : Nat) (cs : Array Value) (w : World) (hb : Blk w g 52 cs) (hc : cs[12]? = some (.slice none 0 0)) :
    Calls Try.prog 64 #[.pointer (some ⟨g, 0, none⟩)] w fun e w' => e = .returned (.bool true) ∧ w' = w := by
  have c4 := hb.cell (i := 12) (v := .slice none 0 0) hc
  clear hb
  go_enter Try.func64, Try.ntmps64
  go_wp2_with fail
  go_loopg [3] 0 (fun kq v wq => v = .int .i64 0 ∧ wq = w)
  case atStart => exact ⟨rfl, rfl⟩
  case round =>
    obtain ⟨rfl, rfl⟩ := hrel
    go_wp2_with fail
    go_ret
    exact ⟨rfl, rfl⟩
set_option maxRecDepth 100000 in
set_option maxHeartbeats 800000 in
theorem put_nil_Points (g : Nat) (cs : Array Value) (w : World) (hb : Blk w g 52 cs) (hc : cs[12]? = some (.slice none 0 0)) :
    Calls Try.prog 65 #[.pointer (some ⟨g, 0, none⟩)] w fun e w' => e = .returned (.tuple #[]) ∧ w' = w := by
  have c4 := hb.cell (i := 12) (v := .slice none 0 0) hc
  clear hb
  go_enter Try.func65, Try.ntmps65
  go_wp2_with fail
  go_loopg [2] 0 (fun kq v wq => v = .int .i64 0 ∧ wq = w)
  case atStart => exact ⟨rfl, rfl⟩
  case round =>
    obtain ⟨rfl, rfl⟩ := hrel
    go_wp2_with fail
    go_end0
    exact ⟨rfl, rfl⟩
set_option maxRecDepth 100000 in
set_option maxHeartbeats 800000 in
theorem grow_nil_Points (g : Nat) (cs : Array Value) (w : World) (hb : Blk w g 52 cs) (hc : cs[12]? = some (.slice none 0 0)) :
    Calls Try.prog 78 #[.pointer (some ⟨g, 0, none⟩)] w fun e w' => e = .returned (.slice none 0 0) ∧ w' = w := by
  have c4 := hb.cell (i := 12) (v := .slice none 0 0) hc
  clear hb
  go_enter Try.func78, Try.ntmps78
  go_wp2_with fail
  go_loopg [3, 4] 0 (fun kq o v wq => v = .int .i64 0 ∧ wq = w ∧ o = .slice none 0 0)
  case atStart => exact ⟨rfl, rfl, rfl⟩
  case round =>
    obtain ⟨rfl, rfl, rfl⟩ := hrel
    go_wp2_with fail
    go_ret
    exact ⟨rfl, rfl⟩
set_option maxRecDepth 100000 in
set_option maxHeartbeats 800000 in
theorem marked_nil_Points (w : World) :
    Calls Try.prog 85 #[.slice none 0 0] w fun e w' => e = .returned (.bool true) ∧ w' = w := by
  go_enter Try.func85, Try.ntmps85
  go_wp2_with fail
  go_loopg [3] 0 (fun kq v wq => v = .int .i64 0 ∧ wq = w)
  case atStart => exact ⟨rfl, rfl⟩
  case round =>
    obtain ⟨rfl, rfl⟩ := hrel
    go_wp2_with fail
    go_ret
    exact ⟨rfl, rfl⟩
end Go.Proofs.Ytffemlfdhkndiaa.Hand
end
section
namespace Go.Proofs.Ytffemlfdhkndiaa.Hand
open Go.RowKit Go.Proofs.YtffemlfdhkndiaaW.PrintWords Go.Proofs.YtffemlfdhkndiaaW.PrintLast Go.Proofs.YtffemlfdhkndiaaW.PrintMore Go.Proofs.Ytffemlfdhkndiaa.A
set_option linter.unusedVariables false
set_option linter.unusedSimpArgs false
attribute [local go_sem] max2_int min2_int max_two min_two max_three min_three max_four min_four
section
variable {α : Type} (mk : Nat → Nat → α)
/-- So many lists are marked; and so many elements of the next one. -/
def putF (i : Nat) : Nat → List α → List α := fun j l => if j < i then marks mk j 0 l.length else l
def putG (i k : Nat) : Nat → List α → List α := fun j l => if j < i then marks mk j 0 l.length else if j = i then marks mk i 0 k ++ l.drop k else l
theorem putF_zero (j : Nat) (l : List α) : putF mk 0 j l = l := if_neg (Nat.not_lt_zero _)
theorem putF_self (i : Nat) (l : List α) : putF mk i i l = l := if_neg (Nat.lt_irrefl _)
theorem putF_all (n j : Nat) (l : List α) (h : j < n) : putF mk n j l = marks mk j 0 l.length := if_pos h
theorem putG_zero (i j : Nat) (l : List α) : putG mk i 0 j l = putF mk i j l := by
  unfold putG putF
  split
  · rfl
  · split
    · rfl
    · rfl
theorem putG_self (i k : Nat) (l : List α) : putG mk i k i l = marks mk i 0 k ++ l.drop k := by unfold putG; rw [if_neg (Nat.lt_irrefl _), if_pos rfl]
theorem putG_len (i k : Nat) (l : List α) (h : k ≤ l.length) : (putG mk i k i l).length = l.length := by rw [putG_self, List.length_append, marks_length, List.length_drop]; omega
theorem putG_other (i k m j : Nat) (l : List α) (h : j ≠ i) : putG mk i k j l = putG mk i m j l := by unfold putG; rw [if_neg h, if_neg h]
theorem putG_next (i k : Nat) (l : List α) (h : k < l.length) : putG mk i (k + 1) i l = (putG mk i k i l).set k (mk i k) := by rw [putG_self, putG_self, marks_set mk i l k h]
theorem putG_full {L : List (List α)} {i : Nat} {l : List α} (hl : L[i]? = some l) (j : Nat) (x : List α) (hx : L[j]? = some x) : putF mk (i + 1) j x = putG mk i l.length j x := by
  unfold putF putG
  by_cases h1 : j < i
  · rw [if_pos (by omega), if_pos h1]
  · rw [if_neg h1]
    by_cases h2 : j = i
    · subst h2
      rw [hl] at hx; injection hx with hx; subst hx
      rw [if_pos (by omega), if_pos rfl, List.drop_length, List.append_nil]
    · rw [if_neg (by omega), if_neg h2]
end
theorem row_at0 {α : Type} {d : Kd α} {e base : Nat} {w : World} {ok : Nat → Prop} {A : Option Addr} {n c : Nat} {xs : List α} (h : d.R e w base ok (.slice A n c) xs) (hn : 0 < xs.length) : ∃ g, A = some ⟨g, 0, none⟩ ∧ base ≤ g ∧ g < w.heap.size ∧ d.C w (some ⟨g, 0, none⟩) xs.length xs := by
  obtain ⟨g, c', he, h1, h2, h3⟩ := row_at h hn
  injection he with q1 q2 q3
  exact ⟨g, q1, h1, h2, h3⟩
theorem C_at0 {α : Type} {d : Kd α} {w : World} {g n k : Nat} {xs : List α} {x : α} (h : d.C w (some ⟨g, 0, none⟩) n xs) (hx : xs[k]? = some x) : ∃ c, d.K w x c ∧ ∀ j u, c[j]? = some u → w.cell? ⟨g, k * d.sz + j, none⟩ = some u := by
  have hk : k < n := by have := (List.getElem?_eq_some_iff.1 hx).1; have := h.1; omega
  obtain ⟨ad, he, hp⟩ := h.2.2 (by omega)
  injection he with he
  subst he
  obtain ⟨c, _, hK, hc⟩ := hp k x hx
  exact ⟨c, hK, fun j u hu => by have := hc j u hu; rw [add_zero0] at this; exact this⟩
set_option maxRecDepth 100000 in
set_option maxHeartbeats 3200000 in
theorem put_Spans (g base : Nat) (VI UI VE UE : Value) (V U : Value) (vs : List Value) (L : List (List S31)) (w : World) (hb : Blk w g 52 (bookC VI UI V U VE UE)) (hS : Shelf k31 31 22 w base V vs L (fun _ l => l))
    (hL : L.length ≤ 250) (hB : ∀ (i : Nat) l, L[i]? = some l → l.length ≤ 1000000) (hbase : base ≤ w.heap.size) :
    Calls Try.prog 68 #[.pointer (some ⟨g, 0, none⟩)] w fun e w' => e = .returned (.tuple #[]) ∧ Shelf k31 31 22 w' base V vs L (fun i l => marks mkSpans i 0 l.length) ∧ FxT 31 base w w' := by
  obtain ⟨A, n, rfl⟩ := row_slice hS.hV
  have HB := Aside0.mk hb
  have HS := Aside0.mk (hS.congr (F' := putF mkSpans 0) (fun i l _ => putF_zero _ i l))
  have HBd := Aside0.mk hB
  have HL := Aside0.mk hL
  have Hbase := Aside0.mk hbase
  clear hb hS hB hL hbase
  go_enter Try.func68, Try.ntmps68
  go_wp2_with fail
  go_loopg [2] L.length (fun kq v wq => ∃ i : Nat, i + kq = L.length ∧ v = .int .i64 (i : Int) ∧ Aside0 (Shelf k31 31 22 wq base (.slice A L.length n) vs L (putF mkSpans i)) ∧ Aside0 (FxT 31 base w wq))
  case atStart => exact ⟨0, by omega, rfl, HS, ⟨FxT.refl _ _ _⟩⟩
  case round =>
    clear HS
    obtain ⟨i, hi, rfl, HS, HX⟩ := hrel
    have hb1 := HX.out.blk HB.out (by decide)
    have c4 := hb1.cell (i := 4) (v := .slice A L.length n) rfl
    clear hb1
    by_cases hlt : i < L.length
    · have hlt' : (i : Int) < (L.length : Int) := by omega
      have hi' : (i : Int) ≤ 250 := by have := HL.out; omega
      have hi2 : i ≤ 250 := by omega
      obtain ⟨kk, rfl⟩ : ∃ z, gk = z + 1 := ⟨gk - 1, by omega⟩
      obtain ⟨l, hl⟩ : ∃ l, L[i]? = some l := ⟨_, List.getElem?_eq_getElem hlt⟩
      have hbd := HBd.out i l hl
      obtain ⟨gv, cV, Av, cv, hVe, hcell, hvs, hR, hle, _⟩ := HS.out.at hl
      rw [putF_self] at hcell hvs hle hR
      have hvlt := Aside0.mk (Kd.R_lt hR)
      clear hR
      injection hVe with q1 q2 q3
      subst q1; subst q3
      have hmk := Aside0.mk (markSpans_f i 0 l.length (l.length + 1) (by omega) (by omega) (by omega))
      go_wp2_with fail
      refine (emulsionbook_markSpans.calls (l.length + 1) (i : Int) 0 (l.length : Int) _ _ hmk.out).mono ?_
      rintro e w2 ⟨vm, rfl, hrm, hbm⟩
      obtain ⟨Am, cm, hvm, hcm, _⟩ := Kd.R_reads hrm
      rw [marks_length] at hvm hcm
      subst hvm
      have HM := Aside0.mk hrm
      have HS2 := Aside0.mk ((HS.out.below hbm).congr (F' := putG mkSpans i 0) (fun j x _ => putG_zero _ i j x))
      have HX2 := Aside0.mk (HX.out.below hbm Hbase.out)
      clear hrm hcell hbm HS HX c4
      obtain ⟨B0, hB0⟩ : ∃ b, b = wr.heap.size := ⟨_, rfl⟩
      rw [← hB0] at HM hvlt
      clear hB0
      have hcmx := Aside0.mk hcm
      clear hcm
      go_wp2_with fail
      go_loopg [4] l.length (fun kq v wq => ∃ k : Nat, k + kq = l.length ∧ v = .int .i64 (k : Int) ∧ Aside0 (Shelf k31 31 22 wq base (.slice (some ⟨gv, 0, none⟩) L.length n) vs L (putG mkSpans i k)) ∧ Aside0 (FxT 31 base w wq) ∧ Aside0 (Kd.R k31 31 wq B0 (fun _ => True) (.slice Am l.length cm) (marks mkSpans i 0 l.length)))
      case atStart => exact ⟨0, by omega, rfl, HS2, HX2, HM⟩
      case round =>
        clear HS2 HX2 HM
        obtain ⟨k, hk, rfl, HS, HX, HM⟩ := hrel
        by_cases hk1 : k < l.length
        · have hk2 : (k : Int) < (l.length : Int) := by omega
          have hk3 : (k : Int) ≤ 1000000 := by omega
          obtain ⟨kz, rfl⟩ : ∃ z, gk = z + 1 := ⟨gk - 1, by omega⟩
          obtain ⟨gv', cV', Av', cv', hVe, hcell, hvs', hR, hle', _⟩ := HS.out.at hl
          rw [putG_len mkSpans i k l (by omega)] at hcell hvs' hle' hR
          rw [hvs] at hvs'
          injection hvs' with hvs'; injection hvs' with q1 q2 q3
          injection hVe with q4 q5 q6
          injection q4 with q4; injection q4 with q4
          subst q1; subst q3; subst q4; subst q6
          obtain ⟨gl, hAv, hgl1, hgl2, _⟩ := row_at0 hR (by rw [putG_len mkSpans i k l (by omega)]; omega)
          obtain ⟨gm, hAm, hgm1, hgm2, hCm⟩ := row_at0 HM.out (by rw [marks_length]; omega)
          subst hAv; subst hAm
          obtain ⟨cm_, hK, hcm⟩ := C_at0 hCm (marks_get mkSpans i l.length 0 k hk1)
          rw [Nat.zero_add] at hK
          obtain rfl := k31_open hK
          have hm0 := hcm 0 _ rfl
          rw [show k * k31.sz + 0 = k * 2 from by show k * 2 + 0 = k * 2; omega] at hm0
          have hm1 := hcm 1 _ rfl
          rw [show k * k31.sz + 1 = k * 2 + 1 from by show k * 2 + 1 = k * 2 + 1; omega] at hm1
          have hb1 := HX.out.blk HB.out (by decide)
          have c4 := hb1.cell (i := 4) (v := .slice (some ⟨gv, 0, none⟩) L.length n) rfl
          have HR := Aside0.mk hR
          clear hb1 hCm hcm hR
          try clear hK
          go_wp2_with fail
          refine start_ (n := 14) (S := fun w' => w'.cell? ⟨g, 4, none⟩ = some (.slice (some ⟨gv, 0, none⟩) L.length n) ∧ w'.cell? ⟨gv, i, none⟩ = some (.slice (some ⟨gl, 0, none⟩) l.length cv) ∧ w'.cell? ⟨gm, k * 2, none⟩ = some (.int .i64 (mkSpans i k).f0) ∧ w'.cell? ⟨gm, k * 2 + 1, none⟩ = some (.int .i64 (mkSpans i k).f1) ∧ Shelf k31 31 22 w' base (.slice (some ⟨gv, 0, none⟩) L.length n) vs L (putG mkSpans i k) ∧ FxT 31 base w w' ∧ Kd.R k31 31 w' B0 (fun _ => True) (.slice (some ⟨gm, 0, none⟩) l.length cm) (marks mkSpans i 0 l.length) ∧ Kd.R k31 31 w' base (fun _ => True) (.slice (some ⟨gl, 0, none⟩) l.length cv) (putG mkSpans i k i l)) (ds := [13]) #[false, false, false, false, false, false, false, false, false, false, false, false, false, false] (by kernel_rfl) rfl rfl ⟨c4, hcell, hm0, hm1, (HS.out.below (below_drew (Below.refl _ _))), HX.out.drew, (Kd.R_drew HM.out), (Kd.R_drew HR.out)⟩ (fun hHeld => ?_)
          refine pure_ (i := 0) (N := some 30) (v := ?_) (a' := ?_) #[true, false, false, false, false, false, false, false, false, false, false, false, false, false] rfl rfl (by kernel_rfl) (fun _ _ _ h => h) (Or.inl ⟨by rfl, ?_⟩) ?_ ?_
          rotate_left
          · intro w'
            go_simp
            with_reducible rfl
          rotate_left
          · simp only [Act.put, List.setIfInBounds_toArray, List.set_cons_zero, List.set_cons_succ, i64_w, i32_w]
            rfl
          refine pure_ (i := 1) (N := some 31) (v := ?_) (a' := ?_) #[true, true, false, false, false, false, false, false, false, false, false, false, false, false] rfl rfl (by kernel_rfl) (fun _ _ _ h => h) (Or.inl ⟨by rfl, ?_⟩) ?_ ?_
          rotate_left
          · intro w'
            go_simp
            with_reducible rfl
          rotate_left
          · simp only [Act.put, List.setIfInBounds_toArray, List.set_cons_zero, List.set_cons_succ, i64_w, i32_w]
            rfl
          refine pure_ (i := 2) (N := some 32) (v := ?_) (a' := ?_) #[true, true, true, false, false, false, false, false, false, false, false, false, false, false] rfl rfl (by kernel_rfl) (fun _ _ _ h => h) (Or.inl ⟨by rfl, ?_⟩) ?_ ?_
          rotate_left
          · intro w'
            go_simp
            with_reducible rfl
          rotate_left
          · simp only [Act.put, List.setIfInBounds_toArray, List.set_cons_zero, List.set_cons_succ, i64_w, i32_w]
            rfl
          refine pure_ (i := 4) (N := some 34) (v := ?_) (a' := ?_) #[true, true, true, false, true, false, false, false, false, false, false, false, false, false] rfl rfl (by kernel_rfl) (fun _ _ _ h => h) (Or.inl ⟨by rfl, ?_⟩) ?_ ?_
          rotate_left
          · intro w'
            go_simp
            with_reducible rfl
          rotate_left
          · simp only [Act.put, List.setIfInBounds_toArray, List.set_cons_zero, List.set_cons_succ, i64_w, i32_w]
            rfl
          refine pure_ (i := 7) (N := some 37) (v := ?_) (a' := ?_) #[true, true, true, false, true, false, false, true, false, false, false, false, false, false] rfl rfl (by kernel_rfl) (fun _ _ _ h => h) (Or.inl ⟨by rfl, ?_⟩) ?_ ?_
          rotate_left
          · intro w'
            go_simp
            with_reducible rfl
          rotate_left
          · simp only [Act.put, List.setIfInBounds_toArray, List.set_cons_zero, List.set_cons_succ, i64_w, i32_w]
            rfl
          refine pure_ (i := 8) (N := some 38) (v := ?_) (a' := ?_) #[true, true, true, false, true, false, false, true, true, false, false, false, false, false] rfl rfl (by kernel_rfl) (fun _ _ _ h => h) (Or.inl ⟨by rfl, ?_⟩) ?_ ?_
          rotate_left
          · intro w'
            go_simp
            with_reducible rfl
          rotate_left
          · simp only [Act.put, List.setIfInBounds_toArray, List.set_cons_zero, List.set_cons_succ, i64_w, i32_w]
            rfl
          refine pure_ (i := 9) (N := some 39) (v := ?_) (a' := ?_) #[true, true, true, false, true, false, false, true, true, true, false, false, false, false] rfl rfl (by kernel_rfl) (fun _ _ _ h => h) (Or.inl ⟨by rfl, ?_⟩) ?_ ?_
          rotate_left
          · intro w'
            go_simp
            with_reducible rfl
          rotate_left
          · simp only [Act.put, List.setIfInBounds_toArray, List.set_cons_zero, List.set_cons_succ, i64_w, i32_w]
            rfl
          refine pure_ (i := 10) (N := some 40) (v := ?_) (a' := ?_) #[true, true, true, false, true, false, false, true, true, true, true, false, false, false] rfl rfl (by kernel_rfl) (fun _ _ _ h => h) (Or.inl ⟨by rfl, ?_⟩) ?_ ?_
          rotate_left
          · intro w'
            go_simp
            with_reducible rfl
          rotate_left
          · simp only [Act.put, List.setIfInBounds_toArray, List.set_cons_zero, List.set_cons_succ, i64_w, i32_w]
            rfl
          refine take_ (i := 3) (N := some 33) (v := ?_) (a' := ?_) #[true, true, true, true, true, false, false, true, true, true, true, false, false, false] rfl rfl (by kernel_rfl) (fun _ _ _ h => h) (Or.inl ⟨by rfl, ?_⟩) hHeld ?_ ?_
          rotate_left
          · rintro w' ⟨s0, s1, s2, s3, s4, s5, s6, s7⟩
            go_simp
            with_reducible rfl
          rotate_left
          · simp only [Act.put, List.setIfInBounds_toArray, List.set_cons_zero, List.set_cons_succ, i64_w, i32_w]
            rfl
          refine pure_ (i := 5) (N := some 35) (v := ?_) (a' := ?_) #[true, true, true, true, true, true, false, true, true, true, true, false, false, false] rfl rfl (by kernel_rfl) (fun _ _ _ h => h) (Or.inl ⟨by rfl, ?_⟩) ?_ ?_
          rotate_left
          · intro w'
            go_simp
            with_reducible rfl
          rotate_left
          · simp only [Act.put, List.setIfInBounds_toArray, List.set_cons_zero, List.set_cons_succ, i64_w, i32_w]
            rfl
          refine take_ (i := 6) (N := some 36) (v := ?_) (a' := ?_) #[true, true, true, true, true, true, true, true, true, true, true, false, false, false] rfl rfl (by kernel_rfl) (fun _ _ _ h => h) (Or.inl ⟨by rfl, ?_⟩) hHeld ?_ ?_
          rotate_left
          · rintro w' ⟨s0, s1, s2, s3, s4, s5, s6, s7⟩
            go_simp
            with_reducible rfl
          rotate_left
          · simp only [Act.put, List.setIfInBounds_toArray, List.set_cons_zero, List.set_cons_succ, i64_w, i32_w]
            rfl
          refine take_ (i := 11) (N := some 41) (v := ?_) (a' := ?_) #[true, true, true, true, true, true, true, true, true, true, true, true, false, false] rfl rfl (by kernel_rfl) (fun _ _ _ h => h) (Or.inl ⟨by rfl, ?_⟩) hHeld ?_ ?_
          rotate_left
          · rintro w' ⟨s0, s1, s2, s3, s4, s5, s6, s7⟩
            go_simp
            with_reducible rfl
          rotate_left
          · simp only [Act.put, List.setIfInBounds_toArray, List.set_cons_zero, List.set_cons_succ, i64_w, i32_w]
            rfl
          refine pure_ (i := 12) (N := some 42) (v := ?_) (a' := ?_) #[true, true, true, true, true, true, true, true, true, true, true, true, true, false] rfl rfl (by kernel_rfl) (fun _ _ _ h => h) (Or.inl ⟨by rfl, ?_⟩) ?_ ?_
          rotate_left
          · intro w'
            go_simp
            with_reducible rfl
          rotate_left
          · simp only [Act.put, List.setIfInBounds_toArray, List.set_cons_zero, List.set_cons_succ, i64_w, i32_w]
            rfl
          refine last_ (i := 13) (N := none) #[true, true, true, true, true, true, true, true, true, true, true, true, true, true] rfl rfl (by kernel_rfl) (by decide) (fun K hK => ?_)
          refine Kd.R_store_step k31 (w0 := w) base (by rfl) 31 (.tmp 42) (.tmp 41) (by rfl) 31 k (putG mkSpans i k i l) (mkSpans i k) (.agg #[.int .i64 (mkSpans i k).f0, .int .i64 (mkSpans i k).f1]) [.int .i64 (mkSpans i k).f0, .int .i64 (mkSpans i k).f1] (fun _ => True) (fun _ => False) (by rfl) (by rfl) (by rfl) (by rfl) (by kernel_rfl) (by rfl) (by simp [Value.oneCell']) hHeld.2.2.2.2.2.2.2 hk1 (k31_mkM _ _ _ _) (fun _ h => h.elim) ?_ _
          intro w7 hR7 hG7
          refine hK.out _ _ ?_
          clear hK K
          refine done_ (by kernel_rfl) ?_
          have HS7 := Aside0.mk (hHeld.2.2.2.2.1.set (F' := putG mkSpans i (k + 1)) rfl (by decide) (hHeld.2.2.2.2.2.1.base_le Hbase.out) hl hvs (by rw [putG_next mkSpans i k l hk1]; exact hR7) hG7 (fun j x hj _ => putG_other mkSpans i (k + 1) k j x hj))
          have HX7 := Aside0.mk (hHeld.2.2.2.2.2.1.trans (hHeld.2.2.2.2.1.grownFx hvs hl (hHeld.2.2.2.2.2.1.base_le Hbase.out) hG7))
          have HM7 := Aside0.mk (R_moved rfl hHeld.2.2.2.2.2.2.1 (fun q hq => hG7.block q (Kd.R_lt hHeld.2.2.2.2.2.2.1 q hq) (fun e => by
            injection e with e
            subst e
            have h1 : q < B0 := hvlt.out _ rfl
            have h2 := Kd.R_base hHeld.2.2.2.2.2.2.1 _ hq
            omega)))
          clear hHeld hR7 hG7
          go_wp2_with fail
          go_roundg kz
          case measure => omega
          case rel => exact ⟨k + 1, by omega, by go_num, HS7, HX7, HM7⟩
        · obtain rfl : k = l.length := by omega
          have hk2 : ¬ (l.length : Int) < (l.length : Int) := by omega
          have HS8 := Aside0.mk (HS.out.congr (fun j x hx => putG_full mkSpans hl j x hx))
          go_wp2_with fail
          go_roundg kk
          case measure => omega
          case rel => exact ⟨i + 1, by omega, by go_num, HS8, HX⟩
    · obtain rfl : i = L.length := by omega
      have hlt' : ¬ (L.length : Int) < (L.length : Int) := by omega
      have HS9 := Aside0.mk (HS.out.congr (F' := fun i l => marks mkSpans i 0 l.length) (fun j x hx => (putF_all mkSpans _ j x (List.getElem?_eq_some_iff.1 hx).1).symm))
      go_wp2_with fail
      go_end0
      exact ⟨rfl, HS9.out, HX.out⟩
set_option maxRecDepth 100000 in
set_option maxHeartbeats 3200000 in
theorem put_Ints (g base : Nat) (VS US VE UE : Value) (V U : Value) (vs : List Value) (L : List (List Int)) (w : World) (hb : Blk w g 52 (bookC V U VS US VE UE)) (hS : Shelf (Kd.int .i64) 3 118 w base V vs L (fun _ l => l))
    (hL : L.length ≤ 250) (hB : ∀ (i : Nat) l, L[i]? = some l → l.length ≤ 1000000) (hbase : base ≤ w.heap.size) :
    Calls Try.prog 67 #[.pointer (some ⟨g, 0, none⟩)] w fun e w' => e = .returned (.tuple #[]) ∧ Shelf (Kd.int .i64) 3 118 w' base V vs L (fun i l => marks mkInts i 0 l.length) ∧ FxT 3 base w w' := by
  obtain ⟨A, n, rfl⟩ := row_slice hS.hV
  have HB := Aside0.mk hb
  have HS := Aside0.mk (hS.congr (F' := putF mkInts 0) (fun i l _ => putF_zero _ i l))
  have HBd := Aside0.mk hB
  have HL := Aside0.mk hL
  have Hbase := Aside0.mk hbase
  clear hb hS hB hL hbase
  go_enter Try.func67, Try.ntmps67
  go_wp2_with fail
  go_loopg [2] L.length (fun kq v wq => ∃ i : Nat, i + kq = L.length ∧ v = .int .i64 (i : Int) ∧ Aside0 (Shelf (Kd.int .i64) 3 118 wq base (.slice A L.length n) vs L (putF mkInts i)) ∧ Aside0 (FxT 3 base w wq))
  case atStart => exact ⟨0, by omega, rfl, HS, ⟨FxT.refl _ _ _⟩⟩
  case round =>
    clear HS
    obtain ⟨i, hi, rfl, HS, HX⟩ := hrel
    have hb1 := HX.out.blk HB.out (by decide)
    have c4 := hb1.cell (i := 2) (v := .slice A L.length n) rfl
    clear hb1
    by_cases hlt : i < L.length
    · have hlt' : (i : Int) < (L.length : Int) := by omega
      have hi' : (i : Int) ≤ 250 := by have := HL.out; omega
      have hi2 : i ≤ 250 := by omega
      obtain ⟨kk, rfl⟩ : ∃ z, gk = z + 1 := ⟨gk - 1, by omega⟩
      obtain ⟨l, hl⟩ : ∃ l, L[i]? = some l := ⟨_, List.getElem?_eq_getElem hlt⟩
      have hbd := HBd.out i l hl
      obtain ⟨gv, cV, Av, cv, hVe, hcell, hvs, hR, hle, _⟩ := HS.out.at hl
      rw [putF_self] at hcell hvs hle hR
      have hvlt := Aside0.mk (Kd.R_lt hR)
      clear hR
      injection hVe with q1 q2 q3
      subst q1; subst q3
      have hmk := Aside0.mk (markInts_f i 0 l.length (l.length + 1) (by omega) (by omega) (by omega))
      go_wp2_with fail
      refine (emulsionbook_markInts.calls (l.length + 1) (i : Int) 0 (l.length : Int) _ _ hmk.out).mono ?_
      rintro e w2 ⟨vm, rfl, hrm, hbm⟩
      obtain ⟨Am, cm, hvm, hcm, _⟩ := Kd.R_reads hrm
      rw [marks_length] at hvm hcm
      subst hvm
      have HM := Aside0.mk hrm
      have HS2 := Aside0.mk ((HS.out.below hbm).congr (F' := putG mkInts i 0) (fun j x _ => putG_zero _ i j x))
      have HX2 := Aside0.mk (HX.out.below hbm Hbase.out)
      clear hrm hcell hbm HS HX c4
      obtain ⟨B0, hB0⟩ : ∃ b, b = wr.heap.size := ⟨_, rfl⟩
      rw [← hB0] at HM hvlt
      clear hB0
      have hcmx := Aside0.mk hcm
      clear hcm
      go_wp2_with fail
      go_loopg [4] l.length (fun kq v wq => ∃ k : Nat, k + kq = l.length ∧ v = .int .i64 (k : Int) ∧ Aside0 (Shelf (Kd.int .i64) 3 118 wq base (.slice (some ⟨gv, 0, none⟩) L.length n) vs L (putG mkInts i k)) ∧ Aside0 (FxT 3 base w wq) ∧ Aside0 (Kd.R (Kd.int .i64) 3 wq B0 (fun _ => True) (.slice Am l.length cm) (marks mkInts i 0 l.length)))
      case atStart => exact ⟨0, by omega, rfl, HS2, HX2, HM⟩
      case round =>
        clear HS2 HX2 HM
        obtain ⟨k, hk, rfl, HS, HX, HM⟩ := hrel
        by_cases hk1 : k < l.length
        · have hk2 : (k : Int) < (l.length : Int) := by omega
          have hk3 : (k : Int) ≤ 1000000 := by omega
          obtain ⟨kz, rfl⟩ : ∃ z, gk = z + 1 := ⟨gk - 1, by omega⟩
          obtain ⟨gv', cV', Av', cv', hVe, hcell, hvs', hR, hle', _⟩ := HS.out.at hl
          rw [putG_len mkInts i k l (by omega)] at hcell hvs' hle' hR
          rw [hvs] at hvs'
          injection hvs' with hvs'; injection hvs' with q1 q2 q3
          injection hVe with q4 q5 q6
          injection q4 with q4; injection q4 with q4
          subst q1; subst q3; subst q4; subst q6
          obtain ⟨gl, hAv, hgl1, hgl2, _⟩ := row_at0 hR (by rw [putG_len mkInts i k l (by omega)]; omega)
          obtain ⟨gm, hAm, hgm1, hgm2, hCm⟩ := row_at0 HM.out (by rw [marks_length]; omega)
          subst hAv; subst hAm
          obtain ⟨cm_, hK, hcm⟩ := C_at0 hCm (marks_get mkInts i l.length 0 k hk1)
          rw [Nat.zero_add] at hK
          obtain rfl : cm_ = [.int .i64 (mkInts i k)] := hK
          have hm0 := hcm 0 _ rfl
          rw [show k * (Kd.int .i64).sz + 0 = k from by show k * 1 + 0 = k; omega] at hm0
          have hb1 := HX.out.blk HB.out (by decide)
          have c4 := hb1.cell (i := 2) (v := .slice (some ⟨gv, 0, none⟩) L.length n) rfl
          have HR := Aside0.mk hR
          clear hb1 hCm hcm hR
          try clear hK
          go_wp2_with fail
          refine start_ (n := 14) (S := fun w' => w'.cell? ⟨g, 2, none⟩ = some (.slice (some ⟨gv, 0, none⟩) L.length n) ∧ w'.cell? ⟨gv, i, none⟩ = some (.slice (some ⟨gl, 0, none⟩) l.length cv) ∧ w'.cell? ⟨gm, k, none⟩ = some (.int .i64 (mkInts i k)) ∧ Shelf (Kd.int .i64) 3 118 w' base (.slice (some ⟨gv, 0, none⟩) L.length n) vs L (putG mkInts i k) ∧ FxT 3 base w w' ∧ Kd.R (Kd.int .i64) 3 w' B0 (fun _ => True) (.slice (some ⟨gm, 0, none⟩) l.length cm) (marks mkInts i 0 l.length) ∧ Kd.R (Kd.int .i64) 3 w' base (fun _ => True) (.slice (some ⟨gl, 0, none⟩) l.length cv) (putG mkInts i k i l)) (ds := [13]) #[false, false, false, false, false, false, false, false, false, false, false, false, false, false] (by kernel_rfl) rfl rfl ⟨c4, hcell, hm0, (HS.out.below (below_drew (Below.refl _ _))), HX.out.drew, (Kd.R_drew HM.out), (Kd.R_drew HR.out)⟩ (fun hHeld => ?_)
          refine pure_ (i := 0) (N := some 30) (v := ?_) (a' := ?_) #[true, false, false, false, false, false, false, false, false, false, false, false, false, false] rfl rfl (by kernel_rfl) (fun _ _ _ h => h) (Or.inl ⟨by rfl, ?_⟩) ?_ ?_
          rotate_left
          · intro w'
            go_simp
            with_reducible rfl
          rotate_left
          · simp only [Act.put, List.setIfInBounds_toArray, List.set_cons_zero, List.set_cons_succ, i64_w, i32_w]
            rfl
          refine pure_ (i := 1) (N := some 31) (v := ?_) (a' := ?_) #[true, true, false, false, false, false, false, false, false, false, false, false, false, false] rfl rfl (by kernel_rfl) (fun _ _ _ h => h) (Or.inl ⟨by rfl, ?_⟩) ?_ ?_
          rotate_left
          · intro w'
            go_simp
            with_reducible rfl
          rotate_left
          · simp only [Act.put, List.setIfInBounds_toArray, List.set_cons_zero, List.set_cons_succ, i64_w, i32_w]
            rfl
          refine pure_ (i := 2) (N := some 32) (v := ?_) (a' := ?_) #[true, true, true, false, false, false, false, false, false, false, false, false, false, false] rfl rfl (by kernel_rfl) (fun _ _ _ h => h) (Or.inl ⟨by rfl, ?_⟩) ?_ ?_
          rotate_left
          · intro w'
            go_simp
            with_reducible rfl
          rotate_left
          · simp only [Act.put, List.setIfInBounds_toArray, List.set_cons_zero, List.set_cons_succ, i64_w, i32_w]
            rfl
          refine pure_ (i := 4) (N := some 34) (v := ?_) (a' := ?_) #[true, true, true, false, true, false, false, false, false, false, false, false, false, false] rfl rfl (by kernel_rfl) (fun _ _ _ h => h) (Or.inl ⟨by rfl, ?_⟩) ?_ ?_
          rotate_left
          · intro w'
            go_simp
            with_reducible rfl
          rotate_left
          · simp only [Act.put, List.setIfInBounds_toArray, List.set_cons_zero, List.set_cons_succ, i64_w, i32_w]
            rfl
          refine pure_ (i := 7) (N := some 37) (v := ?_) (a' := ?_) #[true, true, true, false, true, false, false, true, false, false, false, false, false, false] rfl rfl (by kernel_rfl) (fun _ _ _ h => h) (Or.inl ⟨by rfl, ?_⟩) ?_ ?_
          rotate_left
          · intro w'
            go_simp
            with_reducible rfl
          rotate_left
          · simp only [Act.put, List.setIfInBounds_toArray, List.set_cons_zero, List.set_cons_succ, i64_w, i32_w]
            rfl
          refine pure_ (i := 8) (N := some 38) (v := ?_) (a' := ?_) #[true, true, true, false, true, false, false, true, true, false, false, false, false, false] rfl rfl (by kernel_rfl) (fun _ _ _ h => h) (Or.inl ⟨by rfl, ?_⟩) ?_ ?_
          rotate_left
          · intro w'
            go_simp
            with_reducible rfl
          rotate_left
          · simp only [Act.put, List.setIfInBounds_toArray, List.set_cons_zero, List.set_cons_succ, i64_w, i32_w]
            rfl
          refine pure_ (i := 9) (N := some 39) (v := ?_) (a' := ?_) #[true, true, true, false, true, false, false, true, true, true, false, false, false, false] rfl rfl (by kernel_rfl) (fun _ _ _ h => h) (Or.inl ⟨by rfl, ?_⟩) ?_ ?_
          rotate_left
          · intro w'
            go_simp
            with_reducible rfl
          rotate_left
          · simp only [Act.put, List.setIfInBounds_toArray, List.set_cons_zero, List.set_cons_succ, i64_w, i32_w]
            rfl
          refine pure_ (i := 10) (N := some 40) (v := ?_) (a' := ?_) #[true, true, true, false, true, false, false, true, true, true, true, false, false, false] rfl rfl (by kernel_rfl) (fun _ _ _ h => h) (Or.inl ⟨by rfl, ?_⟩) ?_ ?_
          rotate_left
          · intro w'
            go_simp
            with_reducible rfl
          rotate_left
          · simp only [Act.put, List.setIfInBounds_toArray, List.set_cons_zero, List.set_cons_succ, i64_w, i32_w]
            rfl
          refine take_ (i := 3) (N := some 33) (v := ?_) (a' := ?_) #[true, true, true, true, true, false, false, true, true, true, true, false, false, false] rfl rfl (by kernel_rfl) (fun _ _ _ h => h) (Or.inl ⟨by rfl, ?_⟩) hHeld ?_ ?_
          rotate_left
          · rintro w' ⟨s0, s1, s2, s3, s4, s5, s6⟩
            go_simp
            with_reducible rfl
          rotate_left
          · simp only [Act.put, List.setIfInBounds_toArray, List.set_cons_zero, List.set_cons_succ, i64_w, i32_w]
            rfl
          refine pure_ (i := 5) (N := some 35) (v := ?_) (a' := ?_) #[true, true, true, true, true, true, false, true, true, true, true, false, false, false] rfl rfl (by kernel_rfl) (fun _ _ _ h => h) (Or.inl ⟨by rfl, ?_⟩) ?_ ?_
          rotate_left
          · intro w'
            go_simp
            with_reducible rfl
          rotate_left
          · simp only [Act.put, List.setIfInBounds_toArray, List.set_cons_zero, List.set_cons_succ, i64_w, i32_w]
            rfl
          refine take_ (i := 6) (N := some 36) (v := ?_) (a' := ?_) #[true, true, true, true, true, true, true, true, true, true, true, false, false, false] rfl rfl (by kernel_rfl) (fun _ _ _ h => h) (Or.inl ⟨by rfl, ?_⟩) hHeld ?_ ?_
          rotate_left
          · rintro w' ⟨s0, s1, s2, s3, s4, s5, s6⟩
            go_simp
            with_reducible rfl
          rotate_left
          · simp only [Act.put, List.setIfInBounds_toArray, List.set_cons_zero, List.set_cons_succ, i64_w, i32_w]
            rfl
          refine take_ (i := 11) (N := some 41) (v := ?_) (a' := ?_) #[true, true, true, true, true, true, true, true, true, true, true, true, false, false] rfl rfl (by kernel_rfl) (fun _ _ _ h => h) (Or.inl ⟨by rfl, ?_⟩) hHeld ?_ ?_
          rotate_left
          · rintro w' ⟨s0, s1, s2, s3, s4, s5, s6⟩
            go_simp
            with_reducible rfl
          rotate_left
          · simp only [Act.put, List.setIfInBounds_toArray, List.set_cons_zero, List.set_cons_succ, i64_w, i32_w]
            rfl
          refine pure_ (i := 12) (N := some 42) (v := ?_) (a' := ?_) #[true, true, true, true, true, true, true, true, true, true, true, true, true, false] rfl rfl (by kernel_rfl) (fun _ _ _ h => h) (Or.inl ⟨by rfl, ?_⟩) ?_ ?_
          rotate_left
          · intro w'
            go_simp
            with_reducible rfl
          rotate_left
          · simp only [Act.put, List.setIfInBounds_toArray, List.set_cons_zero, List.set_cons_succ, i64_w, i32_w]
            rfl
          refine last_ (i := 13) (N := none) #[true, true, true, true, true, true, true, true, true, true, true, true, true, true] rfl rfl (by kernel_rfl) (by decide) (fun K hK => ?_)
          refine Kd.R_store_step (Kd.int .i64) (w0 := w) base (by rfl) 3 (.tmp 42) (.tmp 41) (by rfl) 3 k (putG mkInts i k i l) (mkInts i k) (.int .i64 (mkInts i k)) [.int .i64 (mkInts i k)] (fun _ => True) (fun _ => False) (by rfl) (by show k = k * 1; omega) (by rfl) (by rfl) (by kernel_rfl) (by rfl) (by simp [Value.oneCell']) hHeld.2.2.2.2.2.2 hk1 rfl (fun _ h => h.elim) ?_ _
          intro w7 hR7 hG7
          refine hK.out _ _ ?_
          clear hK K
          refine done_ (by kernel_rfl) ?_
          have HS7 := Aside0.mk (hHeld.2.2.2.1.set (F' := putG mkInts i (k + 1)) rfl (by decide) (hHeld.2.2.2.2.1.base_le Hbase.out) hl hvs (by rw [putG_next mkInts i k l hk1]; exact hR7) hG7 (fun j x hj _ => putG_other mkInts i (k + 1) k j x hj))
          have HX7 := Aside0.mk (hHeld.2.2.2.2.1.trans (hHeld.2.2.2.1.grownFx hvs hl (hHeld.2.2.2.2.1.base_le Hbase.out) hG7))
          have HM7 := Aside0.mk (R_moved rfl hHeld.2.2.2.2.2.1 (fun q hq => hG7.block q (Kd.R_lt hHeld.2.2.2.2.2.1 q hq) (fun e => by
            injection e with e
            subst e
            have h1 : q < B0 := hvlt.out _ rfl
            have h2 := Kd.R_base hHeld.2.2.2.2.2.1 _ hq
            omega)))
          clear hHeld hR7 hG7
          go_wp2_with fail
          go_roundg kz
          case measure => omega
          case rel => exact ⟨k + 1, by omega, by go_num, HS7, HX7, HM7⟩
        · obtain rfl : k = l.length := by omega
          have hk2 : ¬ (l.length : Int) < (l.length : Int) := by omega
          have HS8 := Aside0.mk (HS.out.congr (fun j x hx => putG_full mkInts hl j x hx))
          go_wp2_with fail
          go_roundg kk
          case measure => omega
          case rel => exact ⟨i + 1, by omega, by go_num, HS8, HX⟩
    · obtain rfl : i = L.length := by omega
      have hlt' : ¬ (L.length : Int) < (L.length : Int) := by omega
      have HS9 := Aside0.mk (HS.out.congr (F' := fun i l => marks mkInts i 0 l.length) (fun j x hx => (putF_all mkInts _ j x (List.getElem?_eq_some_iff.1 hx).1).symm))
      go_wp2_with fail
      go_end0
      exact ⟨rfl, HS9.out, HX.out⟩
set_option maxRecDepth 100000 in
set_option maxHeartbeats 3200000 in
theorem put_Extents (g base : Nat) (VI UI VS US : Value) (V U : Value) (vs : List Value) (L : List (List S135)) (w : World) (hb : Blk w g 52 (bookC VI UI VS US V U)) (hS : Shelf k135 135 120 w base V vs L (fun _ l => l))
    (hL : L.length ≤ 250) (hB : ∀ (i : Nat) l, L[i]? = some l → l.length ≤ 1000000) (hbase : base ≤ w.heap.size) :
    Calls Try.prog 69 #[.pointer (some ⟨g, 0, none⟩)] w fun e w' => e = .returned (.tuple #[]) ∧ Shelf k135 135 120 w' base V vs L (fun i l => marks mkExtents i 0 l.length) ∧ FxT 135 base w w' := by
  obtain ⟨A, n, rfl⟩ := row_slice hS.hV
  have HB := Aside0.mk hb
  have HS := Aside0.mk (hS.congr (F' := putF mkExtents 0) (fun i l _ => putF_zero _ i l))
  have HBd := Aside0.mk hB
  have HL := Aside0.mk hL
  have Hbase := Aside0.mk hbase
  clear hb hS hB hL hbase
  go_enter Try.func69, Try.ntmps69
  go_wp2_with fail
  go_loopg [2] L.length (fun kq v wq => ∃ i : Nat, i + kq = L.length ∧ v = .int .i64 (i : Int) ∧ Aside0 (Shelf k135 135 120 wq base (.slice A L.length n) vs L (putF mkExtents i)) ∧ Aside0 (FxT 135 base w wq))
  case atStart => exact ⟨0, by omega, rfl, HS, ⟨FxT.refl _ _ _⟩⟩
  case round =>
    clear HS
    obtain ⟨i, hi, rfl, HS, HX⟩ := hrel
    have hb1 := HX.out.blk HB.out (by decide)
    have c4 := hb1.cell (i := 6) (v := .slice A L.length n) rfl
    clear hb1
    by_cases hlt : i < L.length
    · have hlt' : (i : Int) < (L.length : Int) := by omega
      have hi' : (i : Int) ≤ 250 := by have := HL.out; omega
      have hi2 : i ≤ 250 := by omega
      obtain ⟨kk, rfl⟩ : ∃ z, gk = z + 1 := ⟨gk - 1, by omega⟩
      obtain ⟨l, hl⟩ : ∃ l, L[i]? = some l := ⟨_, List.getElem?_eq_getElem hlt⟩
      have hbd := HBd.out i l hl
      obtain ⟨gv, cV, Av, cv, hVe, hcell, hvs, hR, hle, _⟩ := HS.out.at hl
      rw [putF_self] at hcell hvs hle hR
      have hvlt := Aside0.mk (Kd.R_lt hR)
      clear hR
      injection hVe with q1 q2 q3
      subst q1; subst q3
      have hmk := Aside0.mk (markExtents_f i 0 l.length (l.length + 1) (by omega) (by omega) (by omega))
      go_wp2_with fail
      refine (emulsionbook_markExtents.calls (l.length + 1) (i : Int) 0 (l.length : Int) _ _ hmk.out).mono ?_
      rintro e w2 ⟨vm, rfl, hrm, hbm⟩
      obtain ⟨Am, cm, hvm, hcm, _⟩ := Kd.R_reads hrm
      rw [marks_length] at hvm hcm
      subst hvm
      have HM := Aside0.mk hrm
      have HS2 := Aside0.mk ((HS.out.below hbm).congr (F' := putG mkExtents i 0) (fun j x _ => putG_zero _ i j x))
      have HX2 := Aside0.mk (HX.out.below hbm Hbase.out)
      clear hrm hcell hbm HS HX c4
      obtain ⟨B0, hB0⟩ : ∃ b, b = wr.heap.size := ⟨_, rfl⟩
      rw [← hB0] at HM hvlt
      clear hB0
      have hcmx := Aside0.mk hcm
      clear hcm
      go_wp2_with fail
      go_loopg [4] l.length (fun kq v wq => ∃ k : Nat, k + kq = l.length ∧ v = .int .i64 (k : Int) ∧ Aside0 (Shelf k135 135 120 wq base (.slice (some ⟨gv, 0, none⟩) L.length n) vs L (putG mkExtents i k)) ∧ Aside0 (FxT 135 base w wq) ∧ Aside0 (Kd.R k135 135 wq B0 (fun _ => True) (.slice Am l.length cm) (marks mkExtents i 0 l.length)))
      case atStart => exact ⟨0, by omega, rfl, HS2, HX2, HM⟩
      case round =>
        clear HS2 HX2 HM
        obtain ⟨k, hk, rfl, HS, HX, HM⟩ := hrel
        by_cases hk1 : k < l.length
        · have hk2 : (k : Int) < (l.length : Int) := by omega
          have hk3 : (k : Int) ≤ 1000000 := by omega
          obtain ⟨kz, rfl⟩ : ∃ z, gk = z + 1 := ⟨gk - 1, by omega⟩
          obtain ⟨gv', cV', Av', cv', hVe, hcell, hvs', hR, hle', _⟩ := HS.out.at hl
          rw [putG_len mkExtents i k l (by omega)] at hcell hvs' hle' hR
          rw [hvs] at hvs'
          injection hvs' with hvs'; injection hvs' with q1 q2 q3
          injection hVe with q4 q5 q6
          injection q4 with q4; injection q4 with q4
          subst q1; subst q3; subst q4; subst q6
          obtain ⟨gl, hAv, hgl1, hgl2, _⟩ := row_at0 hR (by rw [putG_len mkExtents i k l (by omega)]; omega)
          obtain ⟨gm, hAm, hgm1, hgm2, hCm⟩ := row_at0 HM.out (by rw [marks_length]; omega)
          subst hAv; subst hAm
          obtain ⟨cm_, hK, hcm⟩ := C_at0 hCm (marks_get mkExtents i l.length 0 k hk1)
          rw [Nat.zero_add] at hK
          obtain rfl := k135_open hK
          have hm0 := hcm 0 _ rfl
          rw [show k * k135.sz + 0 = k * 3 from by show k * 3 + 0 = k * 3; omega] at hm0
          have hm1 := hcm 1 _ rfl
          rw [show k * k135.sz + 1 = k * 3 + 1 from by show k * 3 + 1 = k * 3 + 1; omega] at hm1
          have hm2 := hcm 2 _ rfl
          rw [show k * k135.sz + 2 = k * 3 + 2 from by show k * 3 + 2 = k * 3 + 2; omega] at hm2
          have hb1 := HX.out.blk HB.out (by decide)
          have c4 := hb1.cell (i := 6) (v := .slice (some ⟨gv, 0, none⟩) L.length n) rfl
          have HR := Aside0.mk hR
          clear hb1 hCm hcm hR
          try clear hK
          go_wp2_with fail
          refine start_ (n := 14) (S := fun w' => w'.cell? ⟨g, 6, none⟩ = some (.slice (some ⟨gv, 0, none⟩) L.length n) ∧ w'.cell? ⟨gv, i, none⟩ = some (.slice (some ⟨gl, 0, none⟩) l.length cv) ∧ w'.cell? ⟨gm, k * 3, none⟩ = some (.int .i64 (mkExtents i k).f0) ∧ w'.cell? ⟨gm, k * 3 + 1, none⟩ = some (.int .i64 (mkExtents i k).f1) ∧ w'.cell? ⟨gm, k * 3 + 2, none⟩ = some (.int .i64 (mkExtents i k).f2) ∧ Shelf k135 135 120 w' base (.slice (some ⟨gv, 0, none⟩) L.length n) vs L (putG mkExtents i k) ∧ FxT 135 base w w' ∧ Kd.R k135 135 w' B0 (fun _ => True) (.slice (some ⟨gm, 0, none⟩) l.length cm) (marks mkExtents i 0 l.length) ∧ Kd.R k135 135 w' base (fun _ => True) (.slice (some ⟨gl, 0, none⟩) l.length cv) (putG mkExtents i k i l)) (ds := [13]) #[false, false, false, false, false, false, false, false, false, false, false, false, false, false] (by kernel_rfl) rfl rfl ⟨c4, hcell, hm0, hm1, hm2, (HS.out.below (below_drew (Below.refl _ _))), HX.out.drew, (Kd.R_drew HM.out), (Kd.R_drew HR.out)⟩ (fun hHeld => ?_)
          refine pure_ (i := 0) (N := some 30) (v := ?_) (a' := ?_) #[true, false, false, false, false, false, false, false, false, false, false, false, false, false] rfl rfl (by kernel_rfl) (fun _ _ _ h => h) (Or.inl ⟨by rfl, ?_⟩) ?_ ?_
          rotate_left
          · intro w'
            go_simp
            with_reducible rfl
          rotate_left
          · simp only [Act.put, List.setIfInBounds_toArray, List.set_cons_zero, List.set_cons_succ, i64_w, i32_w]
            rfl
          refine pure_ (i := 1) (N := some 31) (v := ?_) (a' := ?_) #[true, true, false, false, false, false, false, false, false, false, false, false, false, false] rfl rfl (by kernel_rfl) (fun _ _ _ h => h) (Or.inl ⟨by rfl, ?_⟩) ?_ ?_
          rotate_left
          · intro w'
            go_simp
            with_reducible rfl
          rotate_left
          · simp only [Act.put, List.setIfInBounds_toArray, List.set_cons_zero, List.set_cons_succ, i64_w, i32_w]
            rfl
          refine pure_ (i := 2) (N := some 32) (v := ?_) (a' := ?_) #[true, true, true, false, false, false, false, false, false, false, false, false, false, false] rfl rfl (by kernel_rfl) (fun _ _ _ h => h) (Or.inl ⟨by rfl, ?_⟩) ?_ ?_
          rotate_left
          · intro w'
            go_simp
            with_reducible rfl
          rotate_left
          · simp only [Act.put, List.setIfInBounds_toArray, List.set_cons_zero, List.set_cons_succ, i64_w, i32_w]
            rfl
          refine pure_ (i := 4) (N := some 34) (v := ?_) (a' := ?_) #[true, true, true, false, true, false, false, false, false, false, false, false, false, false] rfl rfl (by kernel_rfl) (fun _ _ _ h => h) (Or.inl ⟨by rfl, ?_⟩) ?_ ?_
          rotate_left
          · intro w'
            go_simp
            with_reducible rfl
          rotate_left
          · simp only [Act.put, List.setIfInBounds_toArray, List.set_cons_zero, List.set_cons_succ, i64_w, i32_w]
            rfl
          refine pure_ (i := 7) (N := some 37) (v := ?_) (a' := ?_) #[true, true, true, false, true, false, false, true, false, false, false, false, false, false] rfl rfl (by kernel_rfl) (fun _ _ _ h => h) (Or.inl ⟨by rfl, ?_⟩) ?_ ?_
          rotate_left
          · intro w'
            go_simp
            with_reducible rfl
          rotate_left
          · simp only [Act.put, List.setIfInBounds_toArray, List.set_cons_zero, List.set_cons_succ, i64_w, i32_w]
            rfl
          refine pure_ (i := 8) (N := some 38) (v := ?_) (a' := ?_) #[true, true, true, false, true, false, false, true, true, false, false, false, false, false] rfl rfl (by kernel_rfl) (fun _ _ _ h => h) (Or.inl ⟨by rfl, ?_⟩) ?_ ?_
          rotate_left
          · intro w'
            go_simp
            with_reducible rfl
          rotate_left
          · simp only [Act.put, List.setIfInBounds_toArray, List.set_cons_zero, List.set_cons_succ, i64_w, i32_w]
            rfl
          refine pure_ (i := 9) (N := some 39) (v := ?_) (a' := ?_) #[true, true, true, false, true, false, false, true, true, true, false, false, false, false] rfl rfl (by kernel_rfl) (fun _ _ _ h => h) (Or.inl ⟨by rfl, ?_⟩) ?_ ?_
          rotate_left
          · intro w'
            go_simp
            with_reducible rfl
          rotate_left
          · simp only [Act.put, List.setIfInBounds_toArray, List.set_cons_zero, List.set_cons_succ, i64_w, i32_w]
            rfl
          refine pure_ (i := 10) (N := some 40) (v := ?_) (a' := ?_) #[true, true, true, false, true, false, false, true, true, true, true, false, false, false] rfl rfl (by kernel_rfl) (fun _ _ _ h => h) (Or.inl ⟨by rfl, ?_⟩) ?_ ?_
          rotate_left
          · intro w'
            go_simp
            with_reducible rfl
          rotate_left
          · simp only [Act.put, List.setIfInBounds_toArray, List.set_cons_zero, List.set_cons_succ, i64_w, i32_w]
            rfl
          refine take_ (i := 3) (N := some 33) (v := ?_) (a' := ?_) #[true, true, true, true, true, false, false, true, true, true, true, false, false, false] rfl rfl (by kernel_rfl) (fun _ _ _ h => h) (Or.inl ⟨by rfl, ?_⟩) hHeld ?_ ?_
          rotate_left
          · rintro w' ⟨s0, s1, s2, s3, s4, s5, s6, s7, s8⟩
            go_simp
            with_reducible rfl
          rotate_left
          · simp only [Act.put, List.setIfInBounds_toArray, List.set_cons_zero, List.set_cons_succ, i64_w, i32_w]
            rfl
          refine pure_ (i := 5) (N := some 35) (v := ?_) (a' := ?_) #[true, true, true, true, true, true, false, true, true, true, true, false, false, false] rfl rfl (by kernel_rfl) (fun _ _ _ h => h) (Or.inl ⟨by rfl, ?_⟩) ?_ ?_
          rotate_left
          · intro w'
            go_simp
            with_reducible rfl
          rotate_left
          · simp only [Act.put, List.setIfInBounds_toArray, List.set_cons_zero, List.set_cons_succ, i64_w, i32_w]
            rfl
          refine take_ (i := 6) (N := some 36) (v := ?_) (a' := ?_) #[true, true, true, true, true, true, true, true, true, true, true, false, false, false] rfl rfl (by kernel_rfl) (fun _ _ _ h => h) (Or.inl ⟨by rfl, ?_⟩) hHeld ?_ ?_
          rotate_left
          · rintro w' ⟨s0, s1, s2, s3, s4, s5, s6, s7, s8⟩
            go_simp
            with_reducible rfl
          rotate_left
          · simp only [Act.put, List.setIfInBounds_toArray, List.set_cons_zero, List.set_cons_succ, i64_w, i32_w]
            rfl
          refine take_ (i := 11) (N := some 41) (v := ?_) (a' := ?_) #[true, true, true, true, true, true, true, true, true, true, true, true, false, false] rfl rfl (by kernel_rfl) (fun _ _ _ h => h) (Or.inl ⟨by rfl, ?_⟩) hHeld ?_ ?_
          rotate_left
          · rintro w' ⟨s0, s1, s2, s3, s4, s5, s6, s7, s8⟩
            go_simp
            with_reducible rfl
          rotate_left
          · simp only [Act.put, List.setIfInBounds_toArray, List.set_cons_zero, List.set_cons_succ, i64_w, i32_w]
            rfl
          refine pure_ (i := 12) (N := some 42) (v := ?_) (a' := ?_) #[true, true, true, true, true, true, true, true, true, true, true, true, true, false] rfl rfl (by kernel_rfl) (fun _ _ _ h => h) (Or.inl ⟨by rfl, ?_⟩) ?_ ?_
          rotate_left
          · intro w'
            go_simp
            with_reducible rfl
          rotate_left
          · simp only [Act.put, List.setIfInBounds_toArray, List.set_cons_zero, List.set_cons_succ, i64_w, i32_w]
            rfl
          refine last_ (i := 13) (N := none) #[true, true, true, true, true, true, true, true, true, true, true, true, true, true] rfl rfl (by kernel_rfl) (by decide) (fun K hK => ?_)
          refine Kd.R_store_step k135 (w0 := w) base (by rfl) 135 (.tmp 42) (.tmp 41) (by rfl) 135 k (putG mkExtents i k i l) (mkExtents i k) (.agg #[.int .i64 (mkExtents i k).f0, .int .i64 (mkExtents i k).f1, .int .i64 (mkExtents i k).f2]) [.int .i64 (mkExtents i k).f0, .int .i64 (mkExtents i k).f1, .int .i64 (mkExtents i k).f2] (fun _ => True) (fun _ => False) (by rfl) (by rfl) (by rfl) (by rfl) (by kernel_rfl) (by rfl) (by simp [Value.oneCell']) hHeld.2.2.2.2.2.2.2.2 hk1 (k135_mkM _ _ _ _) (fun _ h => h.elim) ?_ _
          intro w7 hR7 hG7
          refine hK.out _ _ ?_
          clear hK K
          refine done_ (by kernel_rfl) ?_
          have HS7 := Aside0.mk (hHeld.2.2.2.2.2.1.set (F' := putG mkExtents i (k + 1)) rfl (by decide) (hHeld.2.2.2.2.2.2.1.base_le Hbase.out) hl hvs (by rw [putG_next mkExtents i k l hk1]; exact hR7) hG7 (fun j x hj _ => putG_other mkExtents i (k + 1) k j x hj))
          have HX7 := Aside0.mk (hHeld.2.2.2.2.2.2.1.trans (hHeld.2.2.2.2.2.1.grownFx hvs hl (hHeld.2.2.2.2.2.2.1.base_le Hbase.out) hG7))
          have HM7 := Aside0.mk (R_moved rfl hHeld.2.2.2.2.2.2.2.1 (fun q hq => hG7.block q (Kd.R_lt hHeld.2.2.2.2.2.2.2.1 q hq) (fun e => by
            injection e with e
            subst e
            have h1 : q < B0 := hvlt.out _ rfl
            have h2 := Kd.R_base hHeld.2.2.2.2.2.2.2.1 _ hq
            omega)))
          clear hHeld hR7 hG7
          go_wp2_with fail
          go_roundg kz
          case measure => omega
          case rel => exact ⟨k + 1, by omega, by go_num, HS7, HX7, HM7⟩
        · obtain rfl : k = l.length := by omega
          have hk2 : ¬ (l.length : Int) < (l.length : Int) := by omega
          have HS8 := Aside0.mk (HS.out.congr (fun j x hx => putG_full mkExtents hl j x hx))
          go_wp2_with fail
          go_roundg kk
          case measure => omega
          case rel => exact ⟨i + 1, by omega, by go_num, HS8, HX⟩
    · obtain rfl : i = L.length := by omega
      have hlt' : ¬ (L.length : Int) < (L.length : Int) := by omega
      have HS9 := Aside0.mk (HS.out.congr (F' := fun i l => marks mkExtents i 0 l.length) (fun j x hx => (putF_all mkExtents _ j x (List.getElem?_eq_some_iff.1 hx).1).symm))
      go_wp2_with fail
      go_end0
      exact ⟨rfl, HS9.out, HX.out⟩
end Go.Proofs.Ytffemlfdhkndiaa.Hand
end
section
namespace Go.Proofs.Ytffemlfdhkndiaa.Hand
open Go.RowKit Go.Proofs.YtffemlfdhkndiaaW.PrintWords Go.Proofs.YtffemlfdhkndiaaW.PrintLast Go.Proofs.YtffemlfdhkndiaaW.PrintMore Go.Proofs.Ytffemlfdhkndiaa.A
set_option linter.unusedVariables false
set_option linter.unusedSimpArgs false
section
variable {α : Type} {d : Kd α} {e eL : Nat} {w0 w1 w w2 : World} {base i : Nat} {vs os : List Value} {L : List (List α)} {v cur cur2 O O2 V : Value} {l M ys : List α} {F G : Nat → List α → List α}
/-- What the lists show: for the law that looks at them. -/
def Shows (d : Kd α) (e eL : Nat) (w : World) (base : Nat) (V : Value) (vs : List Value) (L : List (List α)) (F : Nat → List α → List α) : Prop :=
  w.ownsRow base eL 1 V L.length vs ∧ ∀ (i : Nat) v l, vs[i]? = some v → L[i]? = some l → Sees d e w v (F i l)
theorem Shows.below (hK : Flat d) (h : Shows d e eL w base V vs L F) (hb : Below w.heap.size w w1) : Shows d e eL w1 base V vs L F :=
  ⟨own_move h.1 (fun k hk => hb.block k (own_lt h.1 k hk)), fun i v l hv hl => (h.2 i v l hv hl).below hK hb⟩
theorem Shows.fx {T B : Nat} (hK : Flat d) (h : Shows d e eL w base V vs L F) (hx : FxT T B w w1) (h1 : e ≠ T) (h2 : eL ≠ T) : Shows d e eL w1 base V vs L F :=
  ⟨hx.own h.1 h2, fun i v l hv hl => (h.2 i v l hv hl).fx hK hx h1⟩
theorem Shows.calls {n c : Nat} {A : Option Addr} (h : Shows d e eL w base (.slice A n c) vs L F) : n = (L.mapIdx F).length ∧ (L.mapIdx F).length ≤ c ∧ Kd.C (Kd.slice e d) w A (L.mapIdx F).length (L.mapIdx F) := by
  have hlen : (L.mapIdx F).length = L.length := List.length_mapIdx
  refine lists_C (eL := eL) (base := base) (vs := vs) (by rw [hlen]; exact h.1) (fun i v l hv hl => ?_)
  rw [List.getElem?_mapIdx] at hl
  obtain ⟨l0, hl0, rfl⟩ := Option.map_eq_some_iff.1 hl
  exact (h.2 i v l0 hv hl0).reads
/-- One list is being grown. -/
structure Cur (d : Kd α) (e : Nat) (w1 w : World) (base : Nat) (v cur : Value) (M l : List α) : Prop where
  r : d.R e w base (fun _ => True) cur l
  g : w1.grownBy w v.ownBlock
  at_ : cur.ownBlock = v.ownBlock ∨ ∀ k, cur.ownBlock = some k → w1.heap.size ≤ k
  s : Sees d e w v M
  len : M.length ≤ l.length
theorem Cur.start (h : d.R e w base (fun _ => True) v M) : Cur d e w w base v v M M := ⟨h, World.grownBy.refl w _, .inl rfl, Sees.of_R h, Nat.le_refl _⟩
theorem Cur.below (hK : Flat d) (h : Cur d e w1 w base v cur M l) (hb : Below w.heap.size w w2) : Cur d e w1 w2 base v cur M l :=
  ⟨Kd.R_below h.r hb, ⟨hb.os.trans h.g.os, hb.tape.trans h.g.tape, hb.output.trans h.g.output, Nat.le_trans h.g.size hb.size, fun k hk hn => (hb.block k (Nat.lt_of_lt_of_le hk h.g.size)).trans (h.g.block k hk hn)⟩, h.at_, h.s.below hK hb, h.len⟩
theorem Cur.more (hK : Flat d) (h : Cur d e w1 w base v cur M l) (hr : d.R e w2 base (fun _ => True) cur2 (l ++ ys)) (hg : w.grownBy w2 cur.ownBlock) (hat : cur2.ownBlock = cur.ownBlock ∨ ∃ b, cur2.ownBlock = some b ∧ w.heap.size ≤ b) (hk : Kept e w w2 cur (l.length * d.sz)) : Cur d e w1 w2 base v cur2 M (l ++ ys) := by
  refine ⟨hr, ⟨hg.os.trans h.g.os, hg.tape.trans h.g.tape, hg.output.trans h.g.output, Nat.le_trans h.g.size hg.size, fun k hk hn => (hg.block k (Nat.lt_of_lt_of_le hk h.g.size) (fun q => ?_)).trans (h.g.block k hk hn)⟩, ?_, h.s.kept hK hg hk (Nat.mul_le_mul_right _ h.len), by have := h.len; rw [List.length_append]; omega⟩
  · rcases h.at_ with ha | ha
    · exact hn (q.trans ha)
    · have := ha k q.symm; omega
  · rcases hat with hat | ⟨b, hb, hle⟩
    · rw [hat]; exact h.at_
    · right
      intro k hk'
      rw [hb] at hk'
      injection hk' with hk'
      have := h.g.size
      omega
/-- So many lists are grown. -/
structure Grown (d : Kd α) (e eL : Nat) (w0 w : World) (base : Nat) (O : Value) (vs os : List Value) (L : List (List α)) (F G : Nat → List α → List α) (i : Nat) : Prop where
  hO : w.ownsRow w0.heap.size eL 1 O i os
  fx : FxT e base w0 w
  lt : ∀ (j : Nat) v k, vs[j]? = some v → v.ownBlock = some k → k < w0.heap.size ∧ base ≤ k ∧ ∃ cs, w0.heap[k]? = some (.cells cs e (0, 0))
  sees : ∀ (j : Nat) v l, vs[j]? = some v → L[j]? = some l → Sees d e w v (F j l)
  rest : ∀ (j : Nat) v l, i ≤ j → vs[j]? = some v → L[j]? = some l → d.R e w base (fun _ => True) v (F j l)
  outs : ∀ (j : Nat) v l, os[j]? = some v → L[j]? = some l → d.R e w base (fun _ => True) v (G j l) ∧ ∀ k, v.ownBlock = some k → w0.heap.size ≤ k ∨ ∃ x, vs[j]? = some x ∧ x.ownBlock = some k
theorem Shelf.grown (h : Shelf d e eL w base V vs L F) : Grown d e eL w w base (.slice none 0 0) vs [] L F G 0 := by
  refine ⟨World.ownsRow_nil w _ _ 1, FxT.refl _ _ _, fun j v k hv hk => ?_, fun j v l hv hl => Sees.of_R (h.rv.2 j v l hv hl), fun j v l _ hv hl => h.rv.2 j v l hv hl, fun j v l hv => by simp at hv⟩
  have hj : j < L.length := by rw [← h.rv.1]; exact (List.getElem?_eq_some_iff.1 hv).1
  have hr := h.rv.2 j v _ hv (List.getElem?_eq_getElem hj)
  exact ⟨Kd.R_lt hr k hk, Kd.R_base hr k hk, Kd.R_typed hr k hk⟩
/-- The next list has grown, and is kept among the grown ones. -/
theorem Grown.next (hE : d.E = []) (hK : Flat d) (hne : eL ≠ e) (hp : vs.Pairwise NeRow) (hb : base ≤ w0.heap.size) (h : Grown d e eL w0 w1 base O vs os L F G i) (hv : vs[i]? = some v) (hl : L[i]? = some l) (c : Cur d e w1 w base v cur (F i l) (G i l))
    (hO2 : w2.ownsRow w0.heap.size eL 1 O2 (i + 1) (os ++ [cur])) (hg : w.grownBy w2 O.ownBlock) : Grown d e eL w0 w2 base O2 vs (os ++ [cur]) L F G (i + 1) := by
  have z0 : w0.heap.size ≤ w1.heap.size := h.fx.1.size
  have z1 : w1.heap.size ≤ w.heap.size := c.g.size
  have hlen : os.length = i := by have := h.hO.1; omega
  have hvb : ∀ k, v.ownBlock = some k → k < w0.heap.size ∧ base ≤ k ∧ ∃ cs, w0.heap[k]? = some (.cells cs e (0, 0)) := fun k hk => h.lt i v k hv hk
  have hOb : ∀ k, O.ownBlock = some k → w0.heap.size ≤ k := fun k hk => own_base h.hO k hk
  -- blocks below the first world's end, but v's
  have old : ∀ k, k < w0.heap.size → some k ≠ v.ownBlock → w2.heap[k]? = w1.heap[k]? := fun k hk hn => (hg.block k (by omega) (fun q => by have := hOb k q.symm; omega)).trans (c.g.block k (by omega) hn)
  have new : ∀ k, w0.heap.size ≤ k → k < w1.heap.size → some k ≠ O.ownBlock → w2.heap[k]? = w1.heap[k]? := fun k hk hk1 hn => (hg.block k (by omega) hn).trans (c.g.block k hk1 (fun q => by have := (hvb k q.symm).1; omega))
  have hOw : w.ownsRow w0.heap.size eL 1 O i os := own_move h.hO (fun k hk => c.g.block k (own_lt h.hO k hk) (fun q => by have := (hvb k q.symm).1; have := hOb k hk; omega))
  refine ⟨hO2, ?_, h.lt, fun j x y hx hy => ?_, fun j x y hj hx hy => ?_, fun j x y hx hy => ?_⟩
  · -- only blocks of the one type
    refine ⟨⟨hg.os.trans (c.g.os.trans h.fx.1.os), hg.tape.trans (c.g.tape.trans h.fx.1.tape), hg.output.trans (c.g.output.trans h.fx.1.output), by have := hg.size; omega, fun k hk => ?_⟩, fun k hk hc => ?_⟩
    · exact (old k (by omega) (fun q => by have := (hvb k q.symm).2.1; omega)).trans (h.fx.1.block k hk)
    · exact (old k hk (fun q => by obtain ⟨cs, hcs⟩ := (hvb k q.symm).2.2; exact hc cs hcs)).trans (h.fx.2 k hk hc)
  · by_cases hj : j = i
    · subst hj
      rw [hv] at hx; rw [hl] at hy
      injection hx with hx; injection hy with hy
      subst hx; subst hy
      exact c.s.move hK (fun k hk => hg.block k (c.s.lt hk) (fun q => by have := (hvb k hk).1; have := hOb k q.symm; omega))
    · refine (h.sees j x y hx hy).move hK (fun k hk => old k (h.lt j x k hx hk).1 (fun q => ne_of_pair hp hv hx hj k q.symm hk))
  · refine R_moved hE (h.rest j x y (by omega) hx hy) (fun k hk => old k (h.lt j x k hx hk).1 (fun q => ne_of_pair hp hv hx (by omega) k q.symm hk))
  · by_cases hj : j < os.length
    · rw [List.getElem?_append_left hj] at hx
      obtain ⟨hr, ho⟩ := h.outs j x y hx hy
      refine ⟨R_moved hE hr (fun k hk => ?_), ho⟩
      rcases ho k hk with hk0 | ⟨x', hx', hk'⟩
      · refine new k hk0 (Kd.R_lt hr k hk) (fun q => ?_)
        obtain ⟨cs, hcs⟩ := own_typed h.hO k q.symm
        obtain ⟨cs', hcs'⟩ := Kd.R_typed hr k hk
        rw [hcs] at hcs'; injection hcs' with hcs'; injection hcs' with _ hcs'; exact hne hcs'
      · exact old k (h.lt j x' k hx' hk').1 (fun q => ne_of_pair hp hv hx' (by omega) k q.symm hk')
    · rw [List.getElem?_append_right (by omega)] at hx
      have hji : j = i := by
        rcases Nat.eq_zero_or_pos (j - os.length) with h0 | h0
        · omega
        · rw [List.getElem?_eq_none (by simp; omega)] at hx; cases hx
      subst hji
      rw [hlen, Nat.sub_self] at hx
      rw [hl] at hy
      injection hx with hx; injection hy with hy
      subst hx; subst hy
      refine ⟨R_moved hE c.r (fun k hk => hg.block k (Kd.R_lt c.r k hk) (fun q => ?_)), fun k hk => ?_⟩
      · obtain ⟨cs, hcs⟩ := own_typed hOw k q.symm
        obtain ⟨cs', hcs'⟩ := Kd.R_typed c.r k hk
        rw [hcs] at hcs'; injection hcs' with hcs'; injection hcs' with _ hcs'; exact hne hcs'
      · rcases c.at_ with ha | ha
        · exact .inr ⟨v, hv, by rw [← ha]; exact hk⟩
        · have := ha k hk; exact .inl (by omega)
theorem Grown.O_at (h : Grown d e eL w0 w1 base O vs os L F G i) (hv : vs[i]? = some v) (c : Cur d e w1 w base v cur M l) : w.ownsRow w0.heap.size eL 1 O i os ∧ w0.heap.size ≤ w.heap.size :=
  ⟨own_move h.hO (fun k hk => c.g.block k (own_lt h.hO k hk) (fun q => by have := (h.lt i v k hv q.symm).1; have := own_base h.hO k hk; omega)), Nat.le_trans h.fx.1.size c.g.size⟩
theorem Grown.shows (hV : w0.ownsRow base eL 1 V L.length vs) (hne : eL ≠ e) (h : Grown d e eL w0 w base O vs os L F G L.length) : Shows d e eL w w0.heap.size O os L G ∧ Shows d e eL w base V vs L F ∧ FxT e base w0 w :=
  ⟨⟨h.hO, fun j v l hv hl => Sees.of_R (h.outs j v l hv hl).1⟩, ⟨h.fx.own hV hne, fun j v l hv hl => h.sees j v l hv hl⟩, h.fx⟩
end
end Go.Proofs.Ytffemlfdhkndiaa.Hand
end
section
namespace Go.Proofs.Ytffemlfdhkndiaa.Hand
open Go.RowKit Go.Proofs.YtffemlfdhkndiaaW.PrintWords Go.Proofs.YtffemlfdhkndiaaW.PrintLast Go.Proofs.YtffemlfdhkndiaaW.PrintMore Go.Proofs.Ytffemlfdhkndiaa.A
set_option linter.unusedVariables false
set_option linter.unusedSimpArgs false
attribute [local go_sem] max2_int min2_int max_two min_two max_three min_three max_four min_four
theorem marks_app0 {α : Type} (mk : Nat → Nat → α) (i n m : Nat) : marks mk i 0 n ++ marks mk i n m = marks mk i 0 (n + m) := by rw [marks_app, Nat.zero_add]
theorem ginfoSpans : (Try.prog.info? 31).map (fun i => (i.zero, i.size, i.bytes)) = some (some (.agg #[.int .i64 0, .int .i64 0]), k31.sz, 16) := by kernel_rfl
theorem ginfoLSpans : (Try.prog.info? 22).map (fun i => (i.zero, i.size, i.bytes)) = some (some (.slice none 0 0), 1, 24) := by kernel_rfl
theorem flatSpans : Flat k31 := fun w w1 x cs h => by obtain rfl := k31_open h; exact k31_mk _ _
set_option maxRecDepth 100000 in
set_option maxHeartbeats 3200000 in
theorem grow_Spans (g base : Nat) (VI UI VE UE : Value) (V U : Value) (vs : List Value) (L : List (List S31)) (w : World) (hb : Blk w g 52 (bookC VI UI V U VE UE)) (hS : Shelf k31 31 22 w base V vs L (fun i l => marks mkSpans i 0 l.length))
    (hL : L.length ≤ 250) (hB : ∀ (i : Nat) l, L[i]? = some l → l.length ≤ 1000000) (hbase : base ≤ w.heap.size) :
    Calls Try.prog 74 #[.pointer (some ⟨g, 0, none⟩)] w fun e w' => ∃ O, e = .returned O ∧ ∃ os, Shows k31 31 22 w' w.heap.size O os L (fun i l => marks mkSpans i 0 (l.length + 72)) ∧ Shows k31 31 22 w' base V vs L (fun i l => marks mkSpans i 0 l.length) ∧ FxT 31 base w w' := by
  obtain ⟨A, n, rfl⟩ := row_slice hS.hV
  have HB := Aside0.mk hb
  have HG := Aside0.mk (hS.grown (G := fun i l => marks mkSpans i 0 (l.length + 72)))
  have HV := Aside0.mk hS.hV
  have HP := Aside0.mk hS.ne
  have HBd := Aside0.mk hB
  have HL := Aside0.mk hL
  have Hbase := Aside0.mk hbase
  have hvl := Aside0.mk hS.rv.1
  clear hb hS hB hL hbase
  go_enter Try.func74, Try.ntmps74
  go_wp2_with fail
  go_loopg [3, 4] L.length (fun kq o v wq => ∃ (i : Nat) (os : List Value), i + kq = L.length ∧ v = .int .i64 (i : Int) ∧ Aside0 (Grown k31 31 22 w wq base o vs os L (fun i l => marks mkSpans i 0 l.length) (fun i l => marks mkSpans i 0 (l.length + 72)) i))
  case atStart => exact ⟨0, [], by omega, rfl, HG⟩
  case round =>
    clear HG
    obtain ⟨i, os, hi, rfl, HG⟩ := hrel
    obtain ⟨Ao, co, rfl⟩ := row_slice HG.out.hO
    have hb1 := HG.out.fx.blk HB.out (by decide)
    have c4 := hb1.cell (i := 4) (v := .slice A L.length n) rfl
    clear hb1
    by_cases hlt : i < L.length
    · have hlt' : (i : Int) < (L.length : Int) := by omega
      have hi' : (i : Int) ≤ 250 := by have := HL.out; omega
      have hi2 : i ≤ 250 := by omega
      obtain ⟨kk, rfl⟩ : ∃ z, gk = z + 1 := ⟨gk - 1, by omega⟩
      obtain ⟨l, hl⟩ : ∃ l, L[i]? = some l := ⟨_, List.getElem?_eq_getElem hlt⟩
      have hbd := Aside0.mk (HBd.out i l hl)
      obtain ⟨v, hv⟩ : ∃ v, vs[i]? = some v := ⟨_, List.getElem?_eq_getElem (by rw [hvl.out]; exact hlt)⟩
      have hr0 := HG.out.rest i v l (Nat.le_refl _) hv hl
      obtain ⟨gv, cV, hVe, _, _, _, hcells⟩ := row_cells (own_move HV.out (w1 := wr) (fun q hq => HG.out.fx.2 q (own_lt HV.out q hq) (fun cs hc => by
        obtain ⟨cs', hc'⟩ := own_typed HV.out q hq
        rw [hc'] at hc; injection hc with hc; injection hc with _ hc; exact absurd hc (by decide)))) (by omega)
      have hcell := hcells i v hv
      injection hVe with q1 q2 q3
      subst q1; subst q3
      have HC := Aside0.mk (Cur.start hr0)
      have Hbq : Aside0 (base ≤ wr.heap.size) := ⟨HG.out.fx.base_le Hbase.out⟩
      obtain ⟨Av, cv, hve, _, _⟩ := Kd.R_reads hr0
      rw [marks_length] at hve
      subst hve
      have HVi := Aside0.mk hv
      clear hr0 hcells hv
      go_wp2_with fail
      go_loopg [5, 6] 12 (fun kq c v wq => ∃ k N : Nat, k + kq = 12 ∧ Aside0 (N = l.length + k) ∧ v = .int .i64 (k : Int) ∧ Aside0 (Cur k31 31 wr wq base (.slice Av l.length cv) c (marks mkSpans i 0 l.length) (marks mkSpans i 0 N)) ∧ Aside0 (base ≤ wq.heap.size))
      case atStart => exact ⟨0, l.length, by omega, ⟨rfl⟩, rfl, HC, Hbq⟩
      case round =>
        clear HC Hbq
        obtain ⟨k, N, hk, hN, rfl, HC, Hbq⟩ := hrel
        obtain ⟨A5, c5, h5, _, _⟩ := Kd.R_reads HC.out.r
        rw [marks_length] at h5
        subst h5
        by_cases hk1 : k < 12
        · have hk2 : (k : Int) < 12 := by omega
          obtain ⟨kz, rfl⟩ : ∃ z, gk = z + 1 := ⟨gk - 1, by omega⟩
          go_wp2_with fail
          refine (emulsionbook_markSpans.calls 2 (i : Int) (N : Int) 1 _ _ (markSpans_f i N 1 2 (by omega) (by omega) (by have := hN.out; have := hbd.out; omega))).mono ?_
          rintro e w6 ⟨vm, rfl, hrm, hbm⟩
          obtain ⟨Am, cm, hvm, hcm, _⟩ := Kd.R_reads hrm
          rw [marks_length] at hvm hcm
          subst hvm
          obtain ⟨gm, hAm, _, _, hCm⟩ := row_at0 hrm (by rw [marks_length]; omega)
          subst hAm
          rw [marks_length] at hCm
          have HMc := Aside0.mk hCm
          replace HC := Aside0.mk (HC.out.below flatSpans hbm)
          replace Hbq := Aside0.mk (Nat.le_trans Hbq.out hbm.size)
          clear hrm hbm hcm hCm
          go_wp2_with (first | ((with_reducible refine gate_builtin (b := .append) (xs := #[.tmp 27, .tmp 31]) rfl ?_); at_builtin; refine Kd.R_append_kept k31 base rfl (.tmp 27) (.tmp 31) 22 31 (.agg #[.int .i64 0, .int .i64 0]) 16 rfl Try.underlying22 ginfoSpans rfl (by decide) (by decide) (.slice A5 N c5) (marks mkSpans i 0 N) (marks mkSpans i N 1) ⟨gm, 0, none⟩ 1 cm (fun _ => True) (fun _ => False) rfl rfl HC.out.r HMc.out (fun x cs h => by obtain rfl := k31_open h; exact k31_mkM _ _ _ _) (fun _ h => h.elim) (fun _ _ => trivial) (Below.refl _ _) Hbq.out (by rw [marks_length]; have := hN.out; have := hbd.out; omega) ?_; intro v7 w7 hr7 hb7 hg7 hat7 hk7; have HC7 := Aside0.mk (HC.out.more flatSpans hr7 hg7 hat7 hk7); have Hbq7 := Aside0.mk (Nat.le_trans Hbq.out hg7.size); clear hr7 hb7 hg7 hat7 hk7; rw [marks_app0] at HC7))
          go_roundg kz
          case measure => omega
          case rel => exact ⟨k + 1, N + 1, by omega, ⟨by have := hN.out; omega⟩, by go_num, HC7, Hbq7⟩
        · obtain rfl : k = 12 := by omega
          go_wp2_with fail
          refine (emulsionbook_markSpans.calls 61 (i : Int) (N : Int) 60 _ _ (markSpans_f i N 60 61 (by omega) (by omega) (by have := hN.out; have := hbd.out; omega))).mono ?_
          rintro e w6 ⟨vm, rfl, hrm, hbm⟩
          obtain ⟨Am, cm, hvm, hcm, _⟩ := Kd.R_reads hrm
          rw [marks_length] at hvm hcm
          subst hvm
          obtain ⟨gm, hAm, _, _, hCm⟩ := row_at0 hrm (by rw [marks_length]; omega)
          subst hAm
          rw [marks_length] at hCm
          have HMc := Aside0.mk hCm
          replace HC := Aside0.mk (HC.out.below flatSpans hbm)
          replace Hbq := Aside0.mk (Nat.le_trans Hbq.out hbm.size)
          clear hrm hbm hcm hCm
          go_wp2_with (first | ((with_reducible refine gate_builtin (b := .append) (xs := #[.tmp 34, .tmp 38]) rfl ?_); at_builtin; refine Kd.R_append_kept k31 base rfl (.tmp 34) (.tmp 38) 22 31 (.agg #[.int .i64 0, .int .i64 0]) 16 rfl Try.underlying22 ginfoSpans rfl (by decide) (by decide) (.slice A5 N c5) (marks mkSpans i 0 N) (marks mkSpans i N 60) ⟨gm, 0, none⟩ 60 cm (fun _ => True) (fun _ => False) rfl rfl HC.out.r HMc.out (fun x cs h => by obtain rfl := k31_open h; exact k31_mkM _ _ _ _) (fun _ h => h.elim) (fun _ _ => trivial) (Below.refl _ _) Hbq.out (by rw [marks_length]; have := hN.out; have := hbd.out; omega) ?_; intro v7 w7 hr7 hb7 hg7 hat7 hk7; have HC7 := Aside0.mk (HC.out.more flatSpans hr7 hg7 hat7 hk7); have Hbq7 := Aside0.mk (Nat.le_trans Hbq.out hg7.size); clear hr7 hb7 hg7 hat7 hk7; rw [marks_app0] at HC7; obtain ⟨A8, c8, h8, _, _⟩ := Kd.R_reads HC7.out.r; rw [marks_length] at h8; subst h8; have HO7 := Aside0.mk (HG.out.O_at HVi.out HC7.out)) | ((with_reducible refine gate_builtin (b := .append) (xs := #[.tmp 33, .tmp 40]) rfl ?_); at_builtin; refine print_append_cells (w0 := w7) w.heap.size rfl (.tmp 33) (.tmp 40) 46 22 (.slice none 0 0) 1 24 rfl Try.underlying46 ginfoLSpans rfl (by decide) (by decide) (.slice Ao i co) i os [.slice A8 (N + 60) c8] rfl rfl rfl (by intro u hu; rw [List.mem_singleton.1 hu]; rfl) HO7.out.1 (Below.refl _ _) HO7.out.2 (by omega) ?_; intro O9 w9 hO9 hb9 hg9 hat9; have hNe : N + 60 = l.length + 72 := (by have := hN.out; omega); rw [hNe] at HC7 hO9; have HG9 := Aside0.mk (HG.out.next rfl flatSpans (by decide) HP.out Hbase.out HVi.out hl HC7.out hO9 hg9); clear hNe hO9 hb9 hg9 hat9))
          go_roundg kk
          case measure => omega
          case rel => exact ⟨i + 1, _, by omega, by go_num, HG9⟩
    · obtain rfl : i = L.length := by omega
      have hlt' : ¬ (L.length : Int) < (L.length : Int) := by omega
      go_wp2_with fail
      go_ret
      have h := HG.out.shows HV.out (by decide)
      exact ⟨_, rfl, ⟨_, h.1⟩, h.2⟩
theorem ginfoInts : (Try.prog.info? 3).map (fun i => (i.zero, i.size, i.bytes)) = some (some (.int .i64 0), (Kd.int .i64).sz, 8) := by kernel_rfl
theorem ginfoLInts : (Try.prog.info? 118).map (fun i => (i.zero, i.size, i.bytes)) = some (some (.slice none 0 0), 1, 24) := by kernel_rfl
theorem flatInts : Flat (Kd.int .i64) := fun w w1 x cs h => h
set_option maxRecDepth 100000 in
set_option maxHeartbeats 3200000 in
theorem grow_Ints (g base : Nat) (VS US VE UE : Value) (V U : Value) (vs : List Value) (L : List (List Int)) (w : World) (hb : Blk w g 52 (bookC V U VS US VE UE)) (hS : Shelf (Kd.int .i64) 3 118 w base V vs L (fun i l => marks mkInts i 0 l.length))
    (hL : L.length ≤ 250) (hB : ∀ (i : Nat) l, L[i]? = some l → l.length ≤ 1000000) (hbase : base ≤ w.heap.size) :
    Calls Try.prog 73 #[.pointer (some ⟨g, 0, none⟩)] w fun e w' => ∃ O, e = .returned O ∧ ∃ os, Shows (Kd.int .i64) 3 118 w' w.heap.size O os L (fun i l => marks mkInts i 0 (l.length + 72)) ∧ Shows (Kd.int .i64) 3 118 w' base V vs L (fun i l => marks mkInts i 0 l.length) ∧ FxT 3 base w w' := by
  obtain ⟨A, n, rfl⟩ := row_slice hS.hV
  have HB := Aside0.mk hb
  have HG := Aside0.mk (hS.grown (G := fun i l => marks mkInts i 0 (l.length + 72)))
  have HV := Aside0.mk hS.hV
  have HP := Aside0.mk hS.ne
  have HBd := Aside0.mk hB
  have HL := Aside0.mk hL
  have Hbase := Aside0.mk hbase
  have hvl := Aside0.mk hS.rv.1
  clear hb hS hB hL hbase
  go_enter Try.func73, Try.ntmps73
  go_wp2_with fail
  go_loopg [3, 4] L.length (fun kq o v wq => ∃ (i : Nat) (os : List Value), i + kq = L.length ∧ v = .int .i64 (i : Int) ∧ Aside0 (Grown (Kd.int .i64) 3 118 w wq base o vs os L (fun i l => marks mkInts i 0 l.length) (fun i l => marks mkInts i 0 (l.length + 72)) i))
  case atStart => exact ⟨0, [], by omega, rfl, HG⟩
  case round =>
    clear HG
    obtain ⟨i, os, hi, rfl, HG⟩ := hrel
    obtain ⟨Ao, co, rfl⟩ := row_slice HG.out.hO
    have hb1 := HG.out.fx.blk HB.out (by decide)
    have c4 := hb1.cell (i := 2) (v := .slice A L.length n) rfl
    clear hb1
    by_cases hlt : i < L.length
    · have hlt' : (i : Int) < (L.length : Int) := by omega
      have hi' : (i : Int) ≤ 250 := by have := HL.out; omega
      have hi2 : i ≤ 250 := by omega
      obtain ⟨kk, rfl⟩ : ∃ z, gk = z + 1 := ⟨gk - 1, by omega⟩
      obtain ⟨l, hl⟩ : ∃ l, L[i]? = some l := ⟨_, List.getElem?_eq_getElem hlt⟩
      have hbd := Aside0.mk (HBd.out i l hl)
      obtain ⟨v, hv⟩ : ∃ v, vs[i]? = some v := ⟨_, List.getElem?_eq_getElem (by rw [hvl.out]; exact hlt)⟩
      have hr0 := HG.out.rest i v l (Nat.le_refl _) hv hl
      obtain ⟨gv, cV, hVe, _, _, _, hcells⟩ := row_cells (own_move HV.out (w1 := wr) (fun q hq => HG.out.fx.2 q (own_lt HV.out q hq) (fun cs hc => by
        obtain ⟨cs', hc'⟩ := own_typed HV.out q hq
        rw [hc'] at hc; injection hc with hc; injection hc with _ hc; exact absurd hc (by decide)))) (by omega)
      have hcell := hcells i v hv
      injection hVe with q1 q2 q3
      subst q1; subst q3
      have HC := Aside0.mk (Cur.start hr0)
      have Hbq : Aside0 (base ≤ wr.heap.size) := ⟨HG.out.fx.base_le Hbase.out⟩
      obtain ⟨Av, cv, hve, _, _⟩ := Kd.R_reads hr0
      rw [marks_length] at hve
      subst hve
      have HVi := Aside0.mk hv
      clear hr0 hcells hv
      go_wp2_with fail
      go_loopg [5, 6] 12 (fun kq c v wq => ∃ k N : Nat, k + kq = 12 ∧ Aside0 (N = l.length + k) ∧ v = .int .i64 (k : Int) ∧ Aside0 (Cur (Kd.int .i64) 3 wr wq base (.slice Av l.length cv) c (marks mkInts i 0 l.length) (marks mkInts i 0 N)) ∧ Aside0 (base ≤ wq.heap.size))
      case atStart => exact ⟨0, l.length, by omega, ⟨rfl⟩, rfl, HC, Hbq⟩
      case round =>
        clear HC Hbq
        obtain ⟨k, N, hk, hN, rfl, HC, Hbq⟩ := hrel
        obtain ⟨A5, c5, h5, _, _⟩ := Kd.R_reads HC.out.r
        rw [marks_length] at h5
        subst h5
        by_cases hk1 : k < 12
        · have hk2 : (k : Int) < 12 := by omega
          obtain ⟨kz, rfl⟩ : ∃ z, gk = z + 1 := ⟨gk - 1, by omega⟩
          go_wp2_with fail
          refine (emulsionbook_markInts.calls 2 (i : Int) (N : Int) 1 _ _ (markInts_f i N 1 2 (by omega) (by omega) (by have := hN.out; have := hbd.out; omega))).mono ?_
          rintro e w6 ⟨vm, rfl, hrm, hbm⟩
          obtain ⟨Am, cm, hvm, hcm, _⟩ := Kd.R_reads hrm
          rw [marks_length] at hvm hcm
          subst hvm
          obtain ⟨gm, hAm, _, _, hCm⟩ := row_at0 hrm (by rw [marks_length]; omega)
          subst hAm
          rw [marks_length] at hCm
          have HMc := Aside0.mk hCm
          replace HC := Aside0.mk (HC.out.below flatInts hbm)
          replace Hbq := Aside0.mk (Nat.le_trans Hbq.out hbm.size)
          clear hrm hbm hcm hCm
          go_wp2_with (first | ((with_reducible refine gate_builtin (b := .append) (xs := #[.tmp 27, .tmp 31]) rfl ?_); at_builtin; refine Kd.R_append_kept (Kd.int .i64) base rfl (.tmp 27) (.tmp 31) 118 3 (.int .i64 0) 8 rfl Try.underlying118 ginfoInts rfl (by decide) (by decide) (.slice A5 N c5) (marks mkInts i 0 N) (marks mkInts i N 1) ⟨gm, 0, none⟩ 1 cm (fun _ => True) (fun _ => False) rfl rfl HC.out.r HMc.out (fun x cs h => h) (fun _ h => h.elim) (fun _ _ => trivial) (Below.refl _ _) Hbq.out (by rw [marks_length]; have := hN.out; have := hbd.out; omega) ?_; intro v7 w7 hr7 hb7 hg7 hat7 hk7; have HC7 := Aside0.mk (HC.out.more flatInts hr7 hg7 hat7 hk7); have Hbq7 := Aside0.mk (Nat.le_trans Hbq.out hg7.size); clear hr7 hb7 hg7 hat7 hk7; rw [marks_app0] at HC7))
          go_roundg kz
          case measure => omega
          case rel => exact ⟨k + 1, N + 1, by omega, ⟨by have := hN.out; omega⟩, by go_num, HC7, Hbq7⟩
        · obtain rfl : k = 12 := by omega
          go_wp2_with fail
          refine (emulsionbook_markInts.calls 61 (i : Int) (N : Int) 60 _ _ (markInts_f i N 60 61 (by omega) (by omega) (by have := hN.out; have := hbd.out; omega))).mono ?_
          rintro e w6 ⟨vm, rfl, hrm, hbm⟩
          obtain ⟨Am, cm, hvm, hcm, _⟩ := Kd.R_reads hrm
          rw [marks_length] at hvm hcm
          subst hvm
          obtain ⟨gm, hAm, _, _, hCm⟩ := row_at0 hrm (by rw [marks_length]; omega)
          subst hAm
          rw [marks_length] at hCm
          have HMc := Aside0.mk hCm
          replace HC := Aside0.mk (HC.out.below flatInts hbm)
          replace Hbq := Aside0.mk (Nat.le_trans Hbq.out hbm.size)
          clear hrm hbm hcm hCm
          go_wp2_with (first | ((with_reducible refine gate_builtin (b := .append) (xs := #[.tmp 34, .tmp 38]) rfl ?_); at_builtin; refine Kd.R_append_kept (Kd.int .i64) base rfl (.tmp 34) (.tmp 38) 118 3 (.int .i64 0) 8 rfl Try.underlying118 ginfoInts rfl (by decide) (by decide) (.slice A5 N c5) (marks mkInts i 0 N) (marks mkInts i N 60) ⟨gm, 0, none⟩ 60 cm (fun _ => True) (fun _ => False) rfl rfl HC.out.r HMc.out (fun x cs h => h) (fun _ h => h.elim) (fun _ _ => trivial) (Below.refl _ _) Hbq.out (by rw [marks_length]; have := hN.out; have := hbd.out; omega) ?_; intro v7 w7 hr7 hb7 hg7 hat7 hk7; have HC7 := Aside0.mk (HC.out.more flatInts hr7 hg7 hat7 hk7); have Hbq7 := Aside0.mk (Nat.le_trans Hbq.out hg7.size); clear hr7 hb7 hg7 hat7 hk7; rw [marks_app0] at HC7; obtain ⟨A8, c8, h8, _, _⟩ := Kd.R_reads HC7.out.r; rw [marks_length] at h8; subst h8; have HO7 := Aside0.mk (HG.out.O_at HVi.out HC7.out)) | ((with_reducible refine gate_builtin (b := .append) (xs := #[.tmp 33, .tmp 40]) rfl ?_); at_builtin; refine print_append_cells (w0 := w7) w.heap.size rfl (.tmp 33) (.tmp 40) 45 118 (.slice none 0 0) 1 24 rfl Try.underlying45 ginfoLInts rfl (by decide) (by decide) (.slice Ao i co) i os [.slice A8 (N + 60) c8] rfl rfl rfl (by intro u hu; rw [List.mem_singleton.1 hu]; rfl) HO7.out.1 (Below.refl _ _) HO7.out.2 (by omega) ?_; intro O9 w9 hO9 hb9 hg9 hat9; have hNe : N + 60 = l.length + 72 := (by have := hN.out; omega); rw [hNe] at HC7 hO9; have HG9 := Aside0.mk (HG.out.next rfl flatInts (by decide) HP.out Hbase.out HVi.out hl HC7.out hO9 hg9); clear hNe hO9 hb9 hg9 hat9))
          go_roundg kk
          case measure => omega
          case rel => exact ⟨i + 1, _, by omega, by go_num, HG9⟩
    · obtain rfl : i = L.length := by omega
      have hlt' : ¬ (L.length : Int) < (L.length : Int) := by omega
      go_wp2_with fail
      go_ret
      have h := HG.out.shows HV.out (by decide)
      exact ⟨_, rfl, ⟨_, h.1⟩, h.2⟩
theorem ginfoExtents : (Try.prog.info? 135).map (fun i => (i.zero, i.size, i.bytes)) = some (some (.agg #[.int .i64 0, .int .i64 0, .int .i64 0]), k135.sz, 24) := by kernel_rfl
theorem ginfoLExtents : (Try.prog.info? 120).map (fun i => (i.zero, i.size, i.bytes)) = some (some (.slice none 0 0), 1, 24) := by kernel_rfl
theorem flatExtents : Flat k135 := fun w w1 x cs h => by obtain rfl := k135_open h; exact k135_mk _ _
set_option maxRecDepth 100000 in
set_option maxHeartbeats 3200000 in
theorem grow_Extents (g base : Nat) (VI UI VS US : Value) (V U : Value) (vs : List Value) (L : List (List S135)) (w : World) (hb : Blk w g 52 (bookC VI UI VS US V U)) (hS : Shelf k135 135 120 w base V vs L (fun i l => marks mkExtents i 0 l.length))
    (hL : L.length ≤ 250) (hB : ∀ (i : Nat) l, L[i]? = some l → l.length ≤ 1000000) (hbase : base ≤ w.heap.size) :
    Calls Try.prog 75 #[.pointer (some ⟨g, 0, none⟩)] w fun e w' => ∃ O, e = .returned O ∧ ∃ os, Shows k135 135 120 w' w.heap.size O os L (fun i l => marks mkExtents i 0 (l.length + 72)) ∧ Shows k135 135 120 w' base V vs L (fun i l => marks mkExtents i 0 l.length) ∧ FxT 135 base w w' := by
  obtain ⟨A, n, rfl⟩ := row_slice hS.hV
  have HB := Aside0.mk hb
  have HG := Aside0.mk (hS.grown (G := fun i l => marks mkExtents i 0 (l.length + 72)))
  have HV := Aside0.mk hS.hV
  have HP := Aside0.mk hS.ne
  have HBd := Aside0.mk hB
  have HL := Aside0.mk hL
  have Hbase := Aside0.mk hbase
  have hvl := Aside0.mk hS.rv.1
  clear hb hS hB hL hbase
  go_enter Try.func75, Try.ntmps75
  go_wp2_with fail
  go_loopg [3, 4] L.length (fun kq o v wq => ∃ (i : Nat) (os : List Value), i + kq = L.length ∧ v = .int .i64 (i : Int) ∧ Aside0 (Grown k135 135 120 w wq base o vs os L (fun i l => marks mkExtents i 0 l.length) (fun i l => marks mkExtents i 0 (l.length + 72)) i))
  case atStart => exact ⟨0, [], by omega, rfl, HG⟩
  case round =>
    clear HG
    obtain ⟨i, os, hi, rfl, HG⟩ := hrel
    obtain ⟨Ao, co, rfl⟩ := row_slice HG.out.hO
    have hb1 := HG.out.fx.blk HB.out (by decide)
    have c4 := hb1.cell (i := 6) (v := .slice A L.length n) rfl
    clear hb1
    by_cases hlt : i < L.length
    · have hlt' : (i : Int) < (L.length : Int) := by omega
      have hi' : (i : Int) ≤ 250 := by have := HL.out; omega
      have hi2 : i ≤ 250 := by omega
      obtain ⟨kk, rfl⟩ : ∃ z, gk = z + 1 := ⟨gk - 1, by omega⟩
      obtain ⟨l, hl⟩ : ∃ l, L[i]? = some l := ⟨_, List.getElem?_eq_getElem hlt⟩
      have hbd := Aside0.mk (HBd.out i l hl)
      obtain ⟨v, hv⟩ : ∃ v, vs[i]? = some v := ⟨_, List.getElem?_eq_getElem (by rw [hvl.out]; exact hlt)⟩
      have hr0 := HG.out.rest i v l (Nat.le_refl _) hv hl
      obtain ⟨gv, cV, hVe, _, _, _, hcells⟩ := row_cells (own_move HV.out (w1 := wr) (fun q hq => HG.out.fx.2 q (own_lt HV.out q hq) (fun cs hc => by
        obtain ⟨cs', hc'⟩ := own_typed HV.out q hq
        rw [hc'] at hc; injection hc with hc; injection hc with _ hc; exact absurd hc (by decide)))) (by omega)
      have hcell := hcells i v hv
      injection hVe with q1 q2 q3
      subst q1; subst q3
      have HC := Aside0.mk (Cur.start hr0)
      have Hbq : Aside0 (base ≤ wr.heap.size) := ⟨HG.out.fx.base_le Hbase.out⟩
      obtain ⟨Av, cv, hve, _, _⟩ := Kd.R_reads hr0
      rw [marks_length] at hve
      subst hve
      have HVi := Aside0.mk hv
      clear hr0 hcells hv
      go_wp2_with fail
      go_loopg [5, 6] 12 (fun kq c v wq => ∃ k N : Nat, k + kq = 12 ∧ Aside0 (N = l.length + k) ∧ v = .int .i64 (k : Int) ∧ Aside0 (Cur k135 135 wr wq base (.slice Av l.length cv) c (marks mkExtents i 0 l.length) (marks mkExtents i 0 N)) ∧ Aside0 (base ≤ wq.heap.size))
      case atStart => exact ⟨0, l.length, by omega, ⟨rfl⟩, rfl, HC, Hbq⟩
      case round =>
        clear HC Hbq
        obtain ⟨k, N, hk, hN, rfl, HC, Hbq⟩ := hrel
        obtain ⟨A5, c5, h5, _, _⟩ := Kd.R_reads HC.out.r
        rw [marks_length] at h5
        subst h5
        by_cases hk1 : k < 12
        · have hk2 : (k : Int) < 12 := by omega
          obtain ⟨kz, rfl⟩ : ∃ z, gk = z + 1 := ⟨gk - 1, by omega⟩
          go_wp2_with fail
          refine (emulsionbook_markExtents.calls 2 (i : Int) (N : Int) 1 _ _ (markExtents_f i N 1 2 (by omega) (by omega) (by have := hN.out; have := hbd.out; omega))).mono ?_
          rintro e w6 ⟨vm, rfl, hrm, hbm⟩
          obtain ⟨Am, cm, hvm, hcm, _⟩ := Kd.R_reads hrm
          rw [marks_length] at hvm hcm
          subst hvm
          obtain ⟨gm, hAm, _, _, hCm⟩ := row_at0 hrm (by rw [marks_length]; omega)
          subst hAm
          rw [marks_length] at hCm
          have HMc := Aside0.mk hCm
          replace HC := Aside0.mk (HC.out.below flatExtents hbm)
          replace Hbq := Aside0.mk (Nat.le_trans Hbq.out hbm.size)
          clear hrm hbm hcm hCm
          go_wp2_with (first | ((with_reducible refine gate_builtin (b := .append) (xs := #[.tmp 27, .tmp 31]) rfl ?_); at_builtin; refine Kd.R_append_kept k135 base rfl (.tmp 27) (.tmp 31) 120 135 (.agg #[.int .i64 0, .int .i64 0, .int .i64 0]) 24 rfl Try.underlying120 ginfoExtents rfl (by decide) (by decide) (.slice A5 N c5) (marks mkExtents i 0 N) (marks mkExtents i N 1) ⟨gm, 0, none⟩ 1 cm (fun _ => True) (fun _ => False) rfl rfl HC.out.r HMc.out (fun x cs h => by obtain rfl := k135_open h; exact k135_mkM _ _ _ _) (fun _ h => h.elim) (fun _ _ => trivial) (Below.refl _ _) Hbq.out (by rw [marks_length]; have := hN.out; have := hbd.out; omega) ?_; intro v7 w7 hr7 hb7 hg7 hat7 hk7; have HC7 := Aside0.mk (HC.out.more flatExtents hr7 hg7 hat7 hk7); have Hbq7 := Aside0.mk (Nat.le_trans Hbq.out hg7.size); clear hr7 hb7 hg7 hat7 hk7; rw [marks_app0] at HC7))
          go_roundg kz
          case measure => omega
          case rel => exact ⟨k + 1, N + 1, by omega, ⟨by have := hN.out; omega⟩, by go_num, HC7, Hbq7⟩
        · obtain rfl : k = 12 := by omega
          go_wp2_with fail
          refine (emulsionbook_markExtents.calls 61 (i : Int) (N : Int) 60 _ _ (markExtents_f i N 60 61 (by omega) (by omega) (by have := hN.out; have := hbd.out; omega))).mono ?_
          rintro e w6 ⟨vm, rfl, hrm, hbm⟩
          obtain ⟨Am, cm, hvm, hcm, _⟩ := Kd.R_reads hrm
          rw [marks_length] at hvm hcm
          subst hvm
          obtain ⟨gm, hAm, _, _, hCm⟩ := row_at0 hrm (by rw [marks_length]; omega)
          subst hAm
          rw [marks_length] at hCm
          have HMc := Aside0.mk hCm
          replace HC := Aside0.mk (HC.out.below flatExtents hbm)
          replace Hbq := Aside0.mk (Nat.le_trans Hbq.out hbm.size)
          clear hrm hbm hcm hCm
          go_wp2_with (first | ((with_reducible refine gate_builtin (b := .append) (xs := #[.tmp 34, .tmp 38]) rfl ?_); at_builtin; refine Kd.R_append_kept k135 base rfl (.tmp 34) (.tmp 38) 120 135 (.agg #[.int .i64 0, .int .i64 0, .int .i64 0]) 24 rfl Try.underlying120 ginfoExtents rfl (by decide) (by decide) (.slice A5 N c5) (marks mkExtents i 0 N) (marks mkExtents i N 60) ⟨gm, 0, none⟩ 60 cm (fun _ => True) (fun _ => False) rfl rfl HC.out.r HMc.out (fun x cs h => by obtain rfl := k135_open h; exact k135_mkM _ _ _ _) (fun _ h => h.elim) (fun _ _ => trivial) (Below.refl _ _) Hbq.out (by rw [marks_length]; have := hN.out; have := hbd.out; omega) ?_; intro v7 w7 hr7 hb7 hg7 hat7 hk7; have HC7 := Aside0.mk (HC.out.more flatExtents hr7 hg7 hat7 hk7); have Hbq7 := Aside0.mk (Nat.le_trans Hbq.out hg7.size); clear hr7 hb7 hg7 hat7 hk7; rw [marks_app0] at HC7; obtain ⟨A8, c8, h8, _, _⟩ := Kd.R_reads HC7.out.r; rw [marks_length] at h8; subst h8; have HO7 := Aside0.mk (HG.out.O_at HVi.out HC7.out)) | ((with_reducible refine gate_builtin (b := .append) (xs := #[.tmp 33, .tmp 40]) rfl ?_); at_builtin; refine print_append_cells (w0 := w7) w.heap.size rfl (.tmp 33) (.tmp 40) 47 120 (.slice none 0 0) 1 24 rfl Try.underlying47 ginfoLExtents rfl (by decide) (by decide) (.slice Ao i co) i os [.slice A8 (N + 60) c8] rfl rfl rfl (by intro u hu; rw [List.mem_singleton.1 hu]; rfl) HO7.out.1 (Below.refl _ _) HO7.out.2 (by omega) ?_; intro O9 w9 hO9 hb9 hg9 hat9; have hNe : N + 60 = l.length + 72 := (by have := hN.out; omega); rw [hNe] at HC7 hO9; have HG9 := Aside0.mk (HG.out.next rfl flatExtents (by decide) HP.out Hbase.out HVi.out hl HC7.out hO9 hg9); clear hNe hO9 hb9 hg9 hat9))
          go_roundg kk
          case measure => omega
          case rel => exact ⟨i + 1, _, by omega, by go_num, HG9⟩
    · obtain rfl : i = L.length := by omega
      have hlt' : ¬ (L.length : Int) < (L.length : Int) := by omega
      go_wp2_with fail
      go_ret
      have h := HG.out.shows HV.out (by decide)
      exact ⟨_, rfl, ⟨_, h.1⟩, h.2⟩
end Go.Proofs.Ytffemlfdhkndiaa.Hand
end
section
namespace Go.Proofs.Ytffemlfdhkndiaa.Hand
open Go.RowKit Go.Proofs.YtffemlfdhkndiaaW.PrintWords Go.Proofs.YtffemlfdhkndiaaW.PrintLast Go.Proofs.YtffemlfdhkndiaaW.PrintMore Go.Proofs.Ytffemlfdhkndiaa.A
set_option linter.unusedVariables false
set_option linter.unusedSimpArgs false
attribute [local go_sem] max2_int min2_int max_two min_two max_three min_three max_four min_four
theorem lowB {n base : Nat} {w w1 : World} (hb : Below n w w1) (h : base ≤ n) : Below base w w1 := ⟨hb.os, hb.tape, hb.output, hb.size, fun k hk => hb.block k (by omega)⟩
theorem marked_Spans (t base n c : Nat) (ht : t ≤ 100) (A : Option Addr) (vs : List Value) (L : List (List S31)) (hL : L.length ≤ 250) (hB : ∀ (i : Nat) l, L[i]? = some l → l.length ≤ 1000000) (w : World)
    (h : Shows k31 31 22 w base (.slice A n c) vs L (fun i l => marks mkSpans i 0 (l.length + t))) :
    Calls Try.prog 81 #[.slice A n c] w fun e w' => e = .returned (.bool true) ∧ Below w.heap.size w w' := by
  obtain ⟨hn, hc, hC⟩ := h.calls
  subst hn
  have hlen : (L.mapIdx (fun i l => marks mkSpans i 0 (l.length + t))).length = L.length := List.length_mapIdx
  refine emulsionbook_markedSpans.calls 2000000 A c _ true w hC hc (markedSpans_f _ (by rw [hlen]; omega) 1000100 (by omega) (fun i l hl => ?_) _ (by rw [hlen]; omega))
  rw [List.getElem?_mapIdx] at hl
  obtain ⟨l0, hl0, rfl⟩ := Option.map_eq_some_iff.1 hl
  have := hB i l0 hl0
  rw [marks_length]
  exact ⟨by omega, rfl⟩
theorem marked_Ints (t base n c : Nat) (ht : t ≤ 100) (A : Option Addr) (vs : List Value) (L : List (List Int)) (hL : L.length ≤ 250) (hB : ∀ (i : Nat) l, L[i]? = some l → l.length ≤ 1000000) (w : World)
    (h : Shows (Kd.int .i64) 3 118 w base (.slice A n c) vs L (fun i l => marks mkInts i 0 (l.length + t))) :
    Calls Try.prog 80 #[.slice A n c] w fun e w' => e = .returned (.bool true) ∧ Below w.heap.size w w' := by
  obtain ⟨hn, hc, hC⟩ := h.calls
  subst hn
  have hlen : (L.mapIdx (fun i l => marks mkInts i 0 (l.length + t))).length = L.length := List.length_mapIdx
  refine emulsionbook_markedInts.calls 2000000 A c _ true w hC hc (markedInts_f _ (by rw [hlen]; omega) 1000100 (by omega) (fun i l hl => ?_) _ (by rw [hlen]; omega))
  rw [List.getElem?_mapIdx] at hl
  obtain ⟨l0, hl0, rfl⟩ := Option.map_eq_some_iff.1 hl
  have := hB i l0 hl0
  rw [marks_length]
  exact ⟨by omega, rfl⟩
theorem marked_Extents (t base n c : Nat) (ht : t ≤ 100) (A : Option Addr) (vs : List Value) (L : List (List S135)) (hL : L.length ≤ 250) (hB : ∀ (i : Nat) l, L[i]? = some l → l.length ≤ 1000000) (w : World)
    (h : Shows k135 135 120 w base (.slice A n c) vs L (fun i l => marks mkExtents i 0 (l.length + t))) :
    Calls Try.prog 82 #[.slice A n c] w fun e w' => e = .returned (.bool true) ∧ Below w.heap.size w w' := by
  obtain ⟨hn, hc, hC⟩ := h.calls
  subst hn
  have hlen : (L.mapIdx (fun i l => marks mkExtents i 0 (l.length + t))).length = L.length := List.length_mapIdx
  refine emulsionbook_markedExtents.calls 2000000 A c _ true w hC hc (markedExtents_f _ (by rw [hlen]; omega) 1000100 (by omega) (fun i l hl => ?_) _ (by rw [hlen]; omega))
  rw [List.getElem?_mapIdx] at hl
  obtain ⟨l0, hl0, rfl⟩ := Option.map_eq_some_iff.1 hl
  have := hB i l0 hl0
  rw [marks_length]
  exact ⟨by omega, rfl⟩
set_option maxRecDepth 100000 in
set_option maxHeartbeats 6400000 in
theorem apart (g base : Nat) (VI UI VS US VE UE : Value) (vi ui vss us ve ue : List Value) (LI : List (List Int)) (LS : List (List S31)) (LE : List (List S135)) (w : World)
    (hb : Blk w g 52 (bookC VI UI VS US VE UE)) (hI : Pile (Kd.int .i64) 3 118 w base VI UI vi ui LI) (hS : Pile k31 31 22 w base VS US vss us LS) (hE : Pile k135 135 120 w base VE UE ve ue LE)
    (bI : LI.length ≤ 250 ∧ ∀ (i : Nat) l, LI[i]? = some l → l.length ≤ 1000000) (bS : LS.length ≤ 250 ∧ ∀ (i : Nat) l, LS[i]? = some l → l.length ≤ 1000000) (bE : LE.length ≤ 250 ∧ ∀ (i : Nat) l, LE[i]? = some l → l.length ≤ 1000000) (hbase : base ≤ w.heap.size) :
    Calls Try.prog 33 #[.pointer (some ⟨g, 0, none⟩)] w fun e w' => e = .returned (.bool true) ∧ Below base w w' := by
  have HF := Aside0.mk (Below.refl base w)
  obtain ⟨AI, nI, rfl⟩ := row_slice hI.hV
  obtain ⟨AS, nS, rfl⟩ := row_slice hS.hV
  obtain ⟨AE, nE, rfl⟩ := row_slice hE.hV
  have HB := Aside0.mk hb
  have HI := Aside0.mk hI
  have HS := Aside0.mk hS
  have HE := Aside0.mk hE
  have BHI := Aside0.mk bI
  have BHS := Aside0.mk bS
  have BHE := Aside0.mk bE
  have Hbase := Aside0.mk hbase
  clear hb hI hS hE bI bS bE hbase
  go_enter Try.func33, Try.ntmps33
  go_wp2_with fail
  refine (still_nil_Texts g _ _ HB.out rfl).mono ?_
  rintro e w1 ⟨rfl, rfl⟩
  go_wp2_with fail
  refine (still_Ints g base _ _ _ _ _ _ _ _ _ _ HB.out HI.out BHI.out.1 BHI.out.2).mono ?_
  rintro e w1 ⟨rfl, hb⟩
  replace HI := Aside0.mk (HI.out.below hb)
  replace HS := Aside0.mk (HS.out.below hb)
  replace HE := Aside0.mk (HE.out.below hb)
  replace HB := Aside0.mk (HB.out.keep hb)
  replace HF := Aside0.mk (HF.out.trans (lowB hb Hbase.out))
  replace Hbase := Aside0.mk (Nat.le_trans Hbase.out hb.size)
  clear hb
  go_wp2_with fail
  refine (still_Spans g base _ _ _ _ _ _ _ _ _ _ HB.out HS.out BHS.out.1 BHS.out.2).mono ?_
  rintro e w1 ⟨rfl, hb⟩
  replace HI := Aside0.mk (HI.out.below hb)
  replace HS := Aside0.mk (HS.out.below hb)
  replace HE := Aside0.mk (HE.out.below hb)
  replace HB := Aside0.mk (HB.out.keep hb)
  replace HF := Aside0.mk (HF.out.trans (lowB hb Hbase.out))
  replace Hbase := Aside0.mk (Nat.le_trans Hbase.out hb.size)
  clear hb
  go_wp2_with fail
  refine (still_Extents g base _ _ _ _ _ _ _ _ _ _ HB.out HE.out BHE.out.1 BHE.out.2).mono ?_
  rintro e w1 ⟨rfl, hb⟩
  replace HI := Aside0.mk (HI.out.below hb)
  replace HS := Aside0.mk (HS.out.below hb)
  replace HE := Aside0.mk (HE.out.below hb)
  replace HB := Aside0.mk (HB.out.keep hb)
  replace HF := Aside0.mk (HF.out.trans (lowB hb Hbase.out))
  replace Hbase := Aside0.mk (Nat.le_trans Hbase.out hb.size)
  clear hb
  go_wp2_with fail
  refine (still_nil_Shelves g _ _ HB.out rfl).mono ?_
  rintro e w1 ⟨rfl, rfl⟩
  go_wp2_with fail
  refine (still_nil_Pairs g _ _ HB.out rfl).mono ?_
  rintro e w1 ⟨rfl, rfl⟩
  go_wp2_with fail
  refine (still_nil_Points g _ _ HB.out rfl).mono ?_
  rintro e w1 ⟨rfl, rfl⟩
  go_wp2_with fail
  replace HI := Aside0.mk HI.out.shelf
  replace HS := Aside0.mk HS.out.shelf
  replace HE := Aside0.mk HE.out.shelf
  refine (put_nil_Points g _ _ HB.out rfl).mono ?_
  rintro e w1 ⟨rfl, rfl⟩
  go_wp2_with fail
  refine (put_nil_Texts g _ _ HB.out rfl).mono ?_
  rintro e w1 ⟨rfl, rfl⟩
  go_wp2_with fail
  refine (put_Ints g base _ _ _ _ _ _ _ _ _ HB.out HI.out BHI.out.1 BHI.out.2 Hbase.out).mono ?_
  rintro e w1 ⟨rfl, hs, hx⟩
  replace HI := Aside0.mk hs
  replace HS := Aside0.mk (HS.out.fx rfl hx (by decide) (by decide))
  replace HE := Aside0.mk (HE.out.fx rfl hx (by decide) (by decide))
  replace HB := Aside0.mk (hx.blk HB.out (by decide))
  replace HF := Aside0.mk (HF.out.trans hx.1)
  replace Hbase := Aside0.mk (hx.base_le Hbase.out)
  clear hs hx
  go_wp2_with fail
  refine (put_Spans g base _ _ _ _ _ _ _ _ _ HB.out HS.out BHS.out.1 BHS.out.2 Hbase.out).mono ?_
  rintro e w1 ⟨rfl, hs, hx⟩
  replace HS := Aside0.mk hs
  replace HI := Aside0.mk (HI.out.fx rfl hx (by decide) (by decide))
  replace HE := Aside0.mk (HE.out.fx rfl hx (by decide) (by decide))
  replace HB := Aside0.mk (hx.blk HB.out (by decide))
  replace HF := Aside0.mk (HF.out.trans hx.1)
  replace Hbase := Aside0.mk (hx.base_le Hbase.out)
  clear hs hx
  go_wp2_with fail
  refine (put_Extents g base _ _ _ _ _ _ _ _ _ HB.out HE.out BHE.out.1 BHE.out.2 Hbase.out).mono ?_
  rintro e w1 ⟨rfl, hs, hx⟩
  replace HE := Aside0.mk hs
  replace HI := Aside0.mk (HI.out.fx rfl hx (by decide) (by decide))
  replace HS := Aside0.mk (HS.out.fx rfl hx (by decide) (by decide))
  replace HB := Aside0.mk (hx.blk HB.out (by decide))
  replace HF := Aside0.mk (HF.out.trans hx.1)
  replace Hbase := Aside0.mk (hx.base_le Hbase.out)
  clear hs hx
  go_wp2_with fail
  refine (put_nil_Shelves g _ _ HB.out rfl).mono ?_
  rintro e w1 ⟨rfl, rfl⟩
  go_wp2_with fail
  refine (put_nil_Pairs g _ _ HB.out rfl).mono ?_
  rintro e w1 ⟨rfl, rfl⟩
  go_wp2_with fail
  refine (grow_nil_Texts g _ _ HB.out rfl).mono ?_
  rintro e w1 ⟨rfl, rfl⟩
  go_wp2_with fail
  refine (grow_Ints g base _ _ _ _ _ _ _ _ _ HB.out HI.out BHI.out.1 BHI.out.2 Hbase.out).mono ?_
  rintro e w1 ⟨OHI, rfl, osHI, hs1, hs2, hx⟩
  obtain ⟨AHI, cHI, hO⟩ := row_slice hs1.1
  subst hO
  have GHI := Aside0.mk hs1
  have KHI := Aside0.mk hs2
  replace HS := Aside0.mk (HS.out.fx rfl hx (by decide) (by decide))
  replace HE := Aside0.mk (HE.out.fx rfl hx (by decide) (by decide))
  replace HB := Aside0.mk (hx.blk HB.out (by decide))
  replace HF := Aside0.mk (HF.out.trans hx.1)
  replace Hbase := Aside0.mk (hx.base_le Hbase.out)
  clear hs1 hs2 hx HI
  go_wp2_with fail
  refine (grow_Spans g base _ _ _ _ _ _ _ _ _ HB.out HS.out BHS.out.1 BHS.out.2 Hbase.out).mono ?_
  rintro e w1 ⟨OHS, rfl, osHS, hs1, hs2, hx⟩
  obtain ⟨AHS, cHS, hO⟩ := row_slice hs1.1
  subst hO
  have GHS := Aside0.mk hs1
  have KHS := Aside0.mk hs2
  replace HE := Aside0.mk (HE.out.fx rfl hx (by decide) (by decide))
  replace GHI := Aside0.mk (GHI.out.fx flatInts hx (by decide) (by decide))
  replace KHI := Aside0.mk (KHI.out.fx flatInts hx (by decide) (by decide))
  replace HB := Aside0.mk (hx.blk HB.out (by decide))
  replace HF := Aside0.mk (HF.out.trans hx.1)
  replace Hbase := Aside0.mk (hx.base_le Hbase.out)
  clear hs1 hs2 hx HS
  go_wp2_with fail
  refine (grow_Extents g base _ _ _ _ _ _ _ _ _ HB.out HE.out BHE.out.1 BHE.out.2 Hbase.out).mono ?_
  rintro e w1 ⟨OHE, rfl, osHE, hs1, hs2, hx⟩
  obtain ⟨AHE, cHE, hO⟩ := row_slice hs1.1
  subst hO
  have GHE := Aside0.mk hs1
  have KHE := Aside0.mk hs2
  replace GHI := Aside0.mk (GHI.out.fx flatInts hx (by decide) (by decide))
  replace KHI := Aside0.mk (KHI.out.fx flatInts hx (by decide) (by decide))
  replace GHS := Aside0.mk (GHS.out.fx flatSpans hx (by decide) (by decide))
  replace KHS := Aside0.mk (KHS.out.fx flatSpans hx (by decide) (by decide))
  replace HB := Aside0.mk (hx.blk HB.out (by decide))
  replace HF := Aside0.mk (HF.out.trans hx.1)
  replace Hbase := Aside0.mk (hx.base_le Hbase.out)
  clear hs1 hs2 hx HE
  go_wp2_with fail
  refine (grow_nil_Shelves g _ _ HB.out rfl).mono ?_
  rintro e w1 ⟨rfl, rfl⟩
  go_wp2_with fail
  refine (grow_nil_Pairs g _ _ HB.out rfl).mono ?_
  rintro e w1 ⟨rfl, rfl⟩
  go_wp2_with fail
  refine (grow_nil_Points g _ _ HB.out rfl).mono ?_
  rintro e w1 ⟨rfl, rfl⟩
  have c0 := HB.out.cell (i := 0) (v := .slice none 0 0) rfl
  have c2 := HB.out.cell (i := 2) (v := .slice AI LI.length nI) rfl
  have c4 := HB.out.cell (i := 4) (v := .slice AS LS.length nS) rfl
  have c6 := HB.out.cell (i := 6) (v := .slice AE LE.length nE) rfl
  have c8 := HB.out.cell (i := 8) (v := .slice none 0 0) rfl
  have c10 := HB.out.cell (i := 10) (v := .slice none 0 0) rfl
  have c12 := HB.out.cell (i := 12) (v := .slice none 0 0) rfl
  go_wp2_with fail
  refine (marked_nil_Texts _).mono ?_
  rintro e w1 ⟨rfl, rfl⟩
  go_wp2_with fail
  refine (marked_nil_Texts _).mono ?_
  rintro e w1 ⟨rfl, rfl⟩
  go_wp2_with fail
  refine (marked_Ints 72 _ _ _ (by decide) _ _ _ BHI.out.1 BHI.out.2 _ GHI.out).mono ?_
  rintro e w1 ⟨rfl, hb⟩
  clear c0 c2 c4 c6 c8 c10 c12
  replace GHI := Aside0.mk (GHI.out.below flatInts hb)
  replace KHI := Aside0.mk (KHI.out.below flatInts hb)
  replace GHS := Aside0.mk (GHS.out.below flatSpans hb)
  replace KHS := Aside0.mk (KHS.out.below flatSpans hb)
  replace GHE := Aside0.mk (GHE.out.below flatExtents hb)
  replace KHE := Aside0.mk (KHE.out.below flatExtents hb)
  replace HB := Aside0.mk (HB.out.keep hb)
  replace HF := Aside0.mk (HF.out.trans (lowB hb Hbase.out))
  replace Hbase := Aside0.mk (Nat.le_trans Hbase.out hb.size)
  clear hb
  have c0 := HB.out.cell (i := 0) (v := .slice none 0 0) rfl
  have c2 := HB.out.cell (i := 2) (v := .slice AI LI.length nI) rfl
  have c4 := HB.out.cell (i := 4) (v := .slice AS LS.length nS) rfl
  have c6 := HB.out.cell (i := 6) (v := .slice AE LE.length nE) rfl
  have c8 := HB.out.cell (i := 8) (v := .slice none 0 0) rfl
  have c10 := HB.out.cell (i := 10) (v := .slice none 0 0) rfl
  have c12 := HB.out.cell (i := 12) (v := .slice none 0 0) rfl
  go_wp2_with fail
  refine (marked_Ints 0 _ _ _ (by decide) _ _ _ BHI.out.1 BHI.out.2 _ KHI.out).mono ?_
  rintro e w1 ⟨rfl, hb⟩
  clear c0 c2 c4 c6 c8 c10 c12
  replace GHI := Aside0.mk (GHI.out.below flatInts hb)
  replace KHI := Aside0.mk (KHI.out.below flatInts hb)
  replace GHS := Aside0.mk (GHS.out.below flatSpans hb)
  replace KHS := Aside0.mk (KHS.out.below flatSpans hb)
  replace GHE := Aside0.mk (GHE.out.below flatExtents hb)
  replace KHE := Aside0.mk (KHE.out.below flatExtents hb)
  replace HB := Aside0.mk (HB.out.keep hb)
  replace HF := Aside0.mk (HF.out.trans (lowB hb Hbase.out))
  replace Hbase := Aside0.mk (Nat.le_trans Hbase.out hb.size)
  clear hb
  have c0 := HB.out.cell (i := 0) (v := .slice none 0 0) rfl
  have c2 := HB.out.cell (i := 2) (v := .slice AI LI.length nI) rfl
  have c4 := HB.out.cell (i := 4) (v := .slice AS LS.length nS) rfl
  have c6 := HB.out.cell (i := 6) (v := .slice AE LE.length nE) rfl
  have c8 := HB.out.cell (i := 8) (v := .slice none 0 0) rfl
  have c10 := HB.out.cell (i := 10) (v := .slice none 0 0) rfl
  have c12 := HB.out.cell (i := 12) (v := .slice none 0 0) rfl
  go_wp2_with fail
  refine (marked_Spans 72 _ _ _ (by decide) _ _ _ BHS.out.1 BHS.out.2 _ GHS.out).mono ?_
  rintro e w1 ⟨rfl, hb⟩
  clear c0 c2 c4 c6 c8 c10 c12
  replace GHI := Aside0.mk (GHI.out.below flatInts hb)
  replace KHI := Aside0.mk (KHI.out.below flatInts hb)
  replace GHS := Aside0.mk (GHS.out.below flatSpans hb)
  replace KHS := Aside0.mk (KHS.out.below flatSpans hb)
  replace GHE := Aside0.mk (GHE.out.below flatExtents hb)
  replace KHE := Aside0.mk (KHE.out.below flatExtents hb)
  replace HB := Aside0.mk (HB.out.keep hb)
  replace HF := Aside0.mk (HF.out.trans (lowB hb Hbase.out))
  replace Hbase := Aside0.mk (Nat.le_trans Hbase.out hb.size)
  clear hb
  have c0 := HB.out.cell (i := 0) (v := .slice none 0 0) rfl
  have c2 := HB.out.cell (i := 2) (v := .slice AI LI.length nI) rfl
  have c4 := HB.out.cell (i := 4) (v := .slice AS LS.length nS) rfl
  have c6 := HB.out.cell (i := 6) (v := .slice AE LE.length nE) rfl
  have c8 := HB.out.cell (i := 8) (v := .slice none 0 0) rfl
  have c10 := HB.out.cell (i := 10) (v := .slice none 0 0) rfl
  have c12 := HB.out.cell (i := 12) (v := .slice none 0 0) rfl
  go_wp2_with fail
  refine (marked_Spans 0 _ _ _ (by decide) _ _ _ BHS.out.1 BHS.out.2 _ KHS.out).mono ?_
  rintro e w1 ⟨rfl, hb⟩
  clear c0 c2 c4 c6 c8 c10 c12
  replace GHI := Aside0.mk (GHI.out.below flatInts hb)
  replace KHI := Aside0.mk (KHI.out.below flatInts hb)
  replace GHS := Aside0.mk (GHS.out.below flatSpans hb)
  replace KHS := Aside0.mk (KHS.out.below flatSpans hb)
  replace GHE := Aside0.mk (GHE.out.below flatExtents hb)
  replace KHE := Aside0.mk (KHE.out.below flatExtents hb)
  replace HB := Aside0.mk (HB.out.keep hb)
  replace HF := Aside0.mk (HF.out.trans (lowB hb Hbase.out))
  replace Hbase := Aside0.mk (Nat.le_trans Hbase.out hb.size)
  clear hb
  have c0 := HB.out.cell (i := 0) (v := .slice none 0 0) rfl
  have c2 := HB.out.cell (i := 2) (v := .slice AI LI.length nI) rfl
  have c4 := HB.out.cell (i := 4) (v := .slice AS LS.length nS) rfl
  have c6 := HB.out.cell (i := 6) (v := .slice AE LE.length nE) rfl
  have c8 := HB.out.cell (i := 8) (v := .slice none 0 0) rfl
  have c10 := HB.out.cell (i := 10) (v := .slice none 0 0) rfl
  have c12 := HB.out.cell (i := 12) (v := .slice none 0 0) rfl
  go_wp2_with fail
  refine (marked_Extents 72 _ _ _ (by decide) _ _ _ BHE.out.1 BHE.out.2 _ GHE.out).mono ?_
  rintro e w1 ⟨rfl, hb⟩
  clear c0 c2 c4 c6 c8 c10 c12
  replace GHI := Aside0.mk (GHI.out.below flatInts hb)
  replace KHI := Aside0.mk (KHI.out.below flatInts hb)
  replace GHS := Aside0.mk (GHS.out.below flatSpans hb)
  replace KHS := Aside0.mk (KHS.out.below flatSpans hb)
  replace GHE := Aside0.mk (GHE.out.below flatExtents hb)
  replace KHE := Aside0.mk (KHE.out.below flatExtents hb)
  replace HB := Aside0.mk (HB.out.keep hb)
  replace HF := Aside0.mk (HF.out.trans (lowB hb Hbase.out))
  replace Hbase := Aside0.mk (Nat.le_trans Hbase.out hb.size)
  clear hb
  have c0 := HB.out.cell (i := 0) (v := .slice none 0 0) rfl
  have c2 := HB.out.cell (i := 2) (v := .slice AI LI.length nI) rfl
  have c4 := HB.out.cell (i := 4) (v := .slice AS LS.length nS) rfl
  have c6 := HB.out.cell (i := 6) (v := .slice AE LE.length nE) rfl
  have c8 := HB.out.cell (i := 8) (v := .slice none 0 0) rfl
  have c10 := HB.out.cell (i := 10) (v := .slice none 0 0) rfl
  have c12 := HB.out.cell (i := 12) (v := .slice none 0 0) rfl
  go_wp2_with fail
  refine (marked_Extents 0 _ _ _ (by decide) _ _ _ BHE.out.1 BHE.out.2 _ KHE.out).mono ?_
  rintro e w1 ⟨rfl, hb⟩
  clear c0 c2 c4 c6 c8 c10 c12
  replace GHI := Aside0.mk (GHI.out.below flatInts hb)
  replace KHI := Aside0.mk (KHI.out.below flatInts hb)
  replace GHS := Aside0.mk (GHS.out.below flatSpans hb)
  replace KHS := Aside0.mk (KHS.out.below flatSpans hb)
  replace GHE := Aside0.mk (GHE.out.below flatExtents hb)
  replace KHE := Aside0.mk (KHE.out.below flatExtents hb)
  replace HB := Aside0.mk (HB.out.keep hb)
  replace HF := Aside0.mk (HF.out.trans (lowB hb Hbase.out))
  replace Hbase := Aside0.mk (Nat.le_trans Hbase.out hb.size)
  clear hb
  have c0 := HB.out.cell (i := 0) (v := .slice none 0 0) rfl
  have c2 := HB.out.cell (i := 2) (v := .slice AI LI.length nI) rfl
  have c4 := HB.out.cell (i := 4) (v := .slice AS LS.length nS) rfl
  have c6 := HB.out.cell (i := 6) (v := .slice AE LE.length nE) rfl
  have c8 := HB.out.cell (i := 8) (v := .slice none 0 0) rfl
  have c10 := HB.out.cell (i := 10) (v := .slice none 0 0) rfl
  have c12 := HB.out.cell (i := 12) (v := .slice none 0 0) rfl
  go_wp2_with fail
  refine (marked_nil_Shelves _).mono ?_
  rintro e w1 ⟨rfl, rfl⟩
  go_wp2_with fail
  refine (marked_nil_Shelves _).mono ?_
  rintro e w1 ⟨rfl, rfl⟩
  go_wp2_with fail
  refine (marked_nil_Pairs _).mono ?_
  rintro e w1 ⟨rfl, rfl⟩
  go_wp2_with fail
  refine (marked_nil_Pairs _).mono ?_
  rintro e w1 ⟨rfl, rfl⟩
  go_wp2_with fail
  refine (marked_nil_Points _).mono ?_
  rintro e w1 ⟨rfl, rfl⟩
  go_wp2_with fail
  refine (marked_nil_Points _).mono ?_
  rintro e w1 ⟨rfl, rfl⟩
  go_wp2_with fail
  go_ret
  exact ⟨rfl, HF.out⟩
end Go.Proofs.Ytffemlfdhkndiaa.Hand
end
section
namespace Go.Proofs.Ytffemlfdhkndiaa.Hand
open Go.RowKit Go.Proofs.YtffemlfdhkndiaaW.PrintWords Go.Proofs.YtffemlfdhkndiaaW.PrintLast Go.Proofs.YtffemlfdhkndiaaW.PrintMore Go.Proofs.Ytffemlfdhkndiaa.A
set_option linter.unusedVariables false
set_option linter.unusedSimpArgs false
attribute [local go_sem] max2_int min2_int max_two min_two max_three min_three max_four min_four
set_option maxRecDepth 100000 in
theorem copy_Spans (A : Option Addr) (c : Nat) (l : List S31) (hl : l.length ≤ 1000000) (w : World) (hC : Kd.C k31 w A l.length l) :
    Calls Try.prog 56 #[.slice A l.length c] w fun e w' => ∃ u, e = .returned u ∧ Kd.R k31 31 w' w.heap.size (fun _ => True) u l ∧ Below w.heap.size w w' := by
  have HC := Aside0.mk hC
  have Hl := Aside0.mk hl
  clear hC hl
  go_enter Try.func56, Try.ntmps56
  go_wp2_with (at_builtin; refine Kd.R_append_rows k31 (w0 := w) w.heap.size rfl (.const (.slice none 0 0)) (.tmp 3) 22 31 (.agg #[.int .i64 0, .int .i64 0]) 16 rfl Try.underlying22 ginfoSpans rfl (by decide) (by decide) (.slice none 0 0) [] l A l.length c (fun _ => True) (fun _ => False) rfl rfl (Kd.R_nil _ _ _ _ _) HC.out (fun x cs h => by obtain rfl := k31_open h; exact k31_mkM _ _ _ _) (fun _ h => h.elim) (fun _ _ => trivial) (Below.refl _ _) (Nat.le_refl _) (by have := Hl.out; rw [List.length_nil]; omega) ?_; intro v1 w1 hr hb hg hat)
  have HR := Aside0.mk hr
  have HB := Aside0.mk hb
  clear hr hb hg hat
  rw [List.nil_append] at HR
  obtain ⟨A1, c1, hv, _⟩ := Kd.R_reads HR.out
  subst hv
  go_ret
  exact ⟨_, rfl, HR.out, HB.out⟩
set_option maxRecDepth 100000 in
set_option maxHeartbeats 1600000 in
theorem add_Spans (g base : Nat) (VI UI VE UE : Value) (V U : Value) (vs us : List Value) (L : List (List S31)) (v : Value) (l : List S31) (w : World) (hb : Blk w g 52 (bookC VI UI V U VE UE)) (hP : Pile k31 31 22 w base V U vs us L)
    (hv : Kd.R k31 31 w base (fun _ => True) v l) (hl : l.length ≤ 1000000) (hL : L.length < 250) (hnv : ∀ x ∈ vs ++ us, NeRow x v) (hbase : base ≤ w.heap.size) (hg : base ≤ g) :
    Calls Try.prog 27 #[.pointer (some ⟨g, 0, none⟩), v] w fun e w' => e = .returned (.tuple #[]) ∧ ∃ V' U' u, Blk w' g 52 (bookC VI UI V' U' VE UE) ∧ Pile k31 31 22 w' base V' U' (vs ++ [v]) (us ++ [u]) (L ++ [l]) ∧ (∀ k, u.ownBlock = some k → w.heap.size ≤ k) ∧ BookFx 22 g base w w' := by
  obtain ⟨A, n, rfl⟩ := row_slice hP.hV
  obtain ⟨AU, nU, rfl⟩ := row_slice hP.hU
  obtain ⟨Av, cv, rfl, hcv, hCv⟩ := Kd.R_reads hv
  have c4 : w.cell? ⟨g, 4, none⟩ = some (.slice A L.length n) := hb.cell (i := 4) rfl
  have f4 := hb.frozen 4
  have HB := Aside0.mk hb
  have HP := Aside0.mk hP
  have HV := Aside0.mk hv
  have HC := Aside0.mk hCv
  have Hl := Aside0.mk hl
  have Hn := Aside0.mk hnv
  have Hbase := Aside0.mk hbase
  have Hg := Aside0.mk hg
  have HLn := Aside0.mk hL
  have hLi : (L.length : Int) < 250 := by omega
  have hgl : g < w.heap.size := hb.lt
  clear hb hP hv hCv hl hnv hbase hg hcv hL
  go_enter Try.func27, Try.ntmps27
  go_wp2_with (first | ((with_reducible refine gate_builtin (b := .append) (xs := #[.tmp 14, .tmp 16]) rfl ?_); at_builtin; refine print_append_cells (w0 := w) base rfl (.tmp 14) (.tmp 16) 46 22 (.slice none 0 0) 1 24 rfl Try.underlying46 ginfoLSpans rfl (by decide) (by decide) (.slice A L.length n) L.length vs [.slice Av l.length cv] rfl rfl rfl (by intro u hu; rw [List.mem_singleton.1 hu]; rfl) HP.out.hV (Below.refl _ _) Hbase.out (by have := HLn.out; omega) ?_; intro V1 w1 hV1 hb1 hg1 hat1; have HV1 := Aside0.mk hV1; have HW1 := Aside0.mk hb1; have HG1 := Aside0.mk hg1; have HA1 := Aside0.mk hat1; obtain ⟨A1, n1, hV1e⟩ := row_slice hV1; subst hV1e; have HB1 := Aside0.mk (HB.out.grownB hg1 (fun q => own_ne HP.out.hV HB.out.hd (by decide) q.symm)); have c4 : w1.cell? ⟨g, 4, none⟩ = some (.slice A L.length n) := HB1.out.cell (i := 4) rfl; have f4 := HB1.out.frozen 4; clear hV1 hb1 hg1 hat1))
  have hc2 : Kd.C k31 (w1.setCell ⟨g, 4, none⟩ (.slice A1 (L.length + 1) n1)) Av l.length l := (C_of_R (add_R (j := 4) rfl (by decide) (by decide) HP.out.hV HV.out HB1.out HG1.out)).1
  have hb2 : Blk (w1.setCell ⟨g, 4, none⟩ (.slice A1 (L.length + 1) n1)) g 52 (bookC VI UI (.slice A1 (L.length + 1) n1) (.slice AU L.length nU) VE UE) := HB1.out.set_ 4 _
  have c5 : (w1.setCell ⟨g, 4, none⟩ (.slice A1 (L.length + 1) n1)).cell? ⟨g, 5, none⟩ = some (.slice AU L.length nU) := hb2.cell (i := 5) rfl
  have HC2 := Aside0.mk hc2
  have HB2 := Aside0.mk hb2
  generalize hw2 : w1.setCell ⟨g, 4, none⟩ (.slice A1 (L.length + 1) n1) = w2 at c5 HC2 HB2 ⊢
  clear hc2 hb2 c4 f4
  refine start_ (n := 12) (S := fun w' => w'.cell? ⟨g, 5, none⟩ = some (.slice AU L.length nU) ∧ Below w2.heap.size w2 w' ∧ Kd.C k31 w' Av l.length l ∧ Blk w' g 52 (bookC VI UI (.slice A1 (L.length + 1) n1) (.slice AU L.length nU) VE UE)) (ds := [8, 11]) #[false, false, false, false, false, false, false, false, false, false, false, false] (by kernel_rfl) rfl rfl ⟨c5, (below_drew (Below.refl _ _)), (Kd.C_drew HC2.out), HB2.out.drew⟩ (fun hHeld => ?_)
  refine pure_ (i := 0) (N := some 20) (v := ?_) (a' := ?_) #[true, false, false, false, false, false, false, false, false, false, false, false] rfl rfl (by kernel_rfl) (fun _ _ _ h => h) (Or.inl ⟨by rfl, ?_⟩) ?_ ?_
  rotate_left
  · intro w'
    go_simp
    with_reducible rfl
  rotate_left
  · simp only [Act.put, List.setIfInBounds_toArray, List.set_cons_zero, List.set_cons_succ, i64_w, i32_w]
    rfl
  refine pure_ (i := 1) (N := some 21) (v := ?_) (a' := ?_) #[true, true, false, false, false, false, false, false, false, false, false, false] rfl rfl (by kernel_rfl) (fun _ _ _ h => h) (Or.inl ⟨by rfl, ?_⟩) ?_ ?_
  rotate_left
  · intro w'
    go_simp
    with_reducible rfl
  rotate_left
  · simp only [Act.put, List.setIfInBounds_toArray, List.set_cons_zero, List.set_cons_succ, i64_w, i32_w]
    rfl
  refine pure_ (i := 2) (N := some 22) (v := ?_) (a' := ?_) #[true, true, true, false, false, false, false, false, false, false, false, false] rfl rfl (by kernel_rfl) (fun _ _ _ h => h) (Or.inl ⟨by rfl, ?_⟩) ?_ ?_
  rotate_left
  · intro w'
    go_simp
    with_reducible rfl
  rotate_left
  · simp only [Act.put, List.setIfInBounds_toArray, List.set_cons_zero, List.set_cons_succ, i64_w, i32_w]
    rfl
  refine pure_ (i := 3) (N := some 23) (v := ?_) (a' := ?_) #[true, true, true, true, false, false, false, false, false, false, false, false] rfl rfl (by kernel_rfl) (fun _ _ _ h => h) (Or.inl ⟨by rfl, ?_⟩) ?_ ?_
  rotate_left
  · intro w'
    go_simp
    with_reducible rfl
  rotate_left
  · simp only [Act.put, List.setIfInBounds_toArray, List.set_cons_zero, List.set_cons_succ, i64_w, i32_w]
    rfl
  refine pure_ (i := 5) (N := some 25) (v := ?_) (a' := ?_) #[true, true, true, true, false, true, false, false, false, false, false, false] rfl rfl (by kernel_rfl) (fun _ _ _ h => h) (Or.inl ⟨by rfl, ?_⟩) ?_ ?_
  rotate_left
  · intro w'
    go_simp
    with_reducible rfl
  rotate_left
  · simp only [Act.put, List.setIfInBounds_toArray, List.set_cons_zero, List.set_cons_succ, i64_w, i32_w]
    rfl
  refine take_ (i := 4) (N := some 24) (v := ?_) (a' := ?_) #[true, true, true, true, true, true, false, false, false, false, false, false] rfl rfl (by kernel_rfl) (fun _ _ _ h => h) (Or.inl ⟨by rfl, ?_⟩) hHeld ?_ ?_
  rotate_left
  · rintro w' ⟨s0, s1, s2, s3⟩
    go_simp
    with_reducible rfl
  rotate_left
  · simp only [Act.put, List.setIfInBounds_toArray, List.set_cons_zero, List.set_cons_succ, i64_w, i32_w]
    rfl
  refine one_ (i := 6) (N := some 26) #[true, true, true, true, true, true, true, false, false, false, false, false] rfl rfl (by kernel_rfl) (by decide) (fun K hK => ?_)
  refine goes_ Try.func56 (by kernel_rfl) rfl #[.slice Av l.length cv] (by rfl) rfl rfl (by simp only [List.map_toArray, List.map_cons, List.map_nil]; rfl) ?_
  with_reducible refine (copy_Spans Av cv l Hl.out _ hHeld.2.2.1).mono ?_
  rintro e w3 ⟨u, rfl, hu, hb⟩
  refine ⟨_, rfl, ?_⟩
  have HU := Aside0.mk hu
  obtain ⟨A3, c3, hue, _⟩ := Kd.R_reads hu
  subst hue
  have hb3 := below_step hHeld.2.1 hb
  have hu3 := (by rw [← hw2] at hb3; exact add_mid (by decide) HP.out HB1.out HG1.out hb3 : w3.ownsRow base 22 1 (.slice AU L.length nU) L.length us)
  have HU3 := Aside0.mk hu3
  have HB3 := Aside0.mk hb3
  have HK3 := Aside0.mk (hHeld.2.2.2.keep hb)
  clear hu hu3 hb3
  refine hK.out _ _ ⟨(keepP hb hHeld.1), (below_step hHeld.2.1 hb), (Kd.C_below hHeld.2.2.1 hb), ((hHeld.2.2.2).keep hb)⟩ (fun hHeld => ?_)
  clear hK K
  refine norm_ (a' := ?_) ?_ ?_
  rotate_left
  · show Act.put _ (some 26) _ = _
    simp only [Act.put, List.setIfInBounds_toArray, List.set_cons_zero, List.set_cons_succ, i64_w, i32_w]
    rfl
  refine one_ (i := 7) (N := some 27) #[true, true, true, true, true, true, true, true, false, false, false, false] rfl rfl (by kernel_rfl) (by decide) (fun K hK => ?_)
  refine value_ (w1 := ?_) (v := ?_) (by rfl) rfl ?_ ?_
  rotate_left 2
  · go_simp
    constructor
    · rfl
    · rfl
  refine hK.out _ _ ⟨(keep (below_alloc (Below.refl _ _) _) hHeld.1), (below_alloc hHeld.2.1 _), (Kd.C_below hHeld.2.2.1 (below_alloc (Below.refl _ _) _)), ((hHeld.2.2.2).alloc _)⟩ (fun hHeld => ?_)
  clear hK K
  refine norm_ (a' := ?_) ?_ ?_
  rotate_left
  · show Act.put _ (some 27) _ = _
    simp only [Act.put, List.setIfInBounds_toArray, List.set_cons_zero, List.set_cons_succ, i64_w, i32_w]
    rfl
  refine last_ (i := 8) (N := some 28) #[true, true, true, true, true, true, true, true, true, false, false, false] rfl rfl (by kernel_rfl) (by decide) (fun K hK => ?_)
  refine step_append_cells (w0 := w3) base (by rfl) (.tmp 24) (.tmp 27) 46 22 (.slice none 0 0) 1 24 (by rfl) Try.underlying46 ginfoLSpans (by rfl) (by decide) (by decide) (.slice AU L.length nU) L.length us [.slice A3 l.length c3] (by rfl) (by rfl) (by rfl) (by intro u hu; rw [List.mem_singleton.1 hu]; rfl) HU3.out (Below.refl _ _) (by have h1 := HB3.out.size; have h2 := HG1.out.size; have h3 := Hbase.out; have h4 : w2.heap.size = w1.heap.size := (by rw [← hw2]; simp [World.setCell]); omega) (by have := HLn.out; omega) ?_
  intro U1 w5 hU5 hW5 hG5 hA5
  obtain ⟨A5, n5, hU1e⟩ := row_slice hU5
  subst hU1e
  have HB5 := Aside0.mk (HK3.out.grownB hG5 (fun q => own_ne HU3.out HK3.out.hd (by decide) q.symm))
  have c5 : w5.cell? ⟨g, 5, none⟩ = some (.slice AU L.length nU) := HB5.out.cell (i := 5) rfl
  have f5 := HB5.out.frozen 5
  have HU5 := Aside0.mk hU5
  have HW5 := Aside0.mk hW5
  have HG5 := Aside0.mk hG5
  have HA5 := Aside0.mk hA5
  clear hU5 hW5 hG5 hA5
  refine hK.out _ _ ?_
  clear hK K
  refine norm_ (a' := ?_) ?_ ?_
  rotate_left
  · show Act.put _ (some 28) _ = _
    simp only [Act.put, List.setIfInBounds_toArray, List.set_cons_zero, List.set_cons_succ, i64_w, i32_w]
    rfl
  refine pure_ (i := 9) (N := some 29) (v := ?_) (a' := ?_) #[true, true, true, true, true, true, true, true, true, true, false, false] rfl rfl (by kernel_rfl) (fun _ _ _ h => h) (Or.inl ⟨by rfl, ?_⟩) ?_ ?_
  rotate_left
  · intro w'
    go_simp
    with_reducible rfl
  rotate_left
  · simp only [Act.put, List.setIfInBounds_toArray, List.set_cons_zero, List.set_cons_succ, i64_w, i32_w]
    rfl
  refine pure_ (i := 10) (N := some 30) (v := ?_) (a' := ?_) #[true, true, true, true, true, true, true, true, true, true, true, false] rfl rfl (by kernel_rfl) (fun _ _ _ h => h) (Or.inl ⟨by rfl, ?_⟩) ?_ ?_
  rotate_left
  · intro w'
    go_simp
    with_reducible rfl
  rotate_left
  · simp only [Act.put, List.setIfInBounds_toArray, List.set_cons_zero, List.set_cons_succ, i64_w, i32_w]
    rfl
  refine last_ (i := 11) (N := none) #[true, true, true, true, true, true, true, true, true, true, true, true] rfl rfl (by kernel_rfl) (by decide) (fun K hK => ?_)
  refine skip_ (w1 := ?_) (by rfl) rfl ?_ ?_
  rotate_left
  · go_simp
    rfl
  refine hK.out _ _ ?_
  clear hK K
  refine done_ (by kernel_rfl) ?_
  skip
  go_end0
  subst hw2
  obtain ⟨r1, r2, r3⟩ := add_done (tB := 52) (j1 := 4) (j2 := 5) rfl (by decide) (by decide) (by decide) HP.out HV.out Hn.out Hbase.out Hg.out hgl HB1.out HV1.out HW1.out HG1.out HA1.out HB3.out HU.out HB5.out HU5.out HW5.out HG5.out HA5.out
  exact ⟨rfl, _, _, _, HB5.out.set_ 5 _, r1, r2, r3⟩
end Go.Proofs.Ytffemlfdhkndiaa.Hand
end
section
namespace Go.Proofs.Ytffemlfdhkndiaa.A
open Go.RowKit Go.Proofs.YtffemlfdhkndiaaW.PrintWords Go.Proofs.YtffemlfdhkndiaaW.PrintLast Go.Proofs.YtffemlfdhkndiaaW.PrintMore
attribute [local go_sem] max2_int min2_int max_two min_two max_three min_three max_four min_four   -- for this text's walks alone
set_option linter.unusedVariables false
set_option linter.unusedSimpArgs false
def span_whole.f (a0_0 : Int) (a0_1 : Int) : Option (Bool) := if a0_0 ≥ 0 then (if a0_0 ≤ 64 then (if a0_1 ≥ 1 then (some (decide (a0_1 ≤ (wrap64 (64 - a0_0))))) else (some false)) else (some false)) else (some false)
set_option maxHeartbeats 8000000 in
set_option maxRecDepth 100000 in
theorem span_whole.calls (a0_0 : Int) (a0_1 : Int) (r : Bool) (w : World) (h : span_whole.f a0_0 a0_1 = some r) :
    Calls Try.prog 94 #[.agg #[.int .i64 a0_0, .int .i64 a0_1]] w fun e w' => e = .returned (.bool r) ∧ Below w.heap.size w w' := by
  have hu31 := Try.underlying31
  have HB := Aside0.mk (Below.refl w.heap.size w)
  have H : (if a0_0 ≥ 0 then (if a0_0 ≤ 64 then (if a0_1 ≥ 1 then (some (decide (a0_1 ≤ (wrap64 (64 - a0_0))))) else (some false)) else (some false)) else (some false)) = some r := h
  clear h
  by_cases c2 : a0_0 ≥ 0
  · rw [if_pos c2] at H
    have c2b0 : decide (0 ≤ a0_0) = true := decide_eq_true c2
    clear c2
    by_cases c3 : a0_0 ≤ 64
    · rw [if_pos c3] at H
      have c3b0 : decide (a0_0 ≤ 64) = true := decide_eq_true c3
      clear c3
      by_cases c4 : a0_1 ≥ 1
      · rw [if_pos c4] at H
        have c4b0 : decide (1 ≤ a0_1) = true := decide_eq_true c4
        clear c4
        obtain rfl := Option.some.inj H
        go_enter Try.func94, Try.ntmps94
        go_wp2_with (first | ((with_reducible refine gate_dst (N := 1) rfl ?_); refine box_event ?hg (N := 1) ?hd (cs := #[.int .i64 a0_0, .int .i64 a0_1]) (t := 31) ?hr ?_; (case hd => rfl); (case hg => rfl); (case hr => first | (go_simp; done) | (go_simp; rfl)); intro gb104 hg w5 hbox hb; have n0_ := Aside0.mk (below_step (by repeat (first | (with_reducible first | exact HB.out | apply below_alloc | apply pw_below_drewN | apply below_drew1) | exact HB.out)) hb); have n1_ := Aside0.mk (hbox); have n2_ := Aside0.mk ((by rw [hg]; exact (below_size (by repeat (first | (with_reducible first | exact HB.out | apply below_alloc | apply pw_below_drewN | apply below_drew1) | exact HB.out))) : w.heap.size ≤ gb104)); have n3_ := Aside0.mk ((by rw [hg]; exact (below_size (by repeat (first | (with_reducible first | exact HB.out | apply below_alloc | apply pw_below_drewN | apply below_drew1) | exact HB.out))) : w.heap.size ≤ gb104)); clear HB; have HB := n0_; have BK104 := n1_; have GW104 := n2_; have GE104 := n3_; clear n0_ n1_ n2_ n3_; clear hb hbox hg; have hcz6_0 : w5.cell? ⟨gb104, 0, none⟩ = some (.int .i64 a0_0) := (blk_cell BK104.out 0).trans rfl; have hcz6_1 : w5.cell? ⟨gb104, 1, none⟩ = some (.int .i64 a0_1) := (blk_cell BK104.out 1).trans rfl; have hfz6_0 := blk_frozen BK104.out 0; have hfz6_1 := blk_frozen BK104.out 1))
        go_ret
        exact ⟨by first | rfl | (simp [errW_none, errW_some] <;> rfl) | (simp [*, errW_none, errW_some] <;> rfl), by repeat (first | (with_reducible first | exact HB.out | apply below_alloc | apply pw_below_drewN | apply below_drew1 | refine below_set ?_ GE104.out) | exact HB.out)⟩
      · rw [if_neg c4] at H
        have c4b0 : decide (1 ≤ a0_1) = false := decide_eq_false c4
        clear c4
        obtain rfl := Option.some.inj H
        go_enter Try.func94, Try.ntmps94
        go_wp2_with (first | ((with_reducible refine gate_dst (N := 1) rfl ?_); refine box_event ?hg (N := 1) ?hd (cs := #[.int .i64 a0_0, .int .i64 a0_1]) (t := 31) ?hr ?_; (case hd => rfl); (case hg => rfl); (case hr => first | (go_simp; done) | (go_simp; rfl)); intro gb104 hg w7 hbox hb; have n0_ := Aside0.mk (below_step (by repeat (first | (with_reducible first | exact HB.out | apply below_alloc | apply pw_below_drewN | apply below_drew1) | exact HB.out)) hb); have n1_ := Aside0.mk (hbox); have n2_ := Aside0.mk ((by rw [hg]; exact (below_size (by repeat (first | (with_reducible first | exact HB.out | apply below_alloc | apply pw_below_drewN | apply below_drew1) | exact HB.out))) : w.heap.size ≤ gb104)); have n3_ := Aside0.mk ((by rw [hg]; exact (below_size (by repeat (first | (with_reducible first | exact HB.out | apply below_alloc | apply pw_below_drewN | apply below_drew1) | exact HB.out))) : w.heap.size ≤ gb104)); clear HB; have HB := n0_; have BK104 := n1_; have GW104 := n2_; have GE104 := n3_; clear n0_ n1_ n2_ n3_; clear hb hbox hg; have hcz8_0 : w7.cell? ⟨gb104, 0, none⟩ = some (.int .i64 a0_0) := (blk_cell BK104.out 0).trans rfl; have hcz8_1 : w7.cell? ⟨gb104, 1, none⟩ = some (.int .i64 a0_1) := (blk_cell BK104.out 1).trans rfl; have hfz8_0 := blk_frozen BK104.out 0; have hfz8_1 := blk_frozen BK104.out 1))
        go_ret
        exact ⟨by first | rfl | (simp [errW_none, errW_some] <;> rfl) | (simp [*, errW_none, errW_some] <;> rfl), by repeat (first | (with_reducible first | exact HB.out | apply below_alloc | apply pw_below_drewN | apply below_drew1 | refine below_set ?_ GE104.out) | exact HB.out)⟩
    · rw [if_neg c3] at H
      have c3b0 : decide (a0_0 ≤ 64) = false := decide_eq_false c3
      clear c3
      obtain rfl := Option.some.inj H
      go_enter Try.func94, Try.ntmps94
      go_wp2_with (first | ((with_reducible refine gate_dst (N := 1) rfl ?_); refine box_event ?hg (N := 1) ?hd (cs := #[.int .i64 a0_0, .int .i64 a0_1]) (t := 31) ?hr ?_; (case hd => rfl); (case hg => rfl); (case hr => first | (go_simp; done) | (go_simp; rfl)); intro gb104 hg w9 hbox hb; have n0_ := Aside0.mk (below_step (by repeat (first | (with_reducible first | exact HB.out | apply below_alloc | apply pw_below_drewN | apply below_drew1) | exact HB.out)) hb); have n1_ := Aside0.mk (hbox); have n2_ := Aside0.mk ((by rw [hg]; exact (below_size (by repeat (first | (with_reducible first | exact HB.out | apply below_alloc | apply pw_below_drewN | apply below_drew1) | exact HB.out))) : w.heap.size ≤ gb104)); have n3_ := Aside0.mk ((by rw [hg]; exact (below_size (by repeat (first | (with_reducible first | exact HB.out | apply below_alloc | apply pw_below_drewN | apply below_drew1) | exact HB.out))) : w.heap.size ≤ gb104)); clear HB; have HB := n0_; have BK104 := n1_; have GW104 := n2_; have GE104 := n3_; clear n0_ n1_ n2_ n3_; clear hb hbox hg; have hcz10_0 : w9.cell? ⟨gb104, 0, none⟩ = some (.int .i64 a0_0) := (blk_cell BK104.out 0).trans rfl; have hcz10_1 : w9.cell? ⟨gb104, 1, none⟩ = some (.int .i64 a0_1) := (blk_cell BK104.out 1).trans rfl; have hfz10_0 := blk_frozen BK104.out 0; have hfz10_1 := blk_frozen BK104.out 1))
      go_ret
      exact ⟨by first | rfl | (simp [errW_none, errW_some] <;> rfl) | (simp [*, errW_none, errW_some] <;> rfl), by repeat (first | (with_reducible first | exact HB.out | apply below_alloc | apply pw_below_drewN | apply below_drew1 | refine below_set ?_ GE104.out) | exact HB.out)⟩
  · rw [if_neg c2] at H
    have c2b0 : decide (0 ≤ a0_0) = false := decide_eq_false c2
    clear c2
    obtain rfl := Option.some.inj H
    go_enter Try.func94, Try.ntmps94
    go_wp2_with (first | ((with_reducible refine gate_dst (N := 1) rfl ?_); refine box_event ?hg (N := 1) ?hd (cs := #[.int .i64 a0_0, .int .i64 a0_1]) (t := 31) ?hr ?_; (case hd => rfl); (case hg => rfl); (case hr => first | (go_simp; done) | (go_simp; rfl)); intro gb104 hg w11 hbox hb; have n0_ := Aside0.mk (below_step (by repeat (first | (with_reducible first | exact HB.out | apply below_alloc | apply pw_below_drewN | apply below_drew1) | exact HB.out)) hb); have n1_ := Aside0.mk (hbox); have n2_ := Aside0.mk ((by rw [hg]; exact (below_size (by repeat (first | (with_reducible first | exact HB.out | apply below_alloc | apply pw_below_drewN | apply below_drew1) | exact HB.out))) : w.heap.size ≤ gb104)); have n3_ := Aside0.mk ((by rw [hg]; exact (below_size (by repeat (first | (with_reducible first | exact HB.out | apply below_alloc | apply pw_below_drewN | apply below_drew1) | exact HB.out))) : w.heap.size ≤ gb104)); clear HB; have HB := n0_; have BK104 := n1_; have GW104 := n2_; have GE104 := n3_; clear n0_ n1_ n2_ n3_; clear hb hbox hg; have hcz12_0 : w11.cell? ⟨gb104, 0, none⟩ = some (.int .i64 a0_0) := (blk_cell BK104.out 0).trans rfl; have hcz12_1 : w11.cell? ⟨gb104, 1, none⟩ = some (.int .i64 a0_1) := (blk_cell BK104.out 1).trans rfl; have hfz12_0 := blk_frozen BK104.out 0; have hfz12_1 := blk_frozen BK104.out 1))
    go_ret
    exact ⟨by first | rfl | (simp [errW_none, errW_some] <;> rfl) | (simp [*, errW_none, errW_some] <;> rfl), by repeat (first | (with_reducible first | exact HB.out | apply below_alloc | apply pw_below_drewN | apply below_drew1 | refine below_set ?_ GE104.out) | exact HB.out)⟩
def span_Valid.f (a0_0 : Int) (a0_1 : Int) (a1 : Int) : Option (Bool) := (span_whole.f a0_0 a0_1).bind fun t106 => (if t106 = true then (some (decide ((wrap64 (a0_0 + a0_1)) ≤ a1))) else (some false))
set_option maxHeartbeats 8000000 in
set_option maxRecDepth 100000 in
theorem span_Valid.calls (a0_0 : Int) (a0_1 : Int) (a1 : Int) (r : Bool) (w : World) (h : span_Valid.f a0_0 a0_1 a1 = some r) :
    Calls Try.prog 50 #[.agg #[.int .i64 a0_0, .int .i64 a0_1], .int .i64 a1] w fun e w' => e = .returned (.bool r) ∧ Below w.heap.size w w' := by
  have hu31 := Try.underlying31
  have HB := Aside0.mk (Below.refl w.heap.size w)
  have H : ((span_whole.f a0_0 a0_1).bind fun t106 => (if t106 = true then (some (decide ((wrap64 (a0_0 + a0_1)) ≤ a1))) else (some false))) = some r := h
  clear h
  replace H := Option.bind_eq_some_iff.mp H
  obtain ⟨t106, A30, H⟩ := H
  replace H : (if t106 = true then (some (decide ((wrap64 (a0_0 + a0_1)) ≤ a1))) else (some false)) = some r := H
  have A3 := Aside0.mk A30
  clear A30
  by_cases c4 : t106 = true
  · subst c4
    have H1 : (some (decide ((wrap64 (a0_0 + a0_1)) ≤ a1))) = some r := by rw [if_pos rfl] at H; exact H
    clear H
    have H := H1
    clear H1
    obtain rfl := Option.some.inj H
    go_enter Try.func50, Try.ntmps50
    go_wp2_with (first | ((with_reducible refine gate_dst (N := 2) rfl ?_); refine box_event ?hg (N := 2) ?hd (cs := #[.int .i64 a0_0, .int .i64 a0_1]) (t := 31) ?hr ?_; (case hd => rfl); (case hg => rfl); (case hr => first | (go_simp; done) | (go_simp; rfl)); intro gb105 hg w5 hbox hb; have n0_ := Aside0.mk (below_step (by repeat (first | (with_reducible first | exact HB.out | apply below_alloc | apply pw_below_drewN | apply below_drew1) | exact HB.out)) hb); have n1_ := Aside0.mk (hbox); have n2_ := Aside0.mk ((by rw [hg]; exact (below_size (by repeat (first | (with_reducible first | exact HB.out | apply below_alloc | apply pw_below_drewN | apply below_drew1) | exact HB.out))) : w.heap.size ≤ gb105)); have n3_ := Aside0.mk ((by rw [hg]; exact (below_size (by repeat (first | (with_reducible first | exact HB.out | apply below_alloc | apply pw_below_drewN | apply below_drew1) | exact HB.out))) : w.heap.size ≤ gb105)); clear HB; have HB := n0_; have BK105 := n1_; have GW105 := n2_; have GE105 := n3_; clear n0_ n1_ n2_ n3_; clear hb hbox hg; have hcz6_0 : w5.cell? ⟨gb105, 0, none⟩ = some (.int .i64 a0_0) := (blk_cell BK105.out 0).trans rfl; have hcz6_1 : w5.cell? ⟨gb105, 1, none⟩ = some (.int .i64 a0_1) := (blk_cell BK105.out 1).trans rfl; have hfz6_0 := blk_frozen BK105.out 0; have hfz6_1 := blk_frozen BK105.out 1) | ((with_reducible refine gate_callee (f := 94) rfl ?_); refine goesL_ (some 6) rfl rfl Try.func94 (by kernel_rfl) rfl #[.agg #[.int .i64 a0_0, .int .i64 a0_1]] rfl (by (try simp only [List.map_toArray, List.map_cons, List.map_nil]); first | done | rfl | (simp only [List.length_drop, List.length_take]; rfl)) ?_; (with_reducible refine (span_whole.calls a0_0 a0_1 true _ A3.out).mono ?_); rintro e w7 ⟨rfl, hb⟩; refine ⟨_, rfl, ?_⟩; have n0_ := Aside0.mk (blk_below (g := gb105) (o := .cells #[.int .i64 a0_0, .int .i64 a0_1] 31 (0, 0)) (by (with_reducible repeat (first | refine blk_drewN ?_ _ | refine blk_drew ?_ | refine blk_alloc ?_ _)); exact BK105.out) hb); have n1_ := Aside0.mk (below_step (by repeat (first | (with_reducible first | exact HB.out | apply below_alloc | apply pw_below_drewN | apply below_drew1 | refine below_set ?_ GE105.out) | exact HB.out)) hb); clear BK105; clear HB; have BK105 := n0_; have HB := n1_; clear n0_ n1_; (try clear hb); (try clear hb2); (try clear hk); (try clear hi); have hcz8_0 : w7.cell? ⟨gb105, 0, none⟩ = some (.int .i64 a0_0) := (blk_cell BK105.out 0).trans rfl; have hcz8_1 : w7.cell? ⟨gb105, 1, none⟩ = some (.int .i64 a0_1) := (blk_cell BK105.out 1).trans rfl; have hfz8_0 := blk_frozen BK105.out 0; have hfz8_1 := blk_frozen BK105.out 1))
    go_ret
    exact ⟨by first | rfl | (simp [errW_none, errW_some] <;> rfl) | (simp [*, errW_none, errW_some] <;> rfl), by repeat (first | (with_reducible first | exact HB.out | apply below_alloc | apply pw_below_drewN | apply below_drew1 | refine below_set ?_ GE105.out) | exact HB.out)⟩
  · replace c4 := Bool.eq_false_iff.mpr c4
    subst c4
    have H1 : (some false) = some r := by rw [if_neg (show ¬ (false = true) by decide)] at H; exact H
    clear H
    have H := H1
    clear H1
    obtain rfl := Option.some.inj H
    go_enter Try.func50, Try.ntmps50
    go_wp2_with (first | ((with_reducible refine gate_dst (N := 2) rfl ?_); refine box_event ?hg (N := 2) ?hd (cs := #[.int .i64 a0_0, .int .i64 a0_1]) (t := 31) ?hr ?_; (case hd => rfl); (case hg => rfl); (case hr => first | (go_simp; done) | (go_simp; rfl)); intro gb105 hg w9 hbox hb; have n0_ := Aside0.mk (below_step (by repeat (first | (with_reducible first | exact HB.out | apply below_alloc | apply pw_below_drewN | apply below_drew1) | exact HB.out)) hb); have n1_ := Aside0.mk (hbox); have n2_ := Aside0.mk ((by rw [hg]; exact (below_size (by repeat (first | (with_reducible first | exact HB.out | apply below_alloc | apply pw_below_drewN | apply below_drew1) | exact HB.out))) : w.heap.size ≤ gb105)); have n3_ := Aside0.mk ((by rw [hg]; exact (below_size (by repeat (first | (with_reducible first | exact HB.out | apply below_alloc | apply pw_below_drewN | apply below_drew1) | exact HB.out))) : w.heap.size ≤ gb105)); clear HB; have HB := n0_; have BK105 := n1_; have GW105 := n2_; have GE105 := n3_; clear n0_ n1_ n2_ n3_; clear hb hbox hg; have hcz10_0 : w9.cell? ⟨gb105, 0, none⟩ = some (.int .i64 a0_0) := (blk_cell BK105.out 0).trans rfl; have hcz10_1 : w9.cell? ⟨gb105, 1, none⟩ = some (.int .i64 a0_1) := (blk_cell BK105.out 1).trans rfl; have hfz10_0 := blk_frozen BK105.out 0; have hfz10_1 := blk_frozen BK105.out 1) | ((with_reducible refine gate_callee (f := 94) rfl ?_); refine goesL_ (some 6) rfl rfl Try.func94 (by kernel_rfl) rfl #[.agg #[.int .i64 a0_0, .int .i64 a0_1]] rfl (by (try simp only [List.map_toArray, List.map_cons, List.map_nil]); first | done | rfl | (simp only [List.length_drop, List.length_take]; rfl)) ?_; (with_reducible refine (span_whole.calls a0_0 a0_1 false _ A3.out).mono ?_); rintro e w11 ⟨rfl, hb⟩; refine ⟨_, rfl, ?_⟩; have n0_ := Aside0.mk (blk_below (g := gb105) (o := .cells #[.int .i64 a0_0, .int .i64 a0_1] 31 (0, 0)) (by (with_reducible repeat (first | refine blk_drewN ?_ _ | refine blk_drew ?_ | refine blk_alloc ?_ _)); exact BK105.out) hb); have n1_ := Aside0.mk (below_step (by repeat (first | (with_reducible first | exact HB.out | apply below_alloc | apply pw_below_drewN | apply below_drew1 | refine below_set ?_ GE105.out) | exact HB.out)) hb); clear BK105; clear HB; have BK105 := n0_; have HB := n1_; clear n0_ n1_; (try clear hb); (try clear hb2); (try clear hk); (try clear hi)))
    go_ret
    exact ⟨by first | rfl | (simp [errW_none, errW_some] <;> rfl) | (simp [*, errW_none, errW_some] <;> rfl), by repeat (first | (with_reducible first | exact HB.out | apply below_alloc | apply pw_below_drewN | apply below_drew1 | refine below_set ?_ GE105.out) | exact HB.out)⟩
def span_End.f (a0_0 : Int) (a0_1 : Int) : Option (Int) := (span_whole.f a0_0 a0_1).bind fun t108 => (if t108 = true then (some (wrap64 (a0_0 + a0_1))) else (some 0))
set_option maxHeartbeats 8000000 in
set_option maxRecDepth 100000 in
theorem span_End.calls (a0_0 : Int) (a0_1 : Int) (r : Int) (w : World) (h : span_End.f a0_0 a0_1 = some r) :
    Calls Try.prog 110 #[.agg #[.int .i64 a0_0, .int .i64 a0_1]] w fun e w' => e = .returned (.int .i64 r) ∧ Below w.heap.size w w' := by
  have hu31 := Try.underlying31
  have HB := Aside0.mk (Below.refl w.heap.size w)
  have H : ((span_whole.f a0_0 a0_1).bind fun t108 => (if t108 = true then (some (wrap64 (a0_0 + a0_1))) else (some 0))) = some r := h
  clear h
  replace H := Option.bind_eq_some_iff.mp H
  obtain ⟨t108, A20, H⟩ := H
  replace H : (if t108 = true then (some (wrap64 (a0_0 + a0_1))) else (some 0)) = some r := H
  have A2 := Aside0.mk A20
  clear A20
  by_cases c3 : t108 = true
  · subst c3
    have H1 : (some (wrap64 (a0_0 + a0_1))) = some r := by rw [if_pos rfl] at H; exact H
    clear H
    have H := H1
    clear H1
    obtain rfl := Option.some.inj H
    go_enter Try.func110, Try.ntmps110
    go_wp2_with (first | ((with_reducible refine gate_dst (N := 1) rfl ?_); refine box_event ?hg (N := 1) ?hd (cs := #[.int .i64 a0_0, .int .i64 a0_1]) (t := 31) ?hr ?_; (case hd => rfl); (case hg => rfl); (case hr => first | (go_simp; done) | (go_simp; rfl)); intro gb107 hg w4 hbox hb; have n0_ := Aside0.mk (below_step (by repeat (first | (with_reducible first | exact HB.out | apply below_alloc | apply pw_below_drewN | apply below_drew1) | exact HB.out)) hb); have n1_ := Aside0.mk (hbox); have n2_ := Aside0.mk ((by rw [hg]; exact (below_size (by repeat (first | (with_reducible first | exact HB.out | apply below_alloc | apply pw_below_drewN | apply below_drew1) | exact HB.out))) : w.heap.size ≤ gb107)); have n3_ := Aside0.mk ((by rw [hg]; exact (below_size (by repeat (first | (with_reducible first | exact HB.out | apply below_alloc | apply pw_below_drewN | apply below_drew1) | exact HB.out))) : w.heap.size ≤ gb107)); clear HB; have HB := n0_; have BK107 := n1_; have GW107 := n2_; have GE107 := n3_; clear n0_ n1_ n2_ n3_; clear hb hbox hg; have hcz5_0 : w4.cell? ⟨gb107, 0, none⟩ = some (.int .i64 a0_0) := (blk_cell BK107.out 0).trans rfl; have hcz5_1 : w4.cell? ⟨gb107, 1, none⟩ = some (.int .i64 a0_1) := (blk_cell BK107.out 1).trans rfl; have hfz5_0 := blk_frozen BK107.out 0; have hfz5_1 := blk_frozen BK107.out 1) | ((with_reducible refine gate_callee (f := 94) rfl ?_); refine goesL_ (some 4) rfl rfl Try.func94 (by kernel_rfl) rfl #[.agg #[.int .i64 a0_0, .int .i64 a0_1]] rfl (by (try simp only [List.map_toArray, List.map_cons, List.map_nil]); first | done | rfl | (simp only [List.length_drop, List.length_take]; rfl)) ?_; (with_reducible refine (span_whole.calls a0_0 a0_1 true _ A2.out).mono ?_); rintro e w6 ⟨rfl, hb⟩; refine ⟨_, rfl, ?_⟩; have n0_ := Aside0.mk (blk_below (g := gb107) (o := .cells #[.int .i64 a0_0, .int .i64 a0_1] 31 (0, 0)) (by (with_reducible repeat (first | refine blk_drewN ?_ _ | refine blk_drew ?_ | refine blk_alloc ?_ _)); exact BK107.out) hb); have n1_ := Aside0.mk (below_step (by repeat (first | (with_reducible first | exact HB.out | apply below_alloc | apply pw_below_drewN | apply below_drew1 | refine below_set ?_ GE107.out) | exact HB.out)) hb); clear BK107; clear HB; have BK107 := n0_; have HB := n1_; clear n0_ n1_; (try clear hb); (try clear hb2); (try clear hk); (try clear hi); have hcz7_0 : w6.cell? ⟨gb107, 0, none⟩ = some (.int .i64 a0_0) := (blk_cell BK107.out 0).trans rfl; have hcz7_1 : w6.cell? ⟨gb107, 1, none⟩ = some (.int .i64 a0_1) := (blk_cell BK107.out 1).trans rfl; have hfz7_0 := blk_frozen BK107.out 0; have hfz7_1 := blk_frozen BK107.out 1))
    go_ret
    exact ⟨by first | rfl | (simp [errW_none, errW_some] <;> rfl) | (simp [*, errW_none, errW_some] <;> rfl), by repeat (first | (with_reducible first | exact HB.out | apply below_alloc | apply pw_below_drewN | apply below_drew1 | refine below_set ?_ GE107.out) | exact HB.out)⟩
  · replace c3 := Bool.eq_false_iff.mpr c3
    subst c3
    have H1 : (some 0) = some r := by rw [if_neg (show ¬ (false = true) by decide)] at H; exact H
    clear H
    have H := H1
    clear H1
    obtain rfl := Option.some.inj H
    go_enter Try.func110, Try.ntmps110
    go_wp2_with (first | ((with_reducible refine gate_dst (N := 1) rfl ?_); refine box_event ?hg (N := 1) ?hd (cs := #[.int .i64 a0_0, .int .i64 a0_1]) (t := 31) ?hr ?_; (case hd => rfl); (case hg => rfl); (case hr => first | (go_simp; done) | (go_simp; rfl)); intro gb107 hg w8 hbox hb; have n0_ := Aside0.mk (below_step (by repeat (first | (with_reducible first | exact HB.out | apply below_alloc | apply pw_below_drewN | apply below_drew1) | exact HB.out)) hb); have n1_ := Aside0.mk (hbox); have n2_ := Aside0.mk ((by rw [hg]; exact (below_size (by repeat (first | (with_reducible first | exact HB.out | apply below_alloc | apply pw_below_drewN | apply below_drew1) | exact HB.out))) : w.heap.size ≤ gb107)); have n3_ := Aside0.mk ((by rw [hg]; exact (below_size (by repeat (first | (with_reducible first | exact HB.out | apply below_alloc | apply pw_below_drewN | apply below_drew1) | exact HB.out))) : w.heap.size ≤ gb107)); clear HB; have HB := n0_; have BK107 := n1_; have GW107 := n2_; have GE107 := n3_; clear n0_ n1_ n2_ n3_; clear hb hbox hg; have hcz9_0 : w8.cell? ⟨gb107, 0, none⟩ = some (.int .i64 a0_0) := (blk_cell BK107.out 0).trans rfl; have hcz9_1 : w8.cell? ⟨gb107, 1, none⟩ = some (.int .i64 a0_1) := (blk_cell BK107.out 1).trans rfl; have hfz9_0 := blk_frozen BK107.out 0; have hfz9_1 := blk_frozen BK107.out 1) | ((with_reducible refine gate_callee (f := 94) rfl ?_); refine goesL_ (some 4) rfl rfl Try.func94 (by kernel_rfl) rfl #[.agg #[.int .i64 a0_0, .int .i64 a0_1]] rfl (by (try simp only [List.map_toArray, List.map_cons, List.map_nil]); first | done | rfl | (simp only [List.length_drop, List.length_take]; rfl)) ?_; (with_reducible refine (span_whole.calls a0_0 a0_1 false _ A2.out).mono ?_); rintro e w10 ⟨rfl, hb⟩; refine ⟨_, rfl, ?_⟩; have n0_ := Aside0.mk (blk_below (g := gb107) (o := .cells #[.int .i64 a0_0, .int .i64 a0_1] 31 (0, 0)) (by (with_reducible repeat (first | refine blk_drewN ?_ _ | refine blk_drew ?_ | refine blk_alloc ?_ _)); exact BK107.out) hb); have n1_ := Aside0.mk (below_step (by repeat (first | (with_reducible first | exact HB.out | apply below_alloc | apply pw_below_drewN | apply below_drew1 | refine below_set ?_ GE107.out) | exact HB.out)) hb); clear BK107; clear HB; have BK107 := n0_; have HB := n1_; clear n0_ n1_; (try clear hb); (try clear hb2); (try clear hk); (try clear hi)))
    go_ret
    exact ⟨by first | rfl | (simp [errW_none, errW_some] <;> rfl) | (simp [*, errW_none, errW_some] <;> rfl), by repeat (first | (with_reducible first | exact HB.out | apply below_alloc | apply pw_below_drewN | apply below_drew1 | refine below_set ?_ GE107.out) | exact HB.out)⟩
end Go.Proofs.Ytffemlfdhkndiaa.A
end
section
namespace Go.Proofs.Ytffemlfdhkndiaa.A
open Go.RowKit Go.Proofs.YtffemlfdhkndiaaW.PrintWords Go.Proofs.YtffemlfdhkndiaaW.PrintLast Go.Proofs.YtffemlfdhkndiaaW.PrintMore
attribute [local go_sem] max2_int min2_int max_two min_two max_three min_three max_four min_four   -- for this text's walks alone
set_option linter.unusedVariables false
set_option linter.unusedSimpArgs false
def span_of.f (a0 : Int) (a1 : Int) : Option (Int × Int × Bool) := if a0 ≥ a1 then (some (0, 0, false)) else (some (a0, wrap64 (a1 - a0), true))
set_option maxHeartbeats 8000000 in
set_option maxRecDepth 100000 in
theorem span_of.calls (a0 : Int) (a1 : Int) (r1 : Int) (r2 : Int) (r3 : Bool) (w : World) (h : span_of.f a0 a1 = some (r1, r2, r3)) :
    Calls Try.prog 111 #[.int .i64 a0, .int .i64 a1] w fun e w' => e = .returned (.tuple #[.agg #[.int .i64 r1, .int .i64 r2], .bool r3]) ∧ Below w.heap.size w w' := by
  have hu31 := Try.underlying31
  have HB := Aside0.mk (Below.refl w.heap.size w)
  have H : (if a0 ≥ a1 then (some (0, 0, false)) else (some (a0, wrap64 (a1 - a0), true))) = some (r1, r2, r3) := h
  clear h
  by_cases c3 : a0 ≥ a1
  · rw [if_pos c3] at H
    have c3b0 : decide (a1 ≤ a0) = true := decide_eq_true c3
    clear c3
    simp only [Option.some.injEq, Prod.mk.injEq] at H
    obtain ⟨rfl, rfl, rfl⟩ := H
    go_enter Try.func111, Try.ntmps111
    go_wp2_with (first | ((with_reducible refine gate_dst (N := 4) rfl ?_); refine box_event ?hg (N := 4) ?hd (cs := #[.int .i64 0, .int .i64 0]) (t := 31) ?hr ?_; (case hd => rfl); (case hg => rfl); (case hr => first | (go_simp; done) | (go_simp; rfl)); intro gb115 hg w4 hbox hb; have n0_ := Aside0.mk (below_step (by repeat (first | (with_reducible first | exact HB.out | apply below_alloc | apply pw_below_drewN | apply below_drew1) | exact HB.out)) hb); have n1_ := Aside0.mk (hbox); have n2_ := Aside0.mk ((by rw [hg]; exact (below_size (by repeat (first | (with_reducible first | exact HB.out | apply below_alloc | apply pw_below_drewN | apply below_drew1) | exact HB.out))) : w.heap.size ≤ gb115)); have n3_ := Aside0.mk ((by rw [hg]; exact (below_size (by repeat (first | (with_reducible first | exact HB.out | apply below_alloc | apply pw_below_drewN | apply below_drew1) | exact HB.out))) : w.heap.size ≤ gb115)); clear HB; have HB := n0_; have BK115 := n1_; have GW115 := n2_; have GE115 := n3_; clear n0_ n1_ n2_ n3_; clear hb hbox hg; have hcz5_0 : w4.cell? ⟨gb115, 0, none⟩ = some (.int .i64 0) := (blk_cell BK115.out 0).trans rfl; have hcz5_1 : w4.cell? ⟨gb115, 1, none⟩ = some (.int .i64 0) := (blk_cell BK115.out 1).trans rfl; have hfz5_0 := blk_frozen BK115.out 0; have hfz5_1 := blk_frozen BK115.out 1))
    refine bodyPost_ret (results_ct rfl _ _ gb115 31 #[.int .i64 0, .int .i64 0] (0, 0) _ rfl (by (with_reducible repeat (first | refine blk_drewN ?_ _ | refine blk_drew ?_ | refine blk_alloc ?_ _)); refine blk_put (cs := #[.int .i64 0, .int .i64 0]) ?_ 1 _ rfl; (with_reducible repeat (first | refine blk_drewN ?_ _ | refine blk_drew ?_ | refine blk_alloc ?_ _)); refine blk_put (cs := #[.int .i64 0, .int .i64 0]) ?_ 0 _ rfl; (with_reducible repeat (first | refine blk_drewN ?_ _ | refine blk_drew ?_ | refine blk_alloc ?_ _)); exact BK115.out) Try.underlying31 rfl (by kernel_rfl)) rfl ?_
    exact ⟨by first | rfl | (simp [errW_none, errW_some] <;> rfl) | (simp [*, errW_none, errW_some] <;> rfl), by repeat (first | (with_reducible first | exact HB.out | apply below_alloc | apply pw_below_drewN | apply below_drew1 | refine below_set ?_ GE115.out) | exact HB.out)⟩
  · rw [if_neg c3] at H
    have c3b0 : decide (a1 ≤ a0) = false := decide_eq_false c3
    clear c3
    simp only [Option.some.injEq, Prod.mk.injEq] at H
    obtain ⟨rfl, rfl, rfl⟩ := H
    go_enter Try.func111, Try.ntmps111
    go_wp2_with (first | ((with_reducible refine gate_dst (N := 4) rfl ?_); refine box_event ?hg (N := 4) ?hd (cs := #[.int .i64 0, .int .i64 0]) (t := 31) ?hr ?_; (case hd => rfl); (case hg => rfl); (case hr => first | (go_simp; done) | (go_simp; rfl)); intro gb115 hg w6 hbox hb; have n0_ := Aside0.mk (below_step (by repeat (first | (with_reducible first | exact HB.out | apply below_alloc | apply pw_below_drewN | apply below_drew1) | exact HB.out)) hb); have n1_ := Aside0.mk (hbox); have n2_ := Aside0.mk ((by rw [hg]; exact (below_size (by repeat (first | (with_reducible first | exact HB.out | apply below_alloc | apply pw_below_drewN | apply below_drew1) | exact HB.out))) : w.heap.size ≤ gb115)); have n3_ := Aside0.mk ((by rw [hg]; exact (below_size (by repeat (first | (with_reducible first | exact HB.out | apply below_alloc | apply pw_below_drewN | apply below_drew1) | exact HB.out))) : w.heap.size ≤ gb115)); clear HB; have HB := n0_; have BK115 := n1_; have GW115 := n2_; have GE115 := n3_; clear n0_ n1_ n2_ n3_; clear hb hbox hg; have hcz7_0 : w6.cell? ⟨gb115, 0, none⟩ = some (.int .i64 0) := (blk_cell BK115.out 0).trans rfl; have hcz7_1 : w6.cell? ⟨gb115, 1, none⟩ = some (.int .i64 0) := (blk_cell BK115.out 1).trans rfl; have hfz7_0 := blk_frozen BK115.out 0; have hfz7_1 := blk_frozen BK115.out 1))
    refine bodyPost_ret (results_ct rfl _ _ gb115 31 #[.int .i64 a0, .int .i64 (wrap64 (a1 - a0))] (0, 0) _ rfl (by (with_reducible repeat (first | refine blk_drewN ?_ _ | refine blk_drew ?_ | refine blk_alloc ?_ _)); refine blk_put (cs := #[.int .i64 a0, .int .i64 0]) ?_ 1 _ rfl; (with_reducible repeat (first | refine blk_drewN ?_ _ | refine blk_drew ?_ | refine blk_alloc ?_ _)); refine blk_put (cs := #[.int .i64 0, .int .i64 0]) ?_ 0 _ rfl; (with_reducible repeat (first | refine blk_drewN ?_ _ | refine blk_drew ?_ | refine blk_alloc ?_ _)); exact BK115.out) Try.underlying31 rfl (by kernel_rfl)) rfl ?_
    exact ⟨by first | rfl | (simp [errW_none, errW_some] <;> rfl) | (simp [*, errW_none, errW_some] <;> rfl), by repeat (first | (with_reducible first | exact HB.out | apply below_alloc | apply pw_below_drewN | apply below_drew1 | refine below_set ?_ GE115.out) | exact HB.out)⟩
end Go.Proofs.Ytffemlfdhkndiaa.A
end
section
namespace Go.Proofs.Ytffemlfdhkndiaa.A
open Go.RowKit Go.Proofs.YtffemlfdhkndiaaW.PrintWords Go.Proofs.YtffemlfdhkndiaaW.PrintLast Go.Proofs.YtffemlfdhkndiaaW.PrintMore
attribute [local go_sem] max2_int min2_int max_two min_two max_three min_three max_four min_four   -- for this text's walks alone
set_option linter.unusedVariables false
set_option linter.unusedSimpArgs false
attribute [local go_sem high] eqA31
def api_Span_86.l0 : Nat → List (S31) → List (S31) → Int → Int → Option (Bool)
  | 0, _, _, _, _ => none
  | k + 1, x0, x1, x12, x13 => if x13 < x12 then (if 0 ≤ x13 then (if x13 < (x0.length : Int) then (if x13 < (x1.length : Int) then (if (!(((rd_T31 x0 x13).f0) == ((rd_T31 x1 x13).f0)) || (!(((rd_T31 x0 x13).f1) == ((rd_T31 x1 x13).f1)))) = true then (some false) else (api_Span_86.l0 k x0 x1 x12 (wrap64 (x13 + 1)))) else (none)) else (none)) else (none)) else (some true)
def api_Span_86.f (k : Nat) (l0 : List (S31)) (l1 : List (S31)) : Option (Bool) := if (l0.length : Int) = (l1.length : Int) then (api_Span_86.l0 k l0 l1 (l0.length : Int) 0) else (some false)
theorem api_Span_86.mono_l : ∀ k, (∀ y0 y1 y2 y3, LeO (api_Span_86.l0 k y0 y1 y2 y3) (api_Span_86.l0 (k + 1) y0 y1 y2 y3))
  | 0 => fun _ _ _ _ r h => by simp [api_Span_86.l0] at h
  | k + 1 => by
    have ih0 := api_Span_86.mono_l k
    · intro y0 y1 y2 y3
      unfold api_Span_86.l0
      repeat' first
      | (with_reducible exact ih0 _ _ _ _)
      | (with_reducible exact LeO.refl _)
      | (with_reducible exact LeO.none _)
      | (with_reducible refine LeO.ite ?_ ?_)
      | (with_reducible refine LeO.bind ?_ (fun _ => ?_))
      | exact ih0 _ _ _ _
      | exact LeO.none _
      | refine LeO.ite ?_ ?_
      | refine LeO.bind ?_ (fun _ => ?_)
theorem api_Span_86.mono : ∀ a0 a1 k, LeO (api_Span_86.f k a0 a1) (api_Span_86.f (k + 1) a0 a1) := by
  intro a0 a1 k
  have ih0 := api_Span_86.mono_l k
  unfold api_Span_86.f
  repeat' first
      | (with_reducible exact ih0 _ _ _ _)
      | (with_reducible exact LeO.refl _)
      | (with_reducible exact LeO.none _)
      | (with_reducible refine LeO.ite ?_ ?_)
      | (with_reducible refine LeO.bind ?_ (fun _ => ?_))
      | exact ih0 _ _ _ _
      | exact LeO.none _
      | refine LeO.ite ?_ ?_
      | refine LeO.bind ?_ (fun _ => ?_)
end Go.Proofs.Ytffemlfdhkndiaa.A
end
section
namespace Go.Proofs.Ytffemlfdhkndiaa.Hand
open Go.RowKit Go.Proofs.YtffemlfdhkndiaaW.PrintWords Go.Proofs.YtffemlfdhkndiaaW.PrintLast Go.Proofs.YtffemlfdhkndiaaW.PrintMore Go.Proofs.Ytffemlfdhkndiaa.A
set_option linter.unusedVariables false
set_option linter.unusedSimpArgs false
attribute [local go_sem] max2_int min2_int max_two min_two max_three min_three max_four min_four
theorem of_yes {a b : Int} (h : a < b) (h0 : -4611686018427387904 ≤ a) (h1 : b ≤ 4611686018427387903) : span_of.f a b = some (a, b - a, true) := by
  unfold span_of.f; rw [if_neg (by omega), w_id (by omega) (by omega)]
abbrev wh (a n : Int) : Prop := 0 ≤ a ∧ 1 ≤ n ∧ a + n ≤ 64
theorem whole_eq (a n : Int) : span_whole.f a n = some (decide (wh a n)) := by
  unfold span_whole.f wh
  by_cases h1 : a ≥ 0
  · rw [if_pos h1]
    by_cases h2 : a ≤ 64
    · rw [if_pos h2]
      by_cases h3 : n ≥ 1
      · rw [if_pos h3, w_id (by omega) (by omega)]
        congr 1
        rw [decide_eq_decide]; omega
      · rw [if_neg h3, decide_eq_false (by omega)]
    · rw [if_neg h2, decide_eq_false (by omega)]
  · rw [if_neg h1, decide_eq_false (by omega)]
theorem rwhole_eq (a n : Int) : emulsionref1_Whole.f a n = some (decide (wh a n)) := by
  unfold emulsionref1_Whole.f wh
  by_cases h1 : a ≥ 0
  · rw [if_pos h1]
    by_cases h2 : a ≤ 64
    · rw [if_pos h2]
      by_cases h3 : n ≥ 1
      · rw [if_pos h3]
        by_cases h4 : n ≤ 64
        · rw [if_pos h4, w_id (by omega) (by omega)]
          congr 1
          rw [decide_eq_decide]; omega
        · rw [if_neg h4, decide_eq_false (by omega)]
      · rw [if_neg h3, decide_eq_false (by omega)]
    · rw [if_neg h2, decide_eq_false (by omega)]
  · rw [if_neg h1, decide_eq_false (by omega)]
def endV (a n : Int) : Int := if wh a n then a + n else 0
theorem end_eq (a n : Int) : span_End.f a n = some (endV a n) := by
  unfold span_End.f endV
  rw [whole_eq, Option.bind_some]
  by_cases h : wh a n
  · rw [if_pos h, if_pos (decide_eq_true h), w_id (by unfold wh at h; omega) (by unfold wh at h; omega)]
  · rw [if_neg h, if_neg (by rw [decide_eq_true_eq]; exact h)]
abbrev touches (a m b n : Int) : Prop := wh a m ∧ wh b n ∧ max a b ≤ min (a + m) (b + n)
def joinV (a m b n : Int) : Int × Int × Bool := if touches a m b n then (min a b, max (a + m) (b + n) - min a b, true) else (0, 0, false)
theorem valid_eq (a n b : Int) (hb : -4611686018427387904 ≤ b) : span_Valid.f a n b = some (decide (wh a n ∧ a + n ≤ b)) := by
  unfold span_Valid.f
  rw [whole_eq, Option.bind_some]
  by_cases h : wh a n
  · rw [if_pos (decide_eq_true h), w_id (by unfold wh at h; omega) (by unfold wh at h; omega)]
    congr 1
    rw [decide_eq_decide]
    exact ⟨fun x => ⟨h, x⟩, fun x => x.2⟩
  · rw [if_neg (by rw [decide_eq_true_eq]; exact h), decide_eq_false (fun x => h x.1)]
end Go.Proofs.Ytffemlfdhkndiaa.Hand
end
section
namespace Go.Proofs.Ytffemlfdhkndiaa.Hand
open Go.RowKit Go.Proofs.YtffemlfdhkndiaaW.PrintWords Go.Proofs.Ytffemlfdhkndiaa.A
set_option linter.unusedVariables false
set_option linter.unusedSimpArgs false
instance decS : DecidableEq S31 := fun a b => decidable_of_iff (a.f0 = b.f0 ∧ a.f1 = b.f1) ⟨fun h => by cases a; cases b; simp_all, fun h => by rw [h]; exact ⟨rfl, rfl⟩⟩
/-- Blocks that a list of spans has. -/
def inSp (x : S31) (k : Int) : Prop := x.f0 ≤ k ∧ k < x.f0 + x.f1
def mem (l : List S31) (k : Int) : Prop := ∃ x ∈ l, inSp x k
/-- As few spans as may be, rising, from a place on. -/
def Tidy : Int → List S31 → Prop
  | _, [] => True
  | lo, x :: l => lo ≤ x.f0 ∧ 1 ≤ x.f1 ∧ x.f0 + x.f1 ≤ 64 ∧ Tidy (x.f0 + x.f1 + 1) l
theorem mem_nil (k : Int) : ¬ mem [] k := fun ⟨_, h, _⟩ => by simp at h
theorem mem_cons (x : S31) (l : List S31) (k : Int) : mem (x :: l) k ↔ inSp x k ∨ mem l k := by
  unfold mem; simp
theorem mem_append (a b : List S31) (k : Int) : mem (a ++ b) k ↔ mem a k ∨ mem b k := by
  unfold mem
  constructor
  · rintro ⟨x, h, hk⟩
    rcases List.mem_append.1 h with h | h
    · exact .inl ⟨x, h, hk⟩
    · exact .inr ⟨x, h, hk⟩
  · rintro (⟨x, h, hk⟩ | ⟨x, h, hk⟩)
    · exact ⟨x, List.mem_append.2 (.inl h), hk⟩
    · exact ⟨x, List.mem_append.2 (.inr h), hk⟩
theorem Tidy.lo : ∀ {l : List S31} {lo lo' : Int}, Tidy lo l → lo' ≤ lo → Tidy lo' l
  | [], _, _, _, _ => trivial
  | _ :: _, _, _, ⟨h1, h2, h3, h4⟩, h => ⟨by omega, h2, h3, h4⟩
theorem Tidy.ge : ∀ {l : List S31} {lo k : Int}, Tidy lo l → mem l k → lo ≤ k ∧ k < 64
  | [], _, k, _, h => absurd h (mem_nil k)
  | x :: l, lo, k, ⟨h1, h2, h3, h4⟩, h => by
    rcases (mem_cons x l k).1 h with h | h
    · unfold inSp at h; omega
    · have := h4.ge h; omega
theorem Tidy.ext : ∀ {l l' : List S31} {lo lo' : Int}, Tidy lo l → Tidy lo' l' → (∀ k, mem l k ↔ mem l' k) → l = l'
  | [], [], _, _, _, _, _ => rfl
  | [], y :: l', _, _, _, ⟨_, h2, _, _⟩, h => absurd ((h y.f0).2 ((mem_cons y l' _).2 (.inl ⟨by omega, by omega⟩))) (mem_nil _)
  | x :: l, [], _, _, ⟨_, h2, _, _⟩, _, h => absurd ((h x.f0).1 ((mem_cons x l _).2 (.inl ⟨by omega, by omega⟩))) (mem_nil _)
  | x :: l, y :: l', lo, lo', ⟨_, h2, h3, h4⟩, ⟨_, g2, g3, g4⟩, h => by
    have lox : ∀ k, mem (x :: l) k → x.f0 ≤ k := fun k hk => by
      rcases (mem_cons x l k).1 hk with hk | hk
      · exact hk.1
      · have := h4.ge hk; omega
    have loy : ∀ k, mem (y :: l') k → y.f0 ≤ k := fun k hk => by
      rcases (mem_cons y l' k).1 hk with hk | hk
      · exact hk.1
      · have := g4.ge hk; omega
    have e0 : x.f0 = y.f0 := by
      have a := loy _ ((h x.f0).1 ((mem_cons x l _).2 (.inl ⟨by omega, by omega⟩)))
      have b := lox _ ((h y.f0).2 ((mem_cons y l' _).2 (.inl ⟨by omega, by omega⟩)))
      omega
    have nx : ¬ mem (x :: l) (x.f0 + x.f1) := fun hk => by
      rcases (mem_cons x l _).1 hk with hk | hk
      · unfold inSp at hk; omega
      · have := h4.ge hk; omega
    have ny : ¬ mem (y :: l') (y.f0 + y.f1) := fun hk => by
      rcases (mem_cons y l' _).1 hk with hk | hk
      · unfold inSp at hk; omega
      · have := g4.ge hk; omega
    have e1 : x.f1 = y.f1 := by
      rcases Int.lt_trichotomy x.f1 y.f1 with hlt | he | hgt
      · exact absurd ((h (x.f0 + x.f1)).2 ((mem_cons y l' _).2 (.inl ⟨by omega, by omega⟩))) nx
      · exact he
      · exact absurd ((h (y.f0 + y.f1)).1 ((mem_cons x l _).2 (.inl ⟨by omega, by omega⟩))) ny
    have e : x = y := by cases x; cases y; simp_all
    subst e
    have hl : l = l' := Tidy.ext h4 g4 (fun k => by
      constructor
      · intro hk
        have hge := h4.ge hk
        rcases (mem_cons x l' k).1 ((h k).1 ((mem_cons x l k).2 (.inr hk))) with hh | hh
        · unfold inSp at hh; omega
        · exact hh
      · intro hk
        have hge := g4.ge hk
        rcases (mem_cons x l k).1 ((h k).2 ((mem_cons x l' k).2 (.inr hk))) with hh | hh
        · unfold inSp at hh; omega
        · exact hh)
    rw [hl]
/-- A tidy list whose blocks all end ahead of a place, and more behind it. -/
def Ends (l : List S31) (p : Int) : Prop := ∀ x ∈ l, x.f0 + x.f1 ≤ p
theorem Tidy.snoc : ∀ {l : List S31} {lo : Int} {s : S31}, Tidy lo l → lo ≤ s.f0 → 1 ≤ s.f1 → s.f0 + s.f1 ≤ 64 → Ends l (s.f0 - 1) → Tidy lo (l ++ [s])
  | [], _, _, _, h0, h1, h2, _ => ⟨h0, h1, h2, trivial⟩
  | x :: l, lo, s, ⟨g1, g2, g3, g4⟩, h0, h1, h2, he => ⟨g1, g2, g3, g4.snoc (by have := he x (by simp); omega) h1 h2 (fun y hy => he y (by simp [hy]))⟩
theorem Ends.snoc {l : List S31} {p q : Int} {s : S31} (h : Ends l p) (hq : p ≤ q) (hs : s.f0 + s.f1 ≤ q) : Ends (l ++ [s]) q := by
  intro x hx
  rcases List.mem_append.1 hx with hx | hx
  · have := h x hx; omega
  · have : x = s := by simpa using hx
    subst this; exact hs
theorem Ends.mono {l : List S31} {p q : Int} (h : Ends l p) (hq : p ≤ q) : Ends l q := fun x hx => by have := h x hx; omega
/-- The state of add's loop: the span, whether it has been put, what has been put. -/
def joined (x s : S31) : S31 := ⟨min x.f0 s.f0, max (x.f0 + x.f1) (s.f0 + s.f1) - min x.f0 s.f0⟩
def addStep (t : S31 × Bool × List S31) (x : S31) : S31 × Bool × List S31 :=
  if touches x.f0 x.f1 t.1.f0 t.1.f1 then (joined x t.1, t.2.1, t.2.2)
  else if t.2.1 = false ∧ t.1.f0 < x.f0 then (t.1, true, t.2.2 ++ [t.1] ++ [x])
  else (t.1, t.2.1, t.2.2 ++ [x])
def addGo (l : List S31) (s : S31) : S31 × Bool × List S31 := l.foldl addStep (s, false, [])
def addV (l : List S31) (s : S31) : List S31 := if (addGo l s).2.1 then (addGo l s).2.2 else (addGo l s).2.2 ++ [(addGo l s).1]
/-- What holds behind some of the list: p is where it ended. -/
def AddInv (M : Int → Prop) (p : Int) (t : S31 × Bool × List S31) : Prop :=
  Tidy 0 t.2.2 ∧ Ends t.2.2 p ∧ wh t.1.f0 t.1.f1 ∧
  ((t.2.1 = false ∧ Ends t.2.2 (t.1.f0 - 1) ∧ ∀ k, (mem t.2.2 k ∨ inSp t.1 k) ↔ M k) ∨
   (t.2.1 = true ∧ t.1.f0 + t.1.f1 ≤ p ∧ ∀ k, mem t.2.2 k ↔ M k))
theorem AddInv.step {M : Int → Prop} {p : Int} {t : S31 × Bool × List S31} {x : S31} (h : AddInv M p t) (hx0 : p + 1 ≤ x.f0 ∨ (p = -1 ∧ 0 ≤ x.f0)) (hx1 : 1 ≤ x.f1) (hx2 : x.f0 + x.f1 ≤ 64) (hp : -1 ≤ p) :
    AddInv (fun k => M k ∨ inSp x k) (x.f0 + x.f1) (addStep t x) := by
  obtain ⟨s, d, o⟩ := t
  obtain ⟨h1, h2, h3, h4⟩ := h
  simp only at h1 h2 h3 h4
  have hx0' : 0 ≤ x.f0 := by omega
  have hpx : p + 1 ≤ x.f0 := by omega
  unfold addStep
  simp only
  by_cases ht : touches x.f0 x.f1 s.f0 s.f1
  · rw [if_pos ht]
    have ht' := ht
    unfold touches wh at ht'
    refine ⟨h1, h2.mono (by omega), by unfold wh joined; simp only; omega, ?_⟩
    rcases h4 with ⟨hd, he, hm⟩ | ⟨hd, he, hm⟩
    · refine .inl ⟨hd, fun y hy => ?_, fun k => ?_⟩
      · have a := he y hy
        have b := h2 y hy
        unfold joined; simp only; omega
      · have hmk := hm k
        simp only at hmk ⊢
        rw [← hmk]
        unfold joined inSp
        simp only
        constructor
        · rintro (h | h)
          · exact .inl (.inl h)
          · by_cases hk : s.f0 ≤ k ∧ k < s.f0 + s.f1
            · exact .inl (.inr hk)
            · exact .inr (by omega)
        · rintro ((h | h) | h)
          · exact .inl h
          · exact .inr (by omega)
          · exact .inr (by omega)
    · omega
  · rw [if_neg ht]
    unfold touches wh at ht
    unfold wh at h3
    by_cases hb : d = false ∧ s.f0 < x.f0
    · rw [if_pos hb]
      rcases h4 with ⟨hd, he, hm⟩ | ⟨hd, he, hm⟩
      · have hsx : s.f0 + s.f1 < x.f0 := by omega
        refine ⟨(h1.snoc h3.1 h3.2.1 h3.2.2 he).snoc hx0' hx1 hx2 (he.snoc (by omega) (by omega)), (he.snoc (q := x.f0 + x.f1) (by omega) (by omega)).snoc (Int.le_refl _) (Int.le_refl _), h3, .inr ⟨rfl, by simp only; omega, fun k => ?_⟩⟩
        have hmk := hm k
        simp only at hmk ⊢
        rw [mem_append, mem_append, mem_cons, mem_cons, ← hmk]
        have := mem_nil k
        simp only [this, or_false]
      · rw [hb.1] at hd; cases hd
    · rw [if_neg hb]
      rcases h4 with ⟨hd, he, hm⟩ | ⟨hd, he, hm⟩
      · have hsx : x.f0 + x.f1 < s.f0 := by
          have : ¬ s.f0 < x.f0 := fun z => hb ⟨hd, z⟩
          omega
        refine ⟨h1.snoc hx0' hx1 hx2 (h2.mono (by omega)), h2.snoc (by omega) (Int.le_refl _), h3, .inl ⟨hd, ?_, fun k => ?_⟩⟩
        · show Ends (o ++ [x]) (s.f0 - 1)
          exact (h2.mono (q := s.f0 - 1) (by omega)).snoc (Int.le_refl _) (by omega)
        · have hmk := hm k
          simp only at hmk ⊢
          rw [mem_append, mem_cons, ← hmk]
          have := mem_nil k
          simp only [this, or_false]
          constructor
          · rintro ((h | h) | h)
            · exact .inl (.inl h)
            · exact .inr h
            · exact .inl (.inr h)
          · rintro ((h | h) | h)
            · exact .inl (.inl h)
            · exact .inr h
            · exact .inl (.inr h)
      · refine ⟨h1.snoc hx0' hx1 hx2 (h2.mono (by omega)), h2.snoc (by omega) (Int.le_refl _), h3, .inr ⟨hd, by simp only; omega, fun k => ?_⟩⟩
        have hmk := hm k
        show mem (o ++ [x]) k ↔ M k ∨ inSp x k
        rw [← hmk, mem_append, mem_cons]
        have := mem_nil k
        simp only [this, or_false]
theorem addInv_all : ∀ (l : List S31) (M : Int → Prop) (p : Int) (t : S31 × Bool × List S31), -1 ≤ p → AddInv M p t → Tidy (p + 1) l → ∃ q, AddInv (fun k => M k ∨ mem l k) q (l.foldl addStep t)
  | [], M, p, t, _, h, _ => ⟨p, by simpa [mem_nil] using h⟩
  | x :: l, M, p, t, hp, h, ⟨g1, g2, g3, g4⟩ => by
    have h' := h.step (x := x) (.inl g1) g2 g3 hp
    obtain ⟨q, hq⟩ := addInv_all l _ _ _ (by omega) h' g4
    refine ⟨q, ?_⟩
    have e : (fun k => (M k ∨ inSp x k) ∨ mem l k) = fun k => M k ∨ mem (x :: l) k := by
      funext k; rw [mem_cons, or_assoc]
    rw [e] at hq
    exact hq
theorem addV_spec {l : List S31} {s : S31} (h : Tidy 0 l) (hs : wh s.f0 s.f1) : Tidy 0 (addV l s) ∧ ∀ k, mem (addV l s) k ↔ mem l k ∨ inSp s k := by
  have hnil : ∀ p, Ends ([] : List S31) p := fun p x hx => by cases hx
  have h0 : AddInv (inSp s) (-1) (s, false, []) := ⟨trivial, hnil _, hs, .inl ⟨rfl, hnil _, fun k => by simp [mem_nil]⟩⟩
  obtain ⟨q, hq⟩ := addInv_all l _ _ _ (Int.le_refl _) h0 h
  unfold addV addGo
  generalize l.foldl addStep (s, false, []) = t at *
  obtain ⟨g1, g2, g3, g4⟩ := hq
  rcases g4 with ⟨hd, he, hm⟩ | ⟨hd, he, hm⟩
  · rw [hd]
    simp only [Bool.false_eq_true, if_false]
    refine ⟨g1.snoc g3.1 g3.2.1 g3.2.2 he, fun k => ?_⟩
    rw [mem_append, mem_cons]
    have := hm k
    have hn := mem_nil k
    simp only [hn, or_false]
    rw [this, or_comm]
  · rw [hd]
    simp only [if_true]
    exact ⟨g1, fun k => by rw [hm k, or_comm]⟩
/-- How many blocks. -/
def sumN (l : List S31) : Int := (l.map (·.f1)).sum
theorem sumN_cons (x : S31) (l : List S31) : sumN (x :: l) = x.f1 + sumN l := by unfold sumN; simp
theorem sumN_append (a b : List S31) : sumN (a ++ b) = sumN a + sumN b := by unfold sumN; simp
theorem Tidy.sum : ∀ {l : List S31} {lo : Int}, lo ≤ 65 → Tidy lo l → 0 ≤ sumN l ∧ sumN l ≤ 65 - lo
  | [], lo, h, _ => by simp [sumN]; omega
  | x :: l, lo, h, ⟨h1, h2, h3, h4⟩ => by have := h4.sum (by omega); rw [sumN_cons]; omega
theorem Tidy.length : ∀ {l : List S31} {lo : Int}, lo ≤ 65 → Tidy lo l → (l.length : Int) ≤ 65 - lo
  | [], lo, h, _ => by simp; omega
  | x :: l, lo, h, ⟨h1, h2, h3, h4⟩ => by have := h4.length (by omega); rw [List.length_cons]; omega
theorem Tidy.whole : ∀ {l : List S31} {lo : Int}, 0 ≤ lo → Tidy lo l → ∀ x ∈ l, wh x.f0 x.f1
  | [], _, _, _, x, hx => by simp at hx
  | y :: l, lo, h, ⟨h1, h2, h3, h4⟩, x, hx => by
    rcases List.mem_cons.1 hx with rfl | hx
    · unfold wh; omega
    · exact h4.whole (by omega) x hx
theorem Tidy.take : ∀ {l : List S31} {lo : Int} (n : Nat), Tidy lo l → Tidy lo (l.take n)
  | [], _, _, _ => by simp [Tidy]
  | x :: l, _, 0, _ => trivial
  | x :: l, _, n + 1, ⟨h1, h2, h3, h4⟩ => ⟨h1, h2, h3, h4.take n⟩
/-- A set of blocks, as a list of bools, as spans. -/
def spansFrom (s : List Bool) : Nat → Nat → List S31
  | _, 0 => []
  | k, n + 1 => if s.getD k false then
      match spansFrom s (k + 1) n with
      | y :: r => if y.f0 = ((k + 1 : Nat) : Int) then ⟨(k : Int), y.f1 + 1⟩ :: r else ⟨(k : Int), 1⟩ :: y :: r
      | [] => [⟨(k : Int), 1⟩]
    else spansFrom s (k + 1) n
theorem spansFrom_spec (s : List Bool) : ∀ (n k : Nat), k + n ≤ 64 → Tidy (k : Int) (spansFrom s k n) ∧ ∀ j : Int, mem (spansFrom s k n) j ↔ (k : Int) ≤ j ∧ j < k + n ∧ s.getD j.toNat false = true
  | 0, k, _ => ⟨trivial, fun j => by simp only [spansFrom, mem_nil, false_iff]; omega⟩
  | n + 1, k, h => by
    obtain ⟨g1, g2⟩ := spansFrom_spec s n (k + 1) (by omega)
    unfold spansFrom
    by_cases c : s.getD k false = true
    · rw [if_pos c]
      cases hl : spansFrom s (k + 1) n with
      | nil =>
        rw [hl] at g2
        refine ⟨⟨Int.le_refl _, by simp only; omega, by simp only; omega, trivial⟩, fun j => ?_⟩
        have := g2 j
        rw [mem_cons]
        have hn := mem_nil j
        simp only [hn, or_false, false_iff] at this ⊢
        unfold inSp
        simp only
        constructor
        · intro hj
          obtain rfl : j = k := by omega
          exact ⟨by omega, by omega, by simpa using c⟩
        · rintro ⟨a, b, d⟩
          by_cases hj : j = k
          · omega
          · exact absurd ⟨by omega, by omega, d⟩ this
      | cons y r =>
        rw [hl] at g1 g2
        obtain ⟨t1, t2, t3, t4⟩ := g1
        have key : ∀ j : Int, (mem (y :: r) j ∨ j = k) ↔ (k : Int) ≤ j ∧ j < k + (n + 1 : Nat) ∧ s.getD j.toNat false = true := by
          intro j
          rw [g2 j]
          constructor
          · rintro (⟨a, b, d⟩ | rfl)
            · exact ⟨by omega, by omega, d⟩
            · exact ⟨by omega, by omega, by simpa using c⟩
          · rintro ⟨a, b, d⟩
            by_cases hj : j = k
            · exact .inr hj
            · exact .inl ⟨by omega, by omega, d⟩
        simp only
        by_cases e : y.f0 = ((k + 1 : Nat) : Int)
        · rw [if_pos e]
          refine ⟨⟨Int.le_refl _, by simp only; omega, by simp only; omega, t4.lo (by simp only; omega)⟩, fun j => ?_⟩
          rw [← key j, mem_cons, mem_cons]
          unfold inSp
          simp only
          constructor
          · rintro (a | a)
            · by_cases hj : j = k
              · exact .inr hj
              · exact .inl (.inl (by omega))
            · exact .inl (.inr a)
          · rintro ((a | a) | a)
            · exact .inl (by omega)
            · exact .inr a
            · exact .inl (by omega)
        · rw [if_neg e]
          refine ⟨⟨Int.le_refl _, by simp only; omega, by simp only; omega, ?_, t2, t3, t4⟩, fun j => ?_⟩
          · simp only; omega
          · rw [← key j, mem_cons]
            unfold inSp
            simp only
            constructor
            · rintro (a | a)
              · exact .inr (by omega)
              · exact .inl a
            · rintro (a | a)
              · exact .inr a
              · exact .inl (by omega)
    · rw [if_neg c]
      refine ⟨g1.lo (by omega), fun j => ?_⟩
      rw [g2 j]
      constructor
      · rintro ⟨a, b, d⟩
        exact ⟨by omega, by omega, d⟩
      · rintro ⟨a, b, d⟩
        by_cases hj : j = k
        · subst hj; simp at d; simp [d] at c
        · exact ⟨by omega, by omega, d⟩
def spansOf (s : List Bool) : List S31 := spansFrom s 0 64
theorem spansOf_tidy (s : List Bool) : Tidy 0 (spansOf s) := (spansFrom_spec s 64 0 (by decide)).1
theorem spansOf_mem (s : List Bool) (j : Int) : mem (spansOf s) j ↔ 0 ≤ j ∧ j < 64 ∧ s.getD j.toNat false = true := by
  have := (spansFrom_spec s 64 0 (by decide)).2 j
  rw [spansOf, this]; simp
/-- A tidy list is the set that has its blocks. -/
theorem tidy_eq {l : List S31} {s : List Bool} (h : Tidy 0 l) (hm : ∀ k : Nat, k < 64 → (mem l k ↔ s.getD k false = true)) : l = spansOf s :=
  h.ext (spansOf_tidy s) (fun j => by
    rw [spansOf_mem]
    constructor
    · intro hj
      have := h.ge hj
      obtain ⟨q, rfl⟩ := Int.eq_ofNat_of_zero_le this.1
      exact ⟨by omega, by omega, by rw [Int.toNat_natCast]; exact (hm q (by omega)).1 hj⟩
    · rintro ⟨a, b, c⟩
      obtain ⟨q, rfl⟩ := Int.eq_ofNat_of_zero_le a
      exact (hm q (by omega)).2 (by rwa [Int.toNat_natCast] at c))
end Go.Proofs.Ytffemlfdhkndiaa.Hand
end
section
namespace Go.Proofs.Ytffemlfdhkndiaa.Hand
open Go.RowKit Go.Proofs.YtffemlfdhkndiaaW.PrintWords Go.Proofs.YtffemlfdhkndiaaW.PrintLast Go.Proofs.YtffemlfdhkndiaaW.PrintMore Go.Proofs.Ytffemlfdhkndiaa.A
set_option linter.unusedVariables false
set_option linter.unusedSimpArgs false
/-- The cells of spans. -/
def flat (l : List S31) : List Value := l.flatMap fun x => [.int .i64 x.f0, .int .i64 x.f1]
theorem flat_cons (x : S31) (l : List S31) : flat (x :: l) = .int .i64 x.f0 :: .int .i64 x.f1 :: flat l := rfl
theorem flat_append (a b : List S31) : flat (a ++ b) = flat a ++ flat b := by unfold flat; rw [List.flatMap_append]
theorem flat_length : ∀ l : List S31, (flat l).length = l.length * 2
  | [] => rfl
  | x :: l => by rw [flat_cons, List.length_cons, List.length_cons, flat_length l, List.length_cons]; omega
theorem flat_get : ∀ (l : List S31) (i : Nat) (x : S31), l[i]? = some x → (flat l)[i * 2]? = some (.int .i64 x.f0) ∧ (flat l)[i * 2 + 1]? = some (.int .i64 x.f1)
  | [], i, x, h => by simp at h
  | y :: l, 0, x, h => by
    injection h with h; subst h
    exact ⟨rfl, rfl⟩
  | y :: l, i + 1, x, h => by
    have := flat_get l i x (by simpa using h)
    rw [flat_cons, show (i + 1) * 2 = i * 2 + 1 + 1 by omega]
    exact this
/-- A row of spans of one's own, from a block on. -/
abbrev ORow (w : World) (base : Nat) (v : Value) (l : List S31) : Prop := w.ownsRow base 31 2 v l.length (flat l)
theorem ORow.nil (w : World) (base : Nat) : ORow w base (.slice none 0 0) [] := World.ownsRow_nil w base _ 2
theorem ORow.reads {w : World} {base : Nat} {v : Value} {l : List S31} (h : ORow w base v l) : ∃ A c, v = .slice A l.length c ∧ l.length ≤ c ∧ Kd.C k31 w A l.length l ∧ v.ownBlock = A.map (·.block) := by
  rcases h.2 with ⟨rfl, h0⟩ | ⟨g, cap, cur, rfl, hb, hh, hn, hm, hs, ht⟩
  · obtain rfl : l = [] := List.eq_nil_of_length_eq_zero h0
    exact ⟨none, 0, rfl, Nat.le_refl _, ⟨rfl, by decide, fun h => by simp at h⟩, rfl⟩
  · refine ⟨some ⟨g, 0, none⟩, cap, rfl, hn, ⟨rfl, Nat.le_trans hn hm, fun _ => ⟨_, rfl, fun j x hj => ⟨[.int .i64 x.f0, .int .i64 x.f1], rfl, k31_mk w x, fun q u hq => ?_⟩⟩⟩, rfl⟩
    have hc := h.cells (g := g) rfl
    obtain ⟨g0, g1⟩ := flat_get l j x hj
    match q, hq with
    | 0, hq => injection hq with hq; subst hq; exact hc _ _ g0
    | 1, hq => injection hq with hq; subst hq; exact hc _ _ g1
    | q + 2, hq => simp at hq
theorem ORow.opened {w : World} {base : Nat} {v : Value} {l : List S31} (h : ORow w base v l) (h0 : 0 < l.length) : ∃ g c, v = .slice (some ⟨g, 0, none⟩) l.length c ∧ l.length ≤ c ∧ base ≤ g ∧ g < w.heap.size ∧ (∀ i x, l[i]? = some x → w.cell? ⟨g, i * 2, none⟩ = some (.int .i64 x.f0) ∧ w.cell? ⟨g, i * 2 + 1, none⟩ = some (.int .i64 x.f1)) ∧ ∀ i, w.frozen? ⟨g, i, none⟩ = false := by
  rcases h.2 with ⟨_, h1⟩ | ⟨g, cap, cur, rfl, hb, hh, hn, hm, hs, ht⟩
  · omega
  · refine ⟨g, cap, rfl, hn, hb, (Array.getElem?_eq_some_iff.1 hh).1, fun i x hx => ?_, fun i => frozen_of_row w g i cur _ hh⟩
    have hil : i < l.length := by
      rcases Nat.lt_or_ge i l.length with h | h
      · exact h
      · rw [List.getElem?_eq_none h] at hx; cases hx
    obtain ⟨g0, g1⟩ := flat_get l i x hx
    exact ⟨(World.ownsRow.cellAt h (i * 2) (by omega)).trans g0, (World.ownsRow.cellAt h (i * 2 + 1) (by omega)).trans g1⟩
theorem ORow.below {w w1 : World} {base : Nat} {v : Value} {l : List S31} (h : ORow w base v l) (hb : Below w.heap.size w w1) : ORow w1 base v l := own_move h (fun k hk => hb.block k (own_lt h k hk))
theorem ORow.only {w w1 : World} {base g : Nat} {v : Value} {l : List S31} (h : ORow w base v l) (ho : Only w w1 g) (hne : v.ownBlock ≠ some g) : ORow w1 base v l :=
  own_move h (fun k hk => ho.block k (own_lt h k hk) (fun e => hne (by rw [hk]; exact e)))
theorem ORow.far {w : World} {base : Nat} {v : Value} {l : List S31} (h : ORow w base v l) {p : Addr} (hne : v.ownBlock ≠ some p.block) (u : Value) : ORow (w.setCell p u) base v l :=
  own_move h (fun k hk => Below.heap_setCell w p u k (fun e => hne (by rw [hk, e])))
theorem ORow.lower {w : World} {base base' : Nat} {v : Value} {l : List S31} (h : ORow w base v l) (hb : base' ≤ base) : ORow w base' v l := own_weaken h hb
/-- By types: a block of another type is not the row's. -/
theorem ORow.ne {w : World} {base g t : Nat} {v : Value} {l : List S31} {cs : Array Value} (h : ORow w base v l) (hb : Blk w g t cs) (ht : 31 ≠ t) : v.ownBlock ≠ some g := fun e => own_ne h hb.hd ht e.symm
theorem reps_flat : ∀ (l : List S31) (inner : List Value) (w : World) (base : Nat) (ok : Nat → Prop), Reps (k31.M w base ok) 2 l inner → inner = flat l := by
  intro l inner w base ok h
  apply List.ext_getElem?
  intro j
  have hl : inner.length = l.length * 2 := h.1
  by_cases hj : j < l.length * 2
  · obtain ⟨i, hi⟩ : ∃ i, j = i * 2 ∨ j = i * 2 + 1 := ⟨j / 2, by omega⟩
    have hil : i < l.length := by omega
    have hx : l[i]? = some l[i] := List.getElem?_eq_getElem hil
    have hm := k31_openM (h.2 i l[i] hx)
    obtain ⟨g0, g1⟩ := flat_get l i l[i] hx
    have e : ∀ q, q < 2 → inner[i * 2 + q]? = (((inner.drop (i * 2)).take 2))[q]? := by
      intro q hq
      rw [List.getElem?_take, if_pos hq, List.getElem?_drop]
    rcases hi with rfl | rfl
    · rw [g0, show i * 2 = i * 2 + 0 by omega, e 0 (by omega), hm]; rfl
    · rw [g1, e 1 (by omega), hm]; rfl
  · rw [List.getElem?_eq_none (by omega), List.getElem?_eq_none (by rw [flat_length]; omega)]
theorem flat_reps (w : World) (base : Nat) (ok : Nat → Prop) : ∀ l : List S31, Reps (k31.M w base ok) 2 l (flat l)
  | [] => Reps.none _ _
  | x :: l => by
    have ih := flat_reps w base ok l
    refine ⟨flat_length _, fun j p hj => ?_⟩
    cases j with
    | zero => injection hj with hj; subst hj; exact k31_mkM _ _ _ _
    | succ j =>
      have := ih.2 j p (by simpa using hj)
      rw [flat_cons, show (j + 1) * 2 = j * 2 + 1 + 1 by omega]
      exact this
theorem ORow.to_R {w : World} {base : Nat} {v : Value} {l : List S31} (h : ORow w base v l) : Kd.R k31 31 w base (fun _ => True) v l :=
  ⟨fun _ _ => trivial, flat l, h, flat_reps _ _ _ l⟩
theorem ORow.of_R {w : World} {base : Nat} {ok : Nat → Prop} {v : Value} {l : List S31} (h : Kd.R k31 31 w base ok v l) : ORow w base v l := by
  obtain ⟨_, inner, ho, hr⟩ := h
  have := reps_flat l inner _ _ _ hr
  subst this
  exact ho
theorem Blk.grown {w w1 : World} {g t : Nat} {cs : Array Value} {row : Option Nat} (h : Blk w g t cs) (hg : w.grownBy w1 row) (hne : row ≠ some g) : Blk w1 g t cs := (hg.block g h.lt (fun e => hne e.symm)).trans h
theorem app_ne {v v1 : Value} {g n : Nat} (hN : v.ownBlock ≠ some g) (hg : g < n) (hat : v1.ownBlock = v.ownBlock ∨ ∃ b, v1.ownBlock = some b ∧ n ≤ b) : v1.ownBlock ≠ some g := by
  rcases hat with h | ⟨b, h, hb⟩
  · rw [h]; exact hN
  · rw [h]; intro e; injection e; omega
theorem ORow.snoc {w : World} {base : Nat} {v : Value} {l : List S31} {p q : Int} (h : w.ownsRow base 31 2 v (l.length + 1) (flat l ++ [.int .i64 p, .int .i64 q])) : ORow w base v (l ++ [⟨p, q⟩]) := by
  unfold ORow; rw [flat_append, List.length_append]; exact h
theorem ORow.ne_new {w : World} {base n : Nat} {v : Value} {l : List S31} (h : ORow w base v l) (hn : w.heap.size ≤ n) : v.ownBlock ≠ some n := fun e => by have := own_lt h n e; omega
theorem ORow.ne_old {w : World} {base n : Nat} {v : Value} {l : List S31} (h : ORow w base v l) (hn : n < base) : v.ownBlock ≠ some n := fun e => by have := own_base h n e; omega
theorem one_two (p q : Int) : ∀ u ∈ [Value.int .i64 p, Value.int .i64 q], u.oneCell' = true := by
  intro u h
  rcases List.mem_cons.1 h with rfl | h
  · rfl
  · rcases List.mem_cons.1 h with rfl | h
    · rfl
    · cases h
theorem info31' : (Try.prog.info? 31).map (fun i => (i.zero, i.size, i.bytes)) = some (some (.agg #[.int .i64 0, .int .i64 0]), 2, 16) := by kernel_rfl
end Go.Proofs.Ytffemlfdhkndiaa.Hand
end
