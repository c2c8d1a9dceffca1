/- Bytes that are written (octets.Out), walked. -/
import Derived.Test.YtacmfpkmcefcfaaAbs
import Derived.Test.YtacmfpkmcefcfaaAx0
namespace Go.Proofs.Ytacmfpkmcefcfaa.Hand
open Go.RowKit Go.Proofs.YtacmfpkmcefcfaaW.PrintWords Go.Proofs.YtacmfpkmcefcfaaW.PrintLast Go.Proofs.YtacmfpkmcefcfaaW.PrintMore Go.Proofs.Ytacmfpkmcefcfaa.A
set_option linter.unusedVariables false
set_option linter.unusedSimpArgs false
attribute [local go_sem] max2_int min2_int max_two min_two max_three min_three max_four min_four
/-- A row of bytes of one's own. -/
abbrev BRow (w : World) (base : Nat) (v : Value) (l : List Int) : Prop := (Kd.int .u8).R 5 w base (fun _ => True) v l
/-- An Out: its bytes, its first error. -/
def OutAt (w : World) (base g : Nat) (l : List Int) (e : Int) : Prop := base ≤ g ∧ ∃ v, Blk w g 27 #[v, .int .i64 e] ∧ BRow w base v l
theorem OutAt.keep {w w1 : World} {base g : Nat} {l : List Int} {e : Int} (h : OutAt w base g l e) (hb : Below w.heap.size w w1) : OutAt w1 base g l e := by
  obtain ⟨h0, v, h1, h2⟩ := h
  exact ⟨h0, v, h1.keep hb, Kd.R_below h2 hb⟩
theorem OutAt.lt {w : World} {base g : Nat} {l : List Int} {e : Int} (h : OutAt w base g l e) : g < w.heap.size := by
  obtain ⟨_, v, h1, _⟩ := h
  exact h1.lt
theorem OutAt.new (w : World) (base : Nat) (hb : base ≤ w.heap.size) : OutAt (w.alloc (.cells #[.slice none 0 0, .int .i64 0] 27)) base w.heap.size [] 0 :=
  ⟨hb, _, Blk.new w _ _, Kd.R_nil _ _ _ _ _⟩
/-- A number's bytes, the lowest first. -/
def leB : Nat → Int → List Int
  | 0, _ => []
  | n + 1, v => v % 256 :: leB n (v / 256)
theorem leB_length : ∀ (n : Nat) (v : Int), (leB n v).length = n
  | 0, _ => rfl
  | n + 1, v => by unfold leB; rw [List.length_cons, leB_length n]
set_option maxRecDepth 100000 in
set_option maxHeartbeats 800000 in
theorem out_fails (base g : Nat) (l : List Int) (e a : Int) (w : World) (h : OutAt w base g l e) (hb : base ≤ w.heap.size) :
    Calls Try.prog 55 #[.pointer (some ⟨g, 0, none⟩), .int .i64 a] w fun r w' => r = .returned (.int .i64 a) ∧ OutAt w' base g l (if e = 0 then a else e) ∧ Below base w w' := by
  obtain ⟨hg, v, hB, hR⟩ := h
  have HR := Aside0.mk hR
  have BL := Aside0.mk hB
  have c1 := hB.cell (i := 1) rfl
  have f1 := hB.frozen 1
  clear hR hB
  by_cases h0 : e = 0
  · subst h0
    go_enter Try.func55, Try.ntmps55
    go_wp2_with fail
    go_ret
    refine ⟨rfl, ⟨hg, v, ?_, Kd.R_set HR.out BL.out.hd (by decide) _ _⟩, (Below.refl base w).setCell hg _⟩
    exact BL.out.set_ 1 _
  · have h1 : ¬ (e == 0) = true := by simpa using h0
    go_enter Try.func55, Try.ntmps55
    go_wp2_with fail
    go_ret
    refine ⟨rfl, ⟨hg, v, ?_, HR.out⟩, Below.refl base w⟩
    exact BL.out
set_option maxRecDepth 100000 in
set_option maxHeartbeats 800000 in
theorem out_done (base g : Nat) (l : List Int) (w : World) (h : OutAt w base g l 0) :
    Calls Try.prog 16 #[.pointer (some ⟨g, 0, none⟩)] w fun r w' => r = .returned (.tuple #[.string (strOfNums l), .int .i64 0]) ∧ w' = w := by
  obtain ⟨hg, v, hB, hR⟩ := h
  obtain ⟨A, c, rfl, hc, hC⟩ := Kd.R_reads hR
  have hs := fun (x : Unit) => Kd.C_string (P := Try.prog) Try.underlying24 Try.underlying5 Try.underlying9 (n := l.length) (c := c) hC
  have hs := hs ()
  have c0 := hB.cell (i := 0) rfl
  have c1 := hB.cell (i := 1) rfl
  clear hR hB hC
  go_enter Try.func16, Try.ntmps16
  go_wp2_with fail
  go_ret2
  exact ⟨rfl, rfl⟩
theorem leB_1 (v : Int) : leB 1 v = [v % 256] := rfl
theorem leB_2 (v : Int) : leB 2 v = [v % 256, v / 256 % 256] := rfl
theorem leB_3 (v : Int) : leB 3 v = [v % 256, v / 256 % 256, v / 65536 % 256] := by
  have h1 : v / 256 / 256 = v / 65536 := by omega
  simp only [leB, h1]
theorem leB_4 (v : Int) (hv : 0 ≤ v) (hv2 : v ≤ 4294967295) : leB 4 v = [v % 256, v / 256 % 256, v / 65536 % 256, v / 16777216] := by
  have h1 : v / 256 / 256 = v / 65536 := by omega
  have h2 : v / 65536 / 256 % 256 = v / 16777216 := by omega
  simp only [leB, h1, h2]
theorem blk_reads {w : World} {g t : Nat} {cs : Array Value} {l : List Int} (h : Blk w g t cs) (hl : l.length ≤ 1000) (hc : ∀ (j : Nat) (x : Int), l[j]? = some x → cs[j]? = some (.int .u8 x)) : (Kd.int .u8).C w (some ⟨g, 0, none⟩) l.length l := by
  refine ⟨rfl, by omega, fun _ => ⟨_, rfl, fun j x hj => ⟨[.int .u8 x], rfl, rfl, fun q u hq => ?_⟩⟩⟩
  match q, hq with
  | 0, hq =>
    injection hq with hq; subst hq
    have := h.cell (hc j x hj)
    show w.cell? ((⟨g, 0, none⟩ : Addr).add (j * 1 + 0)) = _
    rw [Nat.mul_one, Nat.add_zero]
    unfold Addr.add
    by_cases h0 : j = 0
    · subst h0; exact this
    · simp [h0]; exact this
  | q + 1, hq => simp at hq
set_option maxRecDepth 100000 in
set_option maxHeartbeats 800000 in
theorem out_lay1 (base g : Nat) (l : List Int) (e v : Int) (w : World) (h : OutAt w base g l e) (hb : base ≤ w.heap.size) (hv : 0 ≤ v) (hv2 : v ≤ 4294967295) (hl : l.length ≤ 1000000) :
    Calls Try.prog 56 #[.pointer (some ⟨g, 0, none⟩), .int .u32 v, .int .i64 1] w fun r w' => r = .returned (.tuple #[]) ∧ OutAt w' base g (l ++ leB 1 v) e ∧ Below base w w' := by
  obtain ⟨hg, va, hB, hR⟩ := h
  have HR := Aside0.mk hR
  have BL := Aside0.mk hB
  clear hR hB
  go_enter Try.func56, Try.ntmps56
  go_wp2_with fail
  have hbytes := Aside0.mk (leB_1 v)
  generalize v % 256 = b0 at *
  refine code_abs (fun X => Below base w X ∧ Blk X g 27 #[va, .int .i64 e] ∧ BRow X base va l ∧ Blk X w.heap.size 116 #[.int .u8 b0, .int .u8 0, .int .u8 0, .int .u8 0]) ⟨(Below.refl base w).alloc hb _, BL.out.alloc _, Kd.R_alloc HR.out _, Blk.new w _ _⟩ ?_
  rintro w0 ⟨q0, q1, q2, q3⟩
  have hbw := Aside0.mk (Nat.le_trans hb q0.size)
  have HB0 := Aside0.mk q0
  have BL := Aside0.mk q1
  have HR := Aside0.mk q2
  have BA := Aside0.mk q3
  clear q0 q1 q2 q3
  generalize w.heap.size = gb at *
  refine start_ (n := 11) (S := fun w' => Below base w w' ∧ w'.cell? ⟨g, 0, none⟩ = some va ∧ Below w0.heap.size w0 w') (ds := [7, 10]) #[false, false, false, false, false, false, false, false, false, false, false] (by kernel_rfl) rfl rfl ⟨(below_drew1 HB0.out), (BL.out.cell (i := 0) rfl), (below_drew1 (Below.refl _ _))⟩ (fun hHeld => ?_)
  refine pure_ (i := 0) (N := some 31) (v := ?_) (a' := ?_) #[true, false, false, false, false, false, false, false, false, false, false] rfl rfl (by kernel_rfl) (fun _ _ _ h => h) (Or.inl ⟨by rfl, ?_⟩) ?_ ?_
  rotate_left
  · intro w'
    go_simp
    with_reducible rfl
  rotate_left
  · simp only [Act.put, List.setIfInBounds_toArray, List.set_cons_zero, List.set_cons_succ, i64_w, i32_w]
    rfl
  refine pure_ (i := 1) (N := some 32) (v := ?_) (a' := ?_) #[true, true, false, false, false, false, false, false, false, false, false] rfl rfl (by kernel_rfl) (fun _ _ _ h => h) (Or.inl ⟨by rfl, ?_⟩) ?_ ?_
  rotate_left
  · intro w'
    go_simp
    with_reducible rfl
  rotate_left
  · simp only [Act.put, List.setIfInBounds_toArray, List.set_cons_zero, List.set_cons_succ, i64_w, i32_w]
    rfl
  refine pure_ (i := 2) (N := some 33) (v := ?_) (a' := ?_) #[true, true, true, false, false, false, false, false, false, false, false] rfl rfl (by kernel_rfl) (fun _ _ _ h => h) (Or.inl ⟨by rfl, ?_⟩) ?_ ?_
  rotate_left
  · intro w'
    go_simp
    with_reducible rfl
  rotate_left
  · simp only [Act.put, List.setIfInBounds_toArray, List.set_cons_zero, List.set_cons_succ, i64_w, i32_w]
    rfl
  refine pure_ (i := 3) (N := some 34) (v := ?_) (a' := ?_) #[true, true, true, true, false, false, false, false, false, false, false] rfl rfl (by kernel_rfl) (fun _ _ _ h => h) (Or.inl ⟨by rfl, ?_⟩) ?_ ?_
  rotate_left
  · intro w'
    go_simp
    with_reducible rfl
  rotate_left
  · simp only [Act.put, List.setIfInBounds_toArray, List.set_cons_zero, List.set_cons_succ, i64_w, i32_w]
    rfl
  refine pure_ (i := 5) (N := some 36) (v := ?_) (a' := ?_) #[true, true, true, true, false, true, false, false, false, false, false] rfl rfl (by kernel_rfl) (fun _ _ _ h => h) (Or.inl ⟨by rfl, ?_⟩) ?_ ?_
  rotate_left
  · intro w'
    go_simp
    with_reducible rfl
  rotate_left
  · simp only [Act.put, List.setIfInBounds_toArray, List.set_cons_zero, List.set_cons_succ, i64_w, i32_w]
    rfl
  refine pure_ (i := 6) (N := some 37) (v := ?_) (a' := ?_) #[true, true, true, true, false, true, true, false, false, false, false] rfl rfl (by kernel_rfl) (fun _ _ _ h => h) (Or.inl ⟨by rfl, ?_⟩) ?_ ?_
  rotate_left
  · intro w'
    go_simp
    with_reducible rfl
  rotate_left
  · simp only [Act.put, List.setIfInBounds_toArray, List.set_cons_zero, List.set_cons_succ, i64_w, i32_w]
    rfl
  refine take_ (i := 4) (N := some 35) (v := ?_) (a' := ?_) #[true, true, true, true, true, true, true, false, false, false, false] rfl rfl (by kernel_rfl) (fun _ _ _ h => h) (Or.inl ⟨by rfl, ?_⟩) hHeld ?_ ?_
  rotate_left
  · rintro w' ⟨s0, s1, s2⟩
    go_simp
    with_reducible rfl
  rotate_left
  · simp only [Act.put, List.setIfInBounds_toArray, List.set_cons_zero, List.set_cons_succ, i64_w, i32_w]
    rfl
  refine last_ (i := 7) (N := some 38) #[true, true, true, true, true, true, true, true, false, false, false] rfl rfl (by kernel_rfl) (by decide) (fun K hK => ?_)
  have H0 := hHeld.1
  have HS := hHeld.2.2
  have H1 := BL.out.keep hHeld.2.2
  have H2 := Kd.R_below HR.out hHeld.2.2
  have H3 := BA.out.keep hHeld.2.2
  refine Kd.R_append_rows_step (Kd.int .u8) (Rr := (Kd.int .u8).K _) (w0 := w) base (by rfl) (.tmp 35) (.tmp 37) 24 5 (.int .u8 0) 1 (by rfl) Try.underlying24 (by kernel_rfl) rfl (by decide) (by decide) va l [b0] (some ⟨gb, 0, none⟩) 1 4 (fun _ => True) (fun _ => False) (by rfl) (by rfl) H2 (blk_reads H3 (by simp) (by intro j x hj; match j, hj with | 0, hj => injection hj with hj; subst hj; rfl | j + 1, hj => simp at hj)) (fun _ _ hk => hk) (fun _ h => h.elim) (fun _ _ => trivial) H0 (Nat.le_trans hbw.out HS.size) (by omega) ?_
  intro v1 w9 hr9 hb9 hg9 hat9
  have b9 : Blk w9 g 27 #[va, .int .i64 e] := (hg9.block g H1.lt (Kd.R_ne H2 H1.hd (by decide))).trans H1
  have c9 := b9.cell (i := 0) rfl
  have f9 := b9.frozen 0
  have hR9 := Aside0.mk hr9
  obtain ⟨A9, cc9, e9, _, _⟩ := Kd.R_reads hr9
  clear hr9 hg9 hat9
  subst e9
  refine hK.out _ _ ?_
  clear hK K
  refine norm_ (a' := ?_) ?_ ?_
  rotate_left
  · show Act.put _ (some 38) _ = _
    simp only [Act.put, List.setIfInBounds_toArray, List.set_cons_zero, List.set_cons_succ, i64_w, i32_w]
    rfl
  refine pure_ (i := 8) (N := some 39) (v := ?_) (a' := ?_) #[true, true, true, true, true, true, true, true, true, false, false] rfl rfl (by kernel_rfl) (fun _ _ _ h => h) (Or.inl ⟨by rfl, ?_⟩) ?_ ?_
  rotate_left
  · intro w'
    go_simp
    with_reducible rfl
  rotate_left
  · simp only [Act.put, List.setIfInBounds_toArray, List.set_cons_zero, List.set_cons_succ, i64_w, i32_w]
    rfl
  refine pure_ (i := 9) (N := some 40) (v := ?_) (a' := ?_) #[true, true, true, true, true, true, true, true, true, true, false] rfl rfl (by kernel_rfl) (fun _ _ _ h => h) (Or.inl ⟨by rfl, ?_⟩) ?_ ?_
  rotate_left
  · intro w'
    go_simp
    with_reducible rfl
  rotate_left
  · simp only [Act.put, List.setIfInBounds_toArray, List.set_cons_zero, List.set_cons_succ, i64_w, i32_w]
    rfl
  refine last_ (i := 10) (N := none) #[true, true, true, true, true, true, true, true, true, true, true] rfl rfl (by kernel_rfl) (by decide) (fun K hK => ?_)
  refine skip_ (w1 := ?_) (by rfl) rfl ?_ ?_
  rotate_left
  · go_simp
    rfl
  refine hK.out _ _ ?_
  clear hK K
  refine done_ (by kernel_rfl) ?_
  have hR8 : BRow w9 base (.slice A9 (l.length + 1) cc9) (l ++ [b0]) := by have := hR9.out; rw [List.length_append] at this; exact this
  go_end0
  exact ⟨rfl, ⟨hg, .slice A9 (l.length + 1) cc9, b9.set_ 0 _, by rw [hbytes.out]; exact Kd.R_set hR8 b9.hd (by decide) _ _⟩, hb9.setCell hg _⟩
set_option maxRecDepth 100000 in
set_option maxHeartbeats 800000 in
theorem out_lay2 (base g : Nat) (l : List Int) (e v : Int) (w : World) (h : OutAt w base g l e) (hb : base ≤ w.heap.size) (hv : 0 ≤ v) (hv2 : v ≤ 4294967295) (hl : l.length ≤ 1000000) :
    Calls Try.prog 56 #[.pointer (some ⟨g, 0, none⟩), .int .u32 v, .int .i64 2] w fun r w' => r = .returned (.tuple #[]) ∧ OutAt w' base g (l ++ leB 2 v) e ∧ Below base w w' := by
  obtain ⟨hg, va, hB, hR⟩ := h
  have HR := Aside0.mk hR
  have BL := Aside0.mk hB
  clear hR hB
  go_enter Try.func56, Try.ntmps56
  go_wp2_with fail
  have hbytes := Aside0.mk (leB_2 v)
  generalize v % 256 = b0 at *
  generalize v / 256 % 256 = b1 at *
  refine code_abs (fun X => Below base w X ∧ Blk X g 27 #[va, .int .i64 e] ∧ BRow X base va l ∧ Blk X w.heap.size 116 #[.int .u8 b0, .int .u8 b1, .int .u8 0, .int .u8 0]) ⟨(Below.refl base w).alloc hb _, BL.out.alloc _, Kd.R_alloc HR.out _, Blk.new w _ _⟩ ?_
  rintro w0 ⟨q0, q1, q2, q3⟩
  have hbw := Aside0.mk (Nat.le_trans hb q0.size)
  have HB0 := Aside0.mk q0
  have BL := Aside0.mk q1
  have HR := Aside0.mk q2
  have BA := Aside0.mk q3
  clear q0 q1 q2 q3
  generalize w.heap.size = gb at *
  refine start_ (n := 11) (S := fun w' => Below base w w' ∧ w'.cell? ⟨g, 0, none⟩ = some va ∧ Below w0.heap.size w0 w') (ds := [7, 10]) #[false, false, false, false, false, false, false, false, false, false, false] (by kernel_rfl) rfl rfl ⟨(below_drew1 HB0.out), (BL.out.cell (i := 0) rfl), (below_drew1 (Below.refl _ _))⟩ (fun hHeld => ?_)
  refine pure_ (i := 0) (N := some 31) (v := ?_) (a' := ?_) #[true, false, false, false, false, false, false, false, false, false, false] rfl rfl (by kernel_rfl) (fun _ _ _ h => h) (Or.inl ⟨by rfl, ?_⟩) ?_ ?_
  rotate_left
  · intro w'
    go_simp
    with_reducible rfl
  rotate_left
  · simp only [Act.put, List.setIfInBounds_toArray, List.set_cons_zero, List.set_cons_succ, i64_w, i32_w]
    rfl
  refine pure_ (i := 1) (N := some 32) (v := ?_) (a' := ?_) #[true, true, false, false, false, false, false, false, false, false, false] rfl rfl (by kernel_rfl) (fun _ _ _ h => h) (Or.inl ⟨by rfl, ?_⟩) ?_ ?_
  rotate_left
  · intro w'
    go_simp
    with_reducible rfl
  rotate_left
  · simp only [Act.put, List.setIfInBounds_toArray, List.set_cons_zero, List.set_cons_succ, i64_w, i32_w]
    rfl
  refine pure_ (i := 2) (N := some 33) (v := ?_) (a' := ?_) #[true, true, true, false, false, false, false, false, false, false, false] rfl rfl (by kernel_rfl) (fun _ _ _ h => h) (Or.inl ⟨by rfl, ?_⟩) ?_ ?_
  rotate_left
  · intro w'
    go_simp
    with_reducible rfl
  rotate_left
  · simp only [Act.put, List.setIfInBounds_toArray, List.set_cons_zero, List.set_cons_succ, i64_w, i32_w]
    rfl
  refine pure_ (i := 3) (N := some 34) (v := ?_) (a' := ?_) #[true, true, true, true, false, false, false, false, false, false, false] rfl rfl (by kernel_rfl) (fun _ _ _ h => h) (Or.inl ⟨by rfl, ?_⟩) ?_ ?_
  rotate_left
  · intro w'
    go_simp
    with_reducible rfl
  rotate_left
  · simp only [Act.put, List.setIfInBounds_toArray, List.set_cons_zero, List.set_cons_succ, i64_w, i32_w]
    rfl
  refine pure_ (i := 5) (N := some 36) (v := ?_) (a' := ?_) #[true, true, true, true, false, true, false, false, false, false, false] rfl rfl (by kernel_rfl) (fun _ _ _ h => h) (Or.inl ⟨by rfl, ?_⟩) ?_ ?_
  rotate_left
  · intro w'
    go_simp
    with_reducible rfl
  rotate_left
  · simp only [Act.put, List.setIfInBounds_toArray, List.set_cons_zero, List.set_cons_succ, i64_w, i32_w]
    rfl
  refine pure_ (i := 6) (N := some 37) (v := ?_) (a' := ?_) #[true, true, true, true, false, true, true, false, false, false, false] rfl rfl (by kernel_rfl) (fun _ _ _ h => h) (Or.inl ⟨by rfl, ?_⟩) ?_ ?_
  rotate_left
  · intro w'
    go_simp
    with_reducible rfl
  rotate_left
  · simp only [Act.put, List.setIfInBounds_toArray, List.set_cons_zero, List.set_cons_succ, i64_w, i32_w]
    rfl
  refine take_ (i := 4) (N := some 35) (v := ?_) (a' := ?_) #[true, true, true, true, true, true, true, false, false, false, false] rfl rfl (by kernel_rfl) (fun _ _ _ h => h) (Or.inl ⟨by rfl, ?_⟩) hHeld ?_ ?_
  rotate_left
  · rintro w' ⟨s0, s1, s2⟩
    go_simp
    with_reducible rfl
  rotate_left
  · simp only [Act.put, List.setIfInBounds_toArray, List.set_cons_zero, List.set_cons_succ, i64_w, i32_w]
    rfl
  refine last_ (i := 7) (N := some 38) #[true, true, true, true, true, true, true, true, false, false, false] rfl rfl (by kernel_rfl) (by decide) (fun K hK => ?_)
  have H0 := hHeld.1
  have HS := hHeld.2.2
  have H1 := BL.out.keep hHeld.2.2
  have H2 := Kd.R_below HR.out hHeld.2.2
  have H3 := BA.out.keep hHeld.2.2
  refine Kd.R_append_rows_step (Kd.int .u8) (Rr := (Kd.int .u8).K _) (w0 := w) base (by rfl) (.tmp 35) (.tmp 37) 24 5 (.int .u8 0) 1 (by rfl) Try.underlying24 (by kernel_rfl) rfl (by decide) (by decide) va l [b0, b1] (some ⟨gb, 0, none⟩) 2 4 (fun _ => True) (fun _ => False) (by rfl) (by rfl) H2 (blk_reads H3 (by simp) (by intro j x hj; match j, hj with | 0, hj => injection hj with hj; subst hj; rfl | 1, hj => injection hj with hj; subst hj; rfl | j + 2, hj => simp at hj)) (fun _ _ hk => hk) (fun _ h => h.elim) (fun _ _ => trivial) H0 (Nat.le_trans hbw.out HS.size) (by omega) ?_
  intro v1 w9 hr9 hb9 hg9 hat9
  have b9 : Blk w9 g 27 #[va, .int .i64 e] := (hg9.block g H1.lt (Kd.R_ne H2 H1.hd (by decide))).trans H1
  have c9 := b9.cell (i := 0) rfl
  have f9 := b9.frozen 0
  have hR9 := Aside0.mk hr9
  obtain ⟨A9, cc9, e9, _, _⟩ := Kd.R_reads hr9
  clear hr9 hg9 hat9
  subst e9
  refine hK.out _ _ ?_
  clear hK K
  refine norm_ (a' := ?_) ?_ ?_
  rotate_left
  · show Act.put _ (some 38) _ = _
    simp only [Act.put, List.setIfInBounds_toArray, List.set_cons_zero, List.set_cons_succ, i64_w, i32_w]
    rfl
  refine pure_ (i := 8) (N := some 39) (v := ?_) (a' := ?_) #[true, true, true, true, true, true, true, true, true, false, false] rfl rfl (by kernel_rfl) (fun _ _ _ h => h) (Or.inl ⟨by rfl, ?_⟩) ?_ ?_
  rotate_left
  · intro w'
    go_simp
    with_reducible rfl
  rotate_left
  · simp only [Act.put, List.setIfInBounds_toArray, List.set_cons_zero, List.set_cons_succ, i64_w, i32_w]
    rfl
  refine pure_ (i := 9) (N := some 40) (v := ?_) (a' := ?_) #[true, true, true, true, true, true, true, true, true, true, false] rfl rfl (by kernel_rfl) (fun _ _ _ h => h) (Or.inl ⟨by rfl, ?_⟩) ?_ ?_
  rotate_left
  · intro w'
    go_simp
    with_reducible rfl
  rotate_left
  · simp only [Act.put, List.setIfInBounds_toArray, List.set_cons_zero, List.set_cons_succ, i64_w, i32_w]
    rfl
  refine last_ (i := 10) (N := none) #[true, true, true, true, true, true, true, true, true, true, true] rfl rfl (by kernel_rfl) (by decide) (fun K hK => ?_)
  refine skip_ (w1 := ?_) (by rfl) rfl ?_ ?_
  rotate_left
  · go_simp
    rfl
  refine hK.out _ _ ?_
  clear hK K
  refine done_ (by kernel_rfl) ?_
  have hR8 : BRow w9 base (.slice A9 (l.length + 2) cc9) (l ++ [b0, b1]) := by have := hR9.out; rw [List.length_append] at this; exact this
  go_end0
  exact ⟨rfl, ⟨hg, .slice A9 (l.length + 2) cc9, b9.set_ 0 _, by rw [hbytes.out]; exact Kd.R_set hR8 b9.hd (by decide) _ _⟩, hb9.setCell hg _⟩
set_option maxRecDepth 100000 in
set_option maxHeartbeats 800000 in
theorem out_lay3 (base g : Nat) (l : List Int) (e v : Int) (w : World) (h : OutAt w base g l e) (hb : base ≤ w.heap.size) (hv : 0 ≤ v) (hv2 : v ≤ 4294967295) (hl : l.length ≤ 1000000) :
    Calls Try.prog 56 #[.pointer (some ⟨g, 0, none⟩), .int .u32 v, .int .i64 3] w fun r w' => r = .returned (.tuple #[]) ∧ OutAt w' base g (l ++ leB 3 v) e ∧ Below base w w' := by
  obtain ⟨hg, va, hB, hR⟩ := h
  have HR := Aside0.mk hR
  have BL := Aside0.mk hB
  clear hR hB
  go_enter Try.func56, Try.ntmps56
  go_wp2_with fail
  have hbytes := Aside0.mk (leB_3 v)
  generalize v % 256 = b0 at *
  generalize v / 256 % 256 = b1 at *
  generalize v / 65536 % 256 = b2 at *
  refine code_abs (fun X => Below base w X ∧ Blk X g 27 #[va, .int .i64 e] ∧ BRow X base va l ∧ Blk X w.heap.size 116 #[.int .u8 b0, .int .u8 b1, .int .u8 b2, .int .u8 0]) ⟨(Below.refl base w).alloc hb _, BL.out.alloc _, Kd.R_alloc HR.out _, Blk.new w _ _⟩ ?_
  rintro w0 ⟨q0, q1, q2, q3⟩
  have hbw := Aside0.mk (Nat.le_trans hb q0.size)
  have HB0 := Aside0.mk q0
  have BL := Aside0.mk q1
  have HR := Aside0.mk q2
  have BA := Aside0.mk q3
  clear q0 q1 q2 q3
  generalize w.heap.size = gb at *
  refine start_ (n := 11) (S := fun w' => Below base w w' ∧ w'.cell? ⟨g, 0, none⟩ = some va ∧ Below w0.heap.size w0 w') (ds := [7, 10]) #[false, false, false, false, false, false, false, false, false, false, false] (by kernel_rfl) rfl rfl ⟨(below_drew1 HB0.out), (BL.out.cell (i := 0) rfl), (below_drew1 (Below.refl _ _))⟩ (fun hHeld => ?_)
  refine pure_ (i := 0) (N := some 31) (v := ?_) (a' := ?_) #[true, false, false, false, false, false, false, false, false, false, false] rfl rfl (by kernel_rfl) (fun _ _ _ h => h) (Or.inl ⟨by rfl, ?_⟩) ?_ ?_
  rotate_left
  · intro w'
    go_simp
    with_reducible rfl
  rotate_left
  · simp only [Act.put, List.setIfInBounds_toArray, List.set_cons_zero, List.set_cons_succ, i64_w, i32_w]
    rfl
  refine pure_ (i := 1) (N := some 32) (v := ?_) (a' := ?_) #[true, true, false, false, false, false, false, false, false, false, false] rfl rfl (by kernel_rfl) (fun _ _ _ h => h) (Or.inl ⟨by rfl, ?_⟩) ?_ ?_
  rotate_left
  · intro w'
    go_simp
    with_reducible rfl
  rotate_left
  · simp only [Act.put, List.setIfInBounds_toArray, List.set_cons_zero, List.set_cons_succ, i64_w, i32_w]
    rfl
  refine pure_ (i := 2) (N := some 33) (v := ?_) (a' := ?_) #[true, true, true, false, false, false, false, false, false, false, false] rfl rfl (by kernel_rfl) (fun _ _ _ h => h) (Or.inl ⟨by rfl, ?_⟩) ?_ ?_
  rotate_left
  · intro w'
    go_simp
    with_reducible rfl
  rotate_left
  · simp only [Act.put, List.setIfInBounds_toArray, List.set_cons_zero, List.set_cons_succ, i64_w, i32_w]
    rfl
  refine pure_ (i := 3) (N := some 34) (v := ?_) (a' := ?_) #[true, true, true, true, false, false, false, false, false, false, false] rfl rfl (by kernel_rfl) (fun _ _ _ h => h) (Or.inl ⟨by rfl, ?_⟩) ?_ ?_
  rotate_left
  · intro w'
    go_simp
    with_reducible rfl
  rotate_left
  · simp only [Act.put, List.setIfInBounds_toArray, List.set_cons_zero, List.set_cons_succ, i64_w, i32_w]
    rfl
  refine pure_ (i := 5) (N := some 36) (v := ?_) (a' := ?_) #[true, true, true, true, false, true, false, false, false, false, false] rfl rfl (by kernel_rfl) (fun _ _ _ h => h) (Or.inl ⟨by rfl, ?_⟩) ?_ ?_
  rotate_left
  · intro w'
    go_simp
    with_reducible rfl
  rotate_left
  · simp only [Act.put, List.setIfInBounds_toArray, List.set_cons_zero, List.set_cons_succ, i64_w, i32_w]
    rfl
  refine pure_ (i := 6) (N := some 37) (v := ?_) (a' := ?_) #[true, true, true, true, false, true, true, false, false, false, false] rfl rfl (by kernel_rfl) (fun _ _ _ h => h) (Or.inl ⟨by rfl, ?_⟩) ?_ ?_
  rotate_left
  · intro w'
    go_simp
    with_reducible rfl
  rotate_left
  · simp only [Act.put, List.setIfInBounds_toArray, List.set_cons_zero, List.set_cons_succ, i64_w, i32_w]
    rfl
  refine take_ (i := 4) (N := some 35) (v := ?_) (a' := ?_) #[true, true, true, true, true, true, true, false, false, false, false] rfl rfl (by kernel_rfl) (fun _ _ _ h => h) (Or.inl ⟨by rfl, ?_⟩) hHeld ?_ ?_
  rotate_left
  · rintro w' ⟨s0, s1, s2⟩
    go_simp
    with_reducible rfl
  rotate_left
  · simp only [Act.put, List.setIfInBounds_toArray, List.set_cons_zero, List.set_cons_succ, i64_w, i32_w]
    rfl
  refine last_ (i := 7) (N := some 38) #[true, true, true, true, true, true, true, true, false, false, false] rfl rfl (by kernel_rfl) (by decide) (fun K hK => ?_)
  have H0 := hHeld.1
  have HS := hHeld.2.2
  have H1 := BL.out.keep hHeld.2.2
  have H2 := Kd.R_below HR.out hHeld.2.2
  have H3 := BA.out.keep hHeld.2.2
  refine Kd.R_append_rows_step (Kd.int .u8) (Rr := (Kd.int .u8).K _) (w0 := w) base (by rfl) (.tmp 35) (.tmp 37) 24 5 (.int .u8 0) 1 (by rfl) Try.underlying24 (by kernel_rfl) rfl (by decide) (by decide) va l [b0, b1, b2] (some ⟨gb, 0, none⟩) 3 4 (fun _ => True) (fun _ => False) (by rfl) (by rfl) H2 (blk_reads H3 (by simp) (by intro j x hj; match j, hj with | 0, hj => injection hj with hj; subst hj; rfl | 1, hj => injection hj with hj; subst hj; rfl | 2, hj => injection hj with hj; subst hj; rfl | j + 3, hj => simp at hj)) (fun _ _ hk => hk) (fun _ h => h.elim) (fun _ _ => trivial) H0 (Nat.le_trans hbw.out HS.size) (by omega) ?_
  intro v1 w9 hr9 hb9 hg9 hat9
  have b9 : Blk w9 g 27 #[va, .int .i64 e] := (hg9.block g H1.lt (Kd.R_ne H2 H1.hd (by decide))).trans H1
  have c9 := b9.cell (i := 0) rfl
  have f9 := b9.frozen 0
  have hR9 := Aside0.mk hr9
  obtain ⟨A9, cc9, e9, _, _⟩ := Kd.R_reads hr9
  clear hr9 hg9 hat9
  subst e9
  refine hK.out _ _ ?_
  clear hK K
  refine norm_ (a' := ?_) ?_ ?_
  rotate_left
  · show Act.put _ (some 38) _ = _
    simp only [Act.put, List.setIfInBounds_toArray, List.set_cons_zero, List.set_cons_succ, i64_w, i32_w]
    rfl
  refine pure_ (i := 8) (N := some 39) (v := ?_) (a' := ?_) #[true, true, true, true, true, true, true, true, true, false, false] rfl rfl (by kernel_rfl) (fun _ _ _ h => h) (Or.inl ⟨by rfl, ?_⟩) ?_ ?_
  rotate_left
  · intro w'
    go_simp
    with_reducible rfl
  rotate_left
  · simp only [Act.put, List.setIfInBounds_toArray, List.set_cons_zero, List.set_cons_succ, i64_w, i32_w]
    rfl
  refine pure_ (i := 9) (N := some 40) (v := ?_) (a' := ?_) #[true, true, true, true, true, true, true, true, true, true, false] rfl rfl (by kernel_rfl) (fun _ _ _ h => h) (Or.inl ⟨by rfl, ?_⟩) ?_ ?_
  rotate_left
  · intro w'
    go_simp
    with_reducible rfl
  rotate_left
  · simp only [Act.put, List.setIfInBounds_toArray, List.set_cons_zero, List.set_cons_succ, i64_w, i32_w]
    rfl
  refine last_ (i := 10) (N := none) #[true, true, true, true, true, true, true, true, true, true, true] rfl rfl (by kernel_rfl) (by decide) (fun K hK => ?_)
  refine skip_ (w1 := ?_) (by rfl) rfl ?_ ?_
  rotate_left
  · go_simp
    rfl
  refine hK.out _ _ ?_
  clear hK K
  refine done_ (by kernel_rfl) ?_
  have hR8 : BRow w9 base (.slice A9 (l.length + 3) cc9) (l ++ [b0, b1, b2]) := by have := hR9.out; rw [List.length_append] at this; exact this
  go_end0
  exact ⟨rfl, ⟨hg, .slice A9 (l.length + 3) cc9, b9.set_ 0 _, by rw [hbytes.out]; exact Kd.R_set hR8 b9.hd (by decide) _ _⟩, hb9.setCell hg _⟩
set_option maxRecDepth 100000 in
set_option maxHeartbeats 800000 in
theorem out_lay4 (base g : Nat) (l : List Int) (e v : Int) (w : World) (h : OutAt w base g l e) (hb : base ≤ w.heap.size) (hv : 0 ≤ v) (hv2 : v ≤ 4294967295) (hl : l.length ≤ 1000000) :
    Calls Try.prog 56 #[.pointer (some ⟨g, 0, none⟩), .int .u32 v, .int .i64 4] w fun r w' => r = .returned (.tuple #[]) ∧ OutAt w' base g (l ++ leB 4 v) e ∧ Below base w w' := by
  obtain ⟨hg, va, hB, hR⟩ := h
  have HR := Aside0.mk hR
  have BL := Aside0.mk hB
  clear hR hB
  go_enter Try.func56, Try.ntmps56
  go_wp2_with fail
  have hbytes := Aside0.mk (leB_4 v hv hv2)
  generalize v % 256 = b0 at *
  generalize v / 256 % 256 = b1 at *
  generalize v / 65536 % 256 = b2 at *
  generalize v / 16777216 = b3 at *
  refine code_abs (fun X => Below base w X ∧ Blk X g 27 #[va, .int .i64 e] ∧ BRow X base va l ∧ Blk X w.heap.size 116 #[.int .u8 b0, .int .u8 b1, .int .u8 b2, .int .u8 b3]) ⟨(Below.refl base w).alloc hb _, BL.out.alloc _, Kd.R_alloc HR.out _, Blk.new w _ _⟩ ?_
  rintro w0 ⟨q0, q1, q2, q3⟩
  have hbw := Aside0.mk (Nat.le_trans hb q0.size)
  have HB0 := Aside0.mk q0
  have BL := Aside0.mk q1
  have HR := Aside0.mk q2
  have BA := Aside0.mk q3
  clear q0 q1 q2 q3
  generalize w.heap.size = gb at *
  refine start_ (n := 11) (S := fun w' => Below base w w' ∧ w'.cell? ⟨g, 0, none⟩ = some va ∧ Below w0.heap.size w0 w') (ds := [7, 10]) #[false, false, false, false, false, false, false, false, false, false, false] (by kernel_rfl) rfl rfl ⟨(below_drew1 HB0.out), (BL.out.cell (i := 0) rfl), (below_drew1 (Below.refl _ _))⟩ (fun hHeld => ?_)
  refine pure_ (i := 0) (N := some 31) (v := ?_) (a' := ?_) #[true, false, false, false, false, false, false, false, false, false, false] rfl rfl (by kernel_rfl) (fun _ _ _ h => h) (Or.inl ⟨by rfl, ?_⟩) ?_ ?_
  rotate_left
  · intro w'
    go_simp
    with_reducible rfl
  rotate_left
  · simp only [Act.put, List.setIfInBounds_toArray, List.set_cons_zero, List.set_cons_succ, i64_w, i32_w]
    rfl
  refine pure_ (i := 1) (N := some 32) (v := ?_) (a' := ?_) #[true, true, false, false, false, false, false, false, false, false, false] rfl rfl (by kernel_rfl) (fun _ _ _ h => h) (Or.inl ⟨by rfl, ?_⟩) ?_ ?_
  rotate_left
  · intro w'
    go_simp
    with_reducible rfl
  rotate_left
  · simp only [Act.put, List.setIfInBounds_toArray, List.set_cons_zero, List.set_cons_succ, i64_w, i32_w]
    rfl
  refine pure_ (i := 2) (N := some 33) (v := ?_) (a' := ?_) #[true, true, true, false, false, false, false, false, false, false, false] rfl rfl (by kernel_rfl) (fun _ _ _ h => h) (Or.inl ⟨by rfl, ?_⟩) ?_ ?_
  rotate_left
  · intro w'
    go_simp
    with_reducible rfl
  rotate_left
  · simp only [Act.put, List.setIfInBounds_toArray, List.set_cons_zero, List.set_cons_succ, i64_w, i32_w]
    rfl
  refine pure_ (i := 3) (N := some 34) (v := ?_) (a' := ?_) #[true, true, true, true, false, false, false, false, false, false, false] rfl rfl (by kernel_rfl) (fun _ _ _ h => h) (Or.inl ⟨by rfl, ?_⟩) ?_ ?_
  rotate_left
  · intro w'
    go_simp
    with_reducible rfl
  rotate_left
  · simp only [Act.put, List.setIfInBounds_toArray, List.set_cons_zero, List.set_cons_succ, i64_w, i32_w]
    rfl
  refine pure_ (i := 5) (N := some 36) (v := ?_) (a' := ?_) #[true, true, true, true, false, true, false, false, false, false, false] rfl rfl (by kernel_rfl) (fun _ _ _ h => h) (Or.inl ⟨by rfl, ?_⟩) ?_ ?_
  rotate_left
  · intro w'
    go_simp
    with_reducible rfl
  rotate_left
  · simp only [Act.put, List.setIfInBounds_toArray, List.set_cons_zero, List.set_cons_succ, i64_w, i32_w]
    rfl
  refine pure_ (i := 6) (N := some 37) (v := ?_) (a' := ?_) #[true, true, true, true, false, true, true, false, false, false, false] rfl rfl (by kernel_rfl) (fun _ _ _ h => h) (Or.inl ⟨by rfl, ?_⟩) ?_ ?_
  rotate_left
  · intro w'
    go_simp
    with_reducible rfl
  rotate_left
  · simp only [Act.put, List.setIfInBounds_toArray, List.set_cons_zero, List.set_cons_succ, i64_w, i32_w]
    rfl
  refine take_ (i := 4) (N := some 35) (v := ?_) (a' := ?_) #[true, true, true, true, true, true, true, false, false, false, false] rfl rfl (by kernel_rfl) (fun _ _ _ h => h) (Or.inl ⟨by rfl, ?_⟩) hHeld ?_ ?_
  rotate_left
  · rintro w' ⟨s0, s1, s2⟩
    go_simp
    with_reducible rfl
  rotate_left
  · simp only [Act.put, List.setIfInBounds_toArray, List.set_cons_zero, List.set_cons_succ, i64_w, i32_w]
    rfl
  refine last_ (i := 7) (N := some 38) #[true, true, true, true, true, true, true, true, false, false, false] rfl rfl (by kernel_rfl) (by decide) (fun K hK => ?_)
  have H0 := hHeld.1
  have HS := hHeld.2.2
  have H1 := BL.out.keep hHeld.2.2
  have H2 := Kd.R_below HR.out hHeld.2.2
  have H3 := BA.out.keep hHeld.2.2
  refine Kd.R_append_rows_step (Kd.int .u8) (Rr := (Kd.int .u8).K _) (w0 := w) base (by rfl) (.tmp 35) (.tmp 37) 24 5 (.int .u8 0) 1 (by rfl) Try.underlying24 (by kernel_rfl) rfl (by decide) (by decide) va l [b0, b1, b2, b3] (some ⟨gb, 0, none⟩) 4 4 (fun _ => True) (fun _ => False) (by rfl) (by rfl) H2 (blk_reads H3 (by simp) (by intro j x hj; match j, hj with | 0, hj => injection hj with hj; subst hj; rfl | 1, hj => injection hj with hj; subst hj; rfl | 2, hj => injection hj with hj; subst hj; rfl | 3, hj => injection hj with hj; subst hj; rfl | j + 4, hj => simp at hj)) (fun _ _ hk => hk) (fun _ h => h.elim) (fun _ _ => trivial) H0 (Nat.le_trans hbw.out HS.size) (by omega) ?_
  intro v1 w9 hr9 hb9 hg9 hat9
  have b9 : Blk w9 g 27 #[va, .int .i64 e] := (hg9.block g H1.lt (Kd.R_ne H2 H1.hd (by decide))).trans H1
  have c9 := b9.cell (i := 0) rfl
  have f9 := b9.frozen 0
  have hR9 := Aside0.mk hr9
  obtain ⟨A9, cc9, e9, _, _⟩ := Kd.R_reads hr9
  clear hr9 hg9 hat9
  subst e9
  refine hK.out _ _ ?_
  clear hK K
  refine norm_ (a' := ?_) ?_ ?_
  rotate_left
  · show Act.put _ (some 38) _ = _
    simp only [Act.put, List.setIfInBounds_toArray, List.set_cons_zero, List.set_cons_succ, i64_w, i32_w]
    rfl
  refine pure_ (i := 8) (N := some 39) (v := ?_) (a' := ?_) #[true, true, true, true, true, true, true, true, true, false, false] rfl rfl (by kernel_rfl) (fun _ _ _ h => h) (Or.inl ⟨by rfl, ?_⟩) ?_ ?_
  rotate_left
  · intro w'
    go_simp
    with_reducible rfl
  rotate_left
  · simp only [Act.put, List.setIfInBounds_toArray, List.set_cons_zero, List.set_cons_succ, i64_w, i32_w]
    rfl
  refine pure_ (i := 9) (N := some 40) (v := ?_) (a' := ?_) #[true, true, true, true, true, true, true, true, true, true, false] rfl rfl (by kernel_rfl) (fun _ _ _ h => h) (Or.inl ⟨by rfl, ?_⟩) ?_ ?_
  rotate_left
  · intro w'
    go_simp
    with_reducible rfl
  rotate_left
  · simp only [Act.put, List.setIfInBounds_toArray, List.set_cons_zero, List.set_cons_succ, i64_w, i32_w]
    rfl
  refine last_ (i := 10) (N := none) #[true, true, true, true, true, true, true, true, true, true, true] rfl rfl (by kernel_rfl) (by decide) (fun K hK => ?_)
  refine skip_ (w1 := ?_) (by rfl) rfl ?_ ?_
  rotate_left
  · go_simp
    rfl
  refine hK.out _ _ ?_
  clear hK K
  refine done_ (by kernel_rfl) ?_
  have hR8 : BRow w9 base (.slice A9 (l.length + 4) cc9) (l ++ [b0, b1, b2, b3]) := by have := hR9.out; rw [List.length_append] at this; exact this
  go_end0
  exact ⟨rfl, ⟨hg, .slice A9 (l.length + 4) cc9, b9.set_ 0 _, by rw [hbytes.out]; exact Kd.R_set hR8 b9.hd (by decide) _ _⟩, hb9.setCell hg _⟩
set_option maxRecDepth 100000 in
set_option maxHeartbeats 800000 in
theorem out_num1 (base g : Nat) (l : List Int) (e v : Int) (w : World) (h : OutAt w base g l e) (hb : base ≤ w.heap.size) (hv : 0 ≤ v) (hv2 : v < 256) (hl : l.length ≤ 1000000) :
    Calls Try.prog 15 #[.pointer (some ⟨g, 0, none⟩), .int .i64 v, .int .i64 1] w fun r w' => r = .returned (.int .i64 0) ∧ OutAt w' base g (l ++ leB 1 v) e ∧ Below base w w' := by
  have hd : v / 256 = 0 := by omega
  have hm : v % 4294967296 = v := by omega
  have hn : ¬ v < 0 := by omega
  have HO := Aside0.mk h
  clear h
  go_enter Try.func15, Try.ntmps15
  go_wp2_with fail
  refine (out_lay1 base g l e v _ HO.out hb hv (by omega) hl).mono ?_
  rintro r w1 ⟨rfl, ho, hB⟩
  have HO1 := Aside0.mk ho
  have HB1 := Aside0.mk hB
  clear ho hB
  go_wp2_with fail
  go_ret
  exact ⟨rfl, HO1.out, HB1.out⟩
set_option maxRecDepth 100000 in
set_option maxHeartbeats 800000 in
theorem out_num2 (base g : Nat) (l : List Int) (e v : Int) (w : World) (h : OutAt w base g l e) (hb : base ≤ w.heap.size) (hv : 0 ≤ v) (hv2 : v < 65536) (hl : l.length ≤ 1000000) :
    Calls Try.prog 15 #[.pointer (some ⟨g, 0, none⟩), .int .i64 v, .int .i64 2] w fun r w' => r = .returned (.int .i64 0) ∧ OutAt w' base g (l ++ leB 2 v) e ∧ Below base w w' := by
  have hd : v / 65536 = 0 := by omega
  have hm : v % 4294967296 = v := by omega
  have hn : ¬ v < 0 := by omega
  have HO := Aside0.mk h
  clear h
  go_enter Try.func15, Try.ntmps15
  go_wp2_with fail
  refine (out_lay2 base g l e v _ HO.out hb hv (by omega) hl).mono ?_
  rintro r w1 ⟨rfl, ho, hB⟩
  have HO1 := Aside0.mk ho
  have HB1 := Aside0.mk hB
  clear ho hB
  go_wp2_with fail
  go_ret
  exact ⟨rfl, HO1.out, HB1.out⟩
set_option maxRecDepth 100000 in
set_option maxHeartbeats 800000 in
theorem out_num3 (base g : Nat) (l : List Int) (e v : Int) (w : World) (h : OutAt w base g l e) (hb : base ≤ w.heap.size) (hv : 0 ≤ v) (hv2 : v < 16777216) (hl : l.length ≤ 1000000) :
    Calls Try.prog 15 #[.pointer (some ⟨g, 0, none⟩), .int .i64 v, .int .i64 3] w fun r w' => r = .returned (.int .i64 0) ∧ OutAt w' base g (l ++ leB 3 v) e ∧ Below base w w' := by
  have hd : v / 16777216 = 0 := by omega
  have hm : v % 4294967296 = v := by omega
  have hn : ¬ v < 0 := by omega
  have HO := Aside0.mk h
  clear h
  go_enter Try.func15, Try.ntmps15
  go_wp2_with fail
  refine (out_lay3 base g l e v _ HO.out hb hv (by omega) hl).mono ?_
  rintro r w1 ⟨rfl, ho, hB⟩
  have HO1 := Aside0.mk ho
  have HB1 := Aside0.mk hB
  clear ho hB
  go_wp2_with fail
  go_ret
  exact ⟨rfl, HO1.out, HB1.out⟩
set_option maxRecDepth 100000 in
set_option maxHeartbeats 800000 in
theorem out_num4 (base g : Nat) (l : List Int) (e v : Int) (w : World) (h : OutAt w base g l e) (hb : base ≤ w.heap.size) (hv : 0 ≤ v) (hv2 : v < 4294967296) (hl : l.length ≤ 1000000) :
    Calls Try.prog 15 #[.pointer (some ⟨g, 0, none⟩), .int .i64 v, .int .i64 4] w fun r w' => r = .returned (.int .i64 0) ∧ OutAt w' base g (l ++ leB 4 v) e ∧ Below base w w' := by
  have hd : v / 4294967296 = 0 := by omega
  have hm : v % 4294967296 = v := by omega
  have hn : ¬ v < 0 := by omega
  have HO := Aside0.mk h
  clear h
  go_enter Try.func15, Try.ntmps15
  go_wp2_with fail
  refine (out_lay4 base g l e v _ HO.out hb hv (by omega) hl).mono ?_
  rintro r w1 ⟨rfl, ho, hB⟩
  have HO1 := Aside0.mk ho
  have HB1 := Aside0.mk hB
  clear ho hB
  go_wp2_with fail
  go_ret
  exact ⟨rfl, HO1.out, HB1.out⟩
/-- Has a number so many bytes? -/
def Fit (v n : Int) : Prop := 0 ≤ v ∧ ((n = 1 ∧ v < 256) ∨ (n = 2 ∧ v < 65536) ∨ (n = 3 ∧ v < 16777216) ∨ (n = 4 ∧ v < 4294967296))
set_option maxRecDepth 100000 in
set_option maxHeartbeats 800000 in
theorem out_num_no (base g : Nat) (l : List Int) (e v n : Int) (w : World) (h : OutAt w base g l e) (hb : base ≤ w.heap.size) (hf : ¬ Fit v n) :
    Calls Try.prog 15 #[.pointer (some ⟨g, 0, none⟩), .int .i64 v, .int .i64 n] w fun r w' => r = .returned (.int .i64 1) ∧ OutAt w' base g l (if e = 0 then 1 else e) ∧ Below base w w' := by
  have HO := Aside0.mk h
  clear h
  have hc : n < 1 ∨ (¬ n < 1 ∧ 4 < n) ∨ (¬ n < 1 ∧ ¬ 4 < n ∧ v < 0) ∨ (¬ v < 0 ∧ ((n = 1 ∧ ¬ v / 256 = 0) ∨ (n = 2 ∧ ¬ v / 65536 = 0) ∨ (n = 3 ∧ ¬ v / 16777216 = 0) ∨ (n = 4 ∧ ¬ v / 4294967296 = 0))) := by
    unfold Fit at hf
    omega
  clear hf
  obtain ⟨z, hz⟩ : ∃ z, (if e = 0 then 1 else e) = z := ⟨_, rfl⟩
  rw [hz]
  have HZ := Aside0.mk hz
  clear hz
  rcases hc with hc | ⟨hc, hd⟩ | ⟨hc, hd, he⟩ | ⟨hc, ⟨rfl, hd⟩ | ⟨rfl, hd⟩ | ⟨rfl, hd⟩ | ⟨rfl, hd⟩⟩
  all_goals
    go_enter Try.func15, Try.ntmps15
    go_wp2_with fail
    refine (out_fails base g l e 1 _ HO.out hb).mono ?_
    rintro r w1 ⟨rfl, ho, hB⟩
    rw [HZ.out] at ho
    have HO1 := Aside0.mk ho
    have HB1 := Aside0.mk hB
    clear ho hB
    go_wp2_with fail
    go_ret
    exact ⟨rfl, HO1.out, HB1.out⟩
set_option maxRecDepth 100000 in
set_option maxHeartbeats 800000 in
theorem out_done_no (base g : Nat) (l : List Int) (e : Int) (w : World) (h : OutAt w base g l e) (he : ¬ e = 0) :
    Calls Try.prog 16 #[.pointer (some ⟨g, 0, none⟩)] w fun r w' => r = .returned (.tuple #[.string ByteArray.empty, .int .i64 e]) ∧ Below w.heap.size w w' := by
  obtain ⟨hg, v, hB, hR⟩ := h
  have c1 := hB.cell (i := 1) rfl
  have c1d := (Blk.drew hB).cell (i := 1) rfl
  clear hR hB
  go_enter Try.func16, Try.ntmps16
  go_wp2_with fail
  refine start_ (n := 6) (S := fun w' => Below w.heap.size w w' ∧ w'.cell? ⟨g, 1, none⟩ = some (.int .i64 e)) (ds := []) #[false, false, false, false, false, false] (by kernel_rfl) rfl rfl ⟨(below_drew1 (Below.refl _ _)), c1d⟩ (fun hHeld => ?_)
  refine pure_ (i := 0) (N := some 13) (v := ?_) (a' := ?_) #[true, false, false, false, false, false] rfl rfl (by kernel_rfl) (fun _ _ _ h => h) (Or.inl ⟨by rfl, ?_⟩) ?_ ?_
  rotate_left
  · intro w'
    go_simp
    with_reducible rfl
  rotate_left
  · simp only [Act.put, List.setIfInBounds_toArray, List.set_cons_zero, List.set_cons_succ, i64_w, i32_w]
    rfl
  refine pure_ (i := 1) (N := some 14) (v := ?_) (a' := ?_) #[true, true, false, false, false, false] rfl rfl (by kernel_rfl) (fun _ _ _ h => h) (Or.inl ⟨by rfl, ?_⟩) ?_ ?_
  rotate_left
  · intro w'
    go_simp
    with_reducible rfl
  rotate_left
  · simp only [Act.put, List.setIfInBounds_toArray, List.set_cons_zero, List.set_cons_succ, i64_w, i32_w]
    rfl
  refine pure_ (i := 2) (N := some 15) (v := ?_) (a' := ?_) #[true, true, true, false, false, false] rfl rfl (by kernel_rfl) (fun _ _ _ h => h) (Or.inl ⟨by rfl, ?_⟩) ?_ ?_
  rotate_left
  · intro w'
    go_simp
    with_reducible rfl
  rotate_left
  · simp only [Act.put, List.setIfInBounds_toArray, List.set_cons_zero, List.set_cons_succ, i64_w, i32_w]
    rfl
  refine pure_ (i := 4) (N := some 2) (v := ?_) (a' := ?_) #[true, true, true, false, true, false] rfl rfl (by kernel_rfl) (fun _ _ _ h => h) (Or.inl ⟨by rfl, ?_⟩) ?_ ?_
  rotate_left
  · intro w'
    go_simp
    with_reducible rfl
  rotate_left
  · simp only [Act.put, List.setIfInBounds_toArray, List.set_cons_zero, List.set_cons_succ, i64_w, i32_w]
    rfl
  refine take_ (i := 3) (N := some 16) (v := ?_) (a' := ?_) #[true, true, true, true, true, false] rfl rfl (by kernel_rfl) (fun _ _ _ h => h) (Or.inl ⟨by rfl, ?_⟩) hHeld ?_ ?_
  rotate_left
  · rintro w' ⟨s0, s1⟩
    go_simp
    with_reducible rfl
  rotate_left
  · simp only [Act.put, List.setIfInBounds_toArray, List.set_cons_zero, List.set_cons_succ, i64_w, i32_w]
    rfl
  refine pure_ (i := 5) (N := some 3) (v := ?_) (a' := ?_) #[true, true, true, true, true, true] rfl rfl (by kernel_rfl) (fun _ _ _ h => h) (Or.inl ⟨by rfl, ?_⟩) ?_ ?_
  rotate_left
  · intro w'
    go_simp
    with_reducible rfl
  rotate_left
  · simp only [Act.put, List.setIfInBounds_toArray, List.set_cons_zero, List.set_cons_succ, i64_w, i32_w]
    rfl
  refine done_ (by kernel_rfl) ?_
  go_wp2_with fail
  go_ret2
  exact ⟨rfl, hHeld.1⟩
end Go.Proofs.Ytacmfpkmcefcfaa.Hand
