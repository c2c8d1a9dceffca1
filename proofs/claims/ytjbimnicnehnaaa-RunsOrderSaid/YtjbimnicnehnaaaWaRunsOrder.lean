/- RunsOrder, walked: spans in every order are the same set; put in twice they are in it once. -/
import Derived.Test.YtjbimnicnehnaaaRunsH
import Derived.Deep.Slices
import Derived.Test.YtjbimnicnehnaaaAx0
namespace Go.Proofs.Ytjbimnicnehnaaa.WRunsOrder
open Go.RowKit Go.Proofs.YtjbimnicnehnaaaW.PrintWords Go.Proofs.YtjbimnicnehnaaaW.PrintLast Go.Proofs.YtjbimnicnehnaaaW.PrintMore Go.Proofs.Ytjbimnicnehnaaa.A Go.Proofs.Ytjbimnicnehnaaa.Hand
set_option linter.unusedVariables false
set_option linter.unusedSimpArgs false
attribute [local go_sem] max2_int min2_int max_two min_two max_three min_three max_four min_four
set_option maxRecDepth 100000 in
theorem early (A : Option Addr) (c : Nat) (a : List S24) (t : Int) (w : World) (h : 30 < (a.length : Int) ∨ (a.length : Int) = 0) :
    Calls Try.prog 9 #[.slice A a.length c, .int .i64 t] w fun e w' => e = .returned (.bool true) ∧ Below w.heap.size w w' := by
  rcases h with h | h
  all_goals
    go_enter Try.func9, Try.ntmps9
    go_wp2_with (go_at_call 30; refine (alive2 _).mono ?_; rintro e w1 ⟨rfl, hB⟩)
    go_ret
    exact ⟨rfl, hB⟩
theorem wmem_turn (a : List S24) (k : Nat) (j : Int) : wmem (a.drop k ++ a.take k) j ↔ wmem a j := by
  unfold wmem
  have h : ∀ x, x ∈ a.drop k ++ a.take k ↔ x ∈ a := by
    intro x
    rw [List.mem_append, or_comm, ← List.mem_append, List.take_append_drop]
  constructor
  · rintro ⟨x, hx, r⟩; exact ⟨x, (h x).1 hx, r⟩
  · rintro ⟨x, hx, r⟩; exact ⟨x, (h x).2 hx, r⟩
theorem turned (a : List S24) (k : Nat) : putV [] (a.drop k ++ a.take k) = putV [] a := by
  obtain ⟨a1, a2⟩ := putV_nil a
  obtain ⟨b1, b2⟩ := putV_nil (a.drop k ++ a.take k)
  exact b1.ext a1 (fun j => by rw [b2, a2, wmem_turn])
theorem again (a : List S24) (k : Nat) : putV (putV [] a) (a.drop k ++ a.take k) = putV [] a := by
  obtain ⟨a1, a2⟩ := putV_nil a
  obtain ⟨b1, b2⟩ := putV_spec (a.drop k ++ a.take k) _ a1
  exact b1.ext a1 (fun j => by rw [b2, a2, wmem_turn, or_self])
theorem all_out (a : List S24) : cutAllV (putV [] a) a = [] := by
  obtain ⟨a1, a2⟩ := putV_nil a
  obtain ⟨b1, b2⟩ := cutAllV_spec a _ a1
  refine b1.ext (lo' := 0) trivial (fun j => ?_)
  rw [b2, a2]
  have := mem_nil j
  simp only [this, iff_false]
  exact fun h => h.2 h.1
set_option maxRecDepth 100000 in
set_option maxHeartbeats 1600000 in
theorem main (ad : Addr) (c : Nat) (a : List S24) (t : Int) (w : World) (ha : a.length ≤ 30) (h0 : 0 < a.length) (hc : a.length ≤ c) (hA : Kd.C k24 w (some ad) a.length a) :
    Calls Try.prog 9 #[.slice (some ad) a.length c, .int .i64 t] w fun e w' => e = .returned (.bool true) ∧ Below w.heap.size w w' := by
  have CA := Aside0.mk hA
  have i1 : (a.length : Int) ≤ 30 := by omega
  have n1 : ¬ (30 : Int) < (a.length : Int) := by omega
  have n2 : ¬ a = [] := by intro h; rw [h] at h0; simp at h0
  have m1 : -(a.length : Int) < Int.tmod t (a.length : Int) := by have := Int.lt_tmod_of_pos t (b := (a.length : Int)) (by omega); omega
  have m2 : Int.tmod t (a.length : Int) < (a.length : Int) := Int.tmod_lt_of_pos t (by omega)
  obtain ⟨q, hq1, hq2, hq⟩ : ∃ q : Nat, Int.tmod t (a.length : Int) % (a.length : Int) = (q : Int) ∧ (Int.tmod t (a.length : Int) + (a.length : Int)) % (a.length : Int) = (q : Int) ∧ q < a.length := by
    have a1 := Int.emod_nonneg (Int.tmod t (a.length : Int)) (b := (a.length : Int)) (by omega)
    have a2 := Int.emod_lt_of_pos (Int.tmod t (a.length : Int)) (b := (a.length : Int)) (by omega)
    exact ⟨(Int.tmod t (a.length : Int) % (a.length : Int)).toNat, by omega, by rw [Int.add_emod_right]; omega, by omega⟩
  have Hq1 := Aside0.mk hq1
  have Hq2 := Aside0.mk hq2
  clear hq1 hq2 hA ha
  have HB0 := Aside0.mk (Below.refl w.heap.size w)
  go_enter Try.func9, Try.ntmps9
  go_wp2_with fail
  refine (alive2 _).mono ?_
  rintro e w1 ⟨rfl, hB⟩
  have HB1 := Aside0.mk (below_step HB0.out hB)
  clear hB HB0
  go_wp2_with fail
  rw [Hq2.out]
  clear Hq1 Hq2 m1 m2
  have CD : Aside0 (Kd.C k24 w (some (ad.add (q * 2))) (a.length - q) (a.drop q)) := ⟨by have := Kd.C_drop CA.out (m := q) (by omega) hc; rw [if_neg (by omega), List.length_drop] at this; exact this⟩
  have CT : Aside0 (Kd.C k24 w (some ad) q (a.take q)) := ⟨by have := Kd.C_take CA.out (m := q) (by omega); rw [List.length_take, Nat.min_eq_left (by omega)] at this; exact this⟩
  have q0 : (0 : Int) ≤ (q : Int) := by omega
  have q1 : (q : Int) ≤ (a.length : Int) := by omega
  have q2 : (q : Int) ≤ (c : Int) := by omega
  have q3 : ¬ c = q := by omega
  refine start_ (n := 9) (S := fun w' => Below w.heap.size w w') (ds := []) #[false, false, false, false, false, false, false, false, false] (by kernel_rfl) rfl rfl ((below_drew1 HB1.out)) (fun hHeld => ?_)
  refine pure_ (i := 0) (N := some 32) (v := ?_) (a' := ?_) #[true, false, false, false, false, false, false, false, false] rfl rfl (by kernel_rfl) (fun _ _ _ h => h) (Or.inl ⟨by rfl, ?_⟩) ?_ ?_
  rotate_left
  · intro w'
    go_simp
    with_reducible rfl
  rotate_left
  · simp only [Act.put, List.setIfInBounds_toArray, List.set_cons_zero, List.set_cons_succ, i64_w, i32_w]
    rfl
  refine pure_ (i := 1) (N := some 33) (v := ?_) (a' := ?_) #[true, true, false, false, false, false, false, false, false] rfl rfl (by kernel_rfl) (fun _ _ _ h => h) (Or.inl ⟨by rfl, ?_⟩) ?_ ?_
  rotate_left
  · intro w'
    go_simp
    with_reducible rfl
  rotate_left
  · simp only [Act.put, List.setIfInBounds_toArray, List.set_cons_zero, List.set_cons_succ, i64_w, i32_w]
    rfl
  refine pure_ (i := 2) (N := some 34) (v := ?_) (a' := ?_) #[true, true, true, false, false, false, false, false, false] rfl rfl (by kernel_rfl) (fun _ _ _ h => h) (Or.inl ⟨by rfl, ?_⟩) ?_ ?_
  rotate_left
  · intro w'
    go_simp
    with_reducible rfl
  rotate_left
  · simp only [Act.put, List.setIfInBounds_toArray, List.set_cons_zero, List.set_cons_succ, i64_w, i32_w]
    rfl
  refine pure_ (i := 4) (N := some 36) (v := ?_) (a' := ?_) #[true, true, true, false, true, false, false, false, false] rfl rfl (by kernel_rfl) (fun _ _ _ h => h) (Or.inl ⟨by rfl, ?_⟩) ?_ ?_
  rotate_left
  · intro w'
    go_simp
    with_reducible rfl
  rotate_left
  · simp only [Act.put, List.setIfInBounds_toArray, List.set_cons_zero, List.set_cons_succ, i64_w, i32_w]
    rfl
  refine pure_ (i := 5) (N := some 37) (v := ?_) (a' := ?_) #[true, true, true, false, true, true, false, false, false] rfl rfl (by kernel_rfl) (fun _ _ _ h => h) (Or.inl ⟨by rfl, ?_⟩) ?_ ?_
  rotate_left
  · intro w'
    go_simp
    with_reducible rfl
  rotate_left
  · simp only [Act.put, List.setIfInBounds_toArray, List.set_cons_zero, List.set_cons_succ, i64_w, i32_w]
    rfl
  refine pure_ (i := 6) (N := some 38) (v := ?_) (a' := ?_) #[true, true, true, false, true, true, true, false, false] rfl rfl (by kernel_rfl) (fun _ _ _ h => h) (Or.inl ⟨by rfl, ?_⟩) ?_ ?_
  rotate_left
  · intro w'
    go_simp
    with_reducible rfl
  rotate_left
  · simp only [Act.put, List.setIfInBounds_toArray, List.set_cons_zero, List.set_cons_succ, i64_w, i32_w]
    rfl
  refine one_ (i := 3) (N := some 35) #[true, true, true, true, true, true, true, false, false] rfl rfl (by kernel_rfl) (by decide) (fun K hK => ?_)
  refine Kd.R_append_rows_step k24 (Rr := k24.K _) (w0 := w) w.heap.size (by rfl) (.const (.slice none 0 0)) (.tmp 34) 31 24 (.agg #[(.int .i64 0), (.int .i64 0)]) 16 (by rfl) Try.underlying31 info24' rfl (by decide) (by decide) (.slice none 0 0) [] (a.drop q) (some (ad.add (q * 2))) (a.length - q) (c - q) (fun _ => True) (fun _ => False) (by rfl) (by rfl) (Kd.R_nil _ _ _ _ _) (Kd.C_below CD.out hHeld) (by intro x cs hk; rw [k24_open hk]; exact k24_mkM _ _ _ _) (fun _ h => h.elim) (fun _ _ => trivial) hHeld (below_size hHeld) (by simp; omega) ?_
  intro v30 w30 ho30 hb30 hg30 hat30
  refine hK.out _ _ (hb30) (fun hHeld => ?_)
  clear hK K
  refine norm_ (a' := ?_) ?_ ?_
  rotate_left
  · show Act.put _ (some 35) _ = _
    simp only [Act.put, List.setIfInBounds_toArray, List.set_cons_zero, List.set_cons_succ, i64_w, i32_w]
    rfl
  refine one_ (i := 7) (N := some 39) #[true, true, true, true, true, true, true, true, false] rfl rfl (by kernel_rfl) (by decide) (fun K hK => ?_)
  refine Kd.R_append_rows_step k24 (Rr := k24.K _) (w0 := w) w.heap.size (by rfl) (.tmp 35) (.tmp 38) 31 24 (.agg #[(.int .i64 0), (.int .i64 0)]) 16 (by rfl) Try.underlying31 info24' rfl (by decide) (by decide) v30 ([] ++ a.drop q) (a.take q) (some ad) (q) (c) (fun _ => True) (fun _ => False) (by rfl) (by rfl) ho30 (Kd.C_below CT.out hHeld) (by intro x cs hk; rw [k24_open hk]; exact k24_mkM _ _ _ _) (fun _ h => h.elim) (fun _ _ => trivial) hHeld (below_size hHeld) (by simp; omega) ?_
  intro v31 w31 ho31 hb31 hg31 hat31
  refine hK.out _ _ (hb31) (fun hHeld => ?_)
  clear hK K
  refine norm_ (a' := ?_) ?_ ?_
  rotate_left
  · show Act.put _ (some 39) _ = _
    simp only [Act.put, List.setIfInBounds_toArray, List.set_cons_zero, List.set_cons_succ, i64_w, i32_w]
    rfl
  refine pure_ (i := 8) (N := some 6) (v := ?_) (a' := ?_) #[true, true, true, true, true, true, true, true, true] rfl rfl (by kernel_rfl) (fun _ _ _ h => h) (Or.inl ⟨by rfl, ?_⟩) ?_ ?_
  rotate_left
  · intro w'
    go_simp
    with_reducible rfl
  rotate_left
  · simp only [Act.put, List.setIfInBounds_toArray, List.set_cons_zero, List.set_cons_succ, i64_w, i32_w]
    rfl
  refine done_ (by kernel_rfl) ?_
  have HX := Aside0.mk (ORow.of_R ho31)
  have HB9 := Aside0.mk hb31
  obtain ⟨A2, c2, hv, _, hC2, _⟩ := HX.out.reads
  rw [List.nil_append] at hv hC2
  clear HX ho31 hb31 hg31 hat31 ho30 hb30 hg30 hat30 hHeld q0 q1 q2 q3
  have P1 := Aside0.mk (turned a q)
  have P2 := Aside0.mk (again a q)
  generalize hx : a.drop q ++ a.take q = x at *
  subst hv
  have CX := Aside0.mk hC2
  clear hC2 hx
  have TA := Aside0.mk (putV_nil a).1
  have P3 := Aside0.mk (all_out a)
  go_wp2_with fail
  refine (runs_of a (some ad) c _ (Kd.C_below CA.out HB9.out)).mono ?_
  rintro e w32 ⟨rfl, hr, hB⟩
  have Off_CX_R := Aside0.mk (off_lt CX.out (Nat.le_refl _))
  have GE_R : Aside0 (w.heap.size ≤ w31.heap.size) := ⟨HB9.out.size⟩
  have CX_32 := Aside0.mk (Kd.C_below CX.out hB)
  clear CX
  have HB32 := Aside0.mk (below_step HB9.out hB)
  have R_32 := Aside0.mk hr
  clear hr hB HB9
  generalize w31.heap.size = g1 at *
  go_wp2_with fail
  refine (runs_of x A2 c2 _ CX_32.out).mono ?_
  rintro e w33 ⟨rfl, hr, hB⟩
  rw [P1.out] at hr
  have G_R_S : Aside0 (g1 ≠ w32.heap.size) := ⟨by have := R_32.out.lt; omega⟩
  have Off_CX_S := Aside0.mk (off_lt CX_32.out (Nat.le_refl _))
  have GE_S : Aside0 (w.heap.size ≤ w32.heap.size) := ⟨HB32.out.size⟩
  have R_33 := Aside0.mk (R_32.out.keep hB)
  clear R_32
  have CX_33 := Aside0.mk (Kd.C_below CX_32.out hB)
  clear CX_32
  have HB33 := Aside0.mk (below_step HB32.out hB)
  have S_33 := Aside0.mk hr
  clear hr hB HB32
  generalize w32.heap.size = g2 at *
  generalize putV [] a = la at *
  go_wp2_with fail
  refine (runs_same g1 g1 g2 g2 la la _ TA.out TA.out R_33.out S_33.out).mono ?_
  rintro e w34 ⟨rfl, hB⟩
  rw [decide_eq_true rfl]
  have R_34 := Aside0.mk (R_33.out.keep hB)
  clear R_33
  have S_34 := Aside0.mk (S_33.out.keep hB)
  clear S_33
  have CX_34 := Aside0.mk (Kd.C_below CX_33.out hB)
  clear CX_33
  have HB34 := Aside0.mk (below_step HB33.out hB)
  clear hB HB33
  go_wp2_with fail
  refine (runs_put g1 g1 la x A2 c2 _ TA.out R_34.out (by have := R_34.out.lt; omega) CX_34.out Off_CX_R.out).mono ?_
  rintro e w35 ⟨rfl, hr, ho⟩
  rw [P2.out] at hr
  rw [P2.out, Int.sub_self]
  have S_35 := Aside0.mk (S_34.out.onlyR ho G_R_S.out.symm R_34.out)
  clear S_34
  have CX_35 := Aside0.mk (C_only CX_34.out ho Off_CX_R.out)
  clear CX_34
  have HB35 := Aside0.mk (below_only HB34.out ho GE_R.out)
  have R_35 := Aside0.mk hr
  clear hr ho R_34 HB34
  go_wp2_with fail
  refine (runs_same g1 g1 g2 g2 la la _ TA.out TA.out R_35.out S_35.out).mono ?_
  rintro e w36 ⟨rfl, hB⟩
  rw [decide_eq_true rfl]
  have R_36 := Aside0.mk (R_35.out.keep hB)
  clear R_35
  have S_36 := Aside0.mk (S_35.out.keep hB)
  clear S_35
  have CX_36 := Aside0.mk (Kd.C_below CX_35.out hB)
  clear CX_35
  have HB36 := Aside0.mk (below_step HB35.out hB)
  clear hB HB35
  have OffA : Aside0 (Off (some ad) a.length g2) := ⟨off_lt CA.out GE_S.out⟩
  go_wp2_with fail
  refine (runs_cut g2 g2 la a (some ad) c _ TA.out S_36.out (by have := S_36.out.lt; omega) (Kd.C_below CA.out HB36.out) OffA.out).mono ?_
  rintro e w37 ⟨rfl, hr, ho⟩
  rw [P3.out] at hr
  rw [P3.out, show sumN [] = 0 from rfl, Int.sub_zero]
  have R_37 := Aside0.mk (R_36.out.onlyR ho G_R_S.out S_36.out)
  clear R_36
  have CX_37 := Aside0.mk (C_only CX_36.out ho Off_CX_S.out)
  clear CX_36
  have HB37 := Aside0.mk (below_only HB36.out ho GE_S.out)
  have S_37 := Aside0.mk hr
  clear hr ho S_36 HB36
  obtain ⟨z0, z1⟩ := TA.out.sum (by decide)
  generalize hz : sumN la = z at *
  replace hz := Aside0.mk hz
  go_wp2_with fail
  refine (runs_count g1 g1 la _ TA.out R_37.out).mono ?_
  rintro e w38 ⟨rfl, hB⟩
  rw [hz.out]
  have R_38 := Aside0.mk (R_37.out.keep hB)
  clear R_37
  have S_38 := Aside0.mk (S_37.out.keep hB)
  clear S_37
  have CX_38 := Aside0.mk (Kd.C_below CX_37.out hB)
  clear CX_37
  have HB38 := Aside0.mk (below_step HB37.out hB)
  clear hB HB37
  go_wp2_with fail
  refine (runs_count g2 g2 [] _ trivial S_38.out).mono ?_
  rintro e w39 ⟨rfl, hB⟩
  have R_39 := Aside0.mk (R_38.out.keep hB)
  clear R_38
  have S_39 := Aside0.mk (S_38.out.keep hB)
  clear S_38
  have CX_39 := Aside0.mk (Kd.C_below CX_38.out hB)
  clear CX_38
  have HB39 := Aside0.mk (below_step HB38.out hB)
  clear hB HB38
  rw [show sumN [] = 0 from rfl]
  go_wp2_with fail
  go_ret
  exact ⟨rfl, HB39.out⟩
theorem walk (A : Option Addr) (c : Nat) (a : List S24) (t : Int) (w : World) (hc : a.length ≤ c) (hA : Kd.C k24 w A a.length a) (_ : (Lit.int .i64 t).wf = true) :
    Calls Try.prog 9 #[.slice A a.length c, .int .i64 t] w fun e w' => e = .returned (.bool true) ∧ Below w.heap.size w w' := by
  by_cases h : 30 < (a.length : Int) ∨ (a.length : Int) = 0
  · exact early A c a t w h
  · obtain ⟨ad, rfl, _⟩ := hA.2.2 (by omega)
    exact main ad c a t w (by omega) (by omega) hc hA
end Go.Proofs.Ytjbimnicnehnaaa.WRunsOrder
