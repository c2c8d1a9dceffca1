-- WRITTEN BY ownprint2.py, a program of this session, over functions that were proved by hand (Lean checks it)
import Derived.Test.YtacmfpkmcefcfaaAx0
import Derived.Test.YtacmfpkmcefcfaaAx31
import Derived.Test.YtacmfpkmcefcfaaAx34
import Derived.Test.YtacmfpkmcefcfaaBx0
import Derived.Test.YtacmfpkmcefcfaaBx2
import Derived.Test.YtacmfpkmcefcfaaBx3
namespace Go.Proofs.Ytacmfpkmcefcfaa.B
open Go.RowKit Go.Proofs.YtacmfpkmcefcfaaW.PrintWords Go.Proofs.YtacmfpkmcefcfaaW.PrintLast Go.Proofs.YtacmfpkmcefcfaaW.PrintMore Go.Proofs.Ytacmfpkmcefcfaa.A
attribute [local go_sem] max2_int min2_int max_two min_two max_three min_three max_four min_four   -- for this text's walks alone
set_option linter.unusedVariables false
set_option linter.unusedSimpArgs false

/-! ### emulsionlaw15_LeafApart: function 13 -/
def emulsionlaw15_LeafApart.j0 : Nat → Int → Bool → Option (Bool)
  | 0, _, _ => none
  | k + 1, x1, x36 => if x36 = true then (some false) else ((Slot.leaf_Slot.f k x1 ([] : List Int)).bind fun bt194 => (if bt194.2 = 0 then ((A.leaf_Read.f k bt194.1).bind fun bt196 => (some (bt196.2 == 6))) else (if x1 < 1 then (some true) else (some (decide (x1 > 1000000000))))))
def emulsionlaw15_LeafApart.f (k : Nat) (a0 : ByteArray) (a1 : Int) : Option (Bool) := (emulsionlaw15_alive.f k).bind fun t186 => (if t186 = true then (if 0 ≤ (mn (a0.size : Int) 27) then (if (mn (a0.size : Int) 27) ≤ (a0.size : Int) then ((A.leaf_Lay.f k (a0.extract 0 ((mn (a0.size : Int) 27) : Int).toNat)).bind fun bt187 => ((leaf_Unslot.f k bt187.1).bind fun bt189 => (if bt187.2 = 0 then (emulsionlaw15_LeafApart.j0 k a1 (bt189.2.2 != 6)) else (emulsionlaw15_LeafApart.j0 k a1 true)))) else (none)) else (none)) else (some false))
theorem emulsionlaw15_LeafApart.mono_l : ∀ k, (∀ y0 y1, LeO (emulsionlaw15_LeafApart.j0 k y0 y1) (emulsionlaw15_LeafApart.j0 (k + 1) y0 y1))
  | 0 => fun _ _ r h => by simp [emulsionlaw15_LeafApart.j0] at h
  | k + 1 => by
    have ih0 := emulsionlaw15_LeafApart.mono_l k
    · intro y0 y1
      unfold emulsionlaw15_LeafApart.j0
      repeat' first
      | (with_reducible exact ih0 _ _)
      | (with_reducible exact A.leaf_Lay.mono _ _)
      | (with_reducible exact A.leaf_Read.mono _ _)
      | (with_reducible exact Slot.leaf_Slot.mono _ _ _)
      | (with_reducible exact emulsionlaw15_alive.mono _)
      | (with_reducible exact leaf_Unslot.mono _ _)
      | (with_reducible exact LeO.refl _)
      | (with_reducible exact LeO.none _)
      | (with_reducible refine LeO.ite ?_ ?_)
      | (with_reducible refine LeO.bind ?_ (fun _ => ?_))
      | exact ih0 _ _
      | exact A.leaf_Lay.mono _ _
      | exact A.leaf_Read.mono _ _
      | exact Slot.leaf_Slot.mono _ _ _
      | exact emulsionlaw15_alive.mono _
      | exact leaf_Unslot.mono _ _
      | exact LeO.none _
      | refine LeO.ite ?_ ?_
      | refine LeO.bind ?_ (fun _ => ?_)
theorem emulsionlaw15_LeafApart.mono : ∀ a0 a1 k, LeO (emulsionlaw15_LeafApart.f k a0 a1) (emulsionlaw15_LeafApart.f (k + 1) a0 a1) := by
  intro a0 a1 k
  have ih0 := emulsionlaw15_LeafApart.mono_l k
  unfold emulsionlaw15_LeafApart.f
  repeat' first
      | (with_reducible exact ih0 _ _)
      | (with_reducible exact A.leaf_Lay.mono _ _)
      | (with_reducible exact A.leaf_Read.mono _ _)
      | (with_reducible exact Slot.leaf_Slot.mono _ _ _)
      | (with_reducible exact emulsionlaw15_alive.mono _)
      | (with_reducible exact leaf_Unslot.mono _ _)
      | (with_reducible exact LeO.refl _)
      | (with_reducible exact LeO.none _)
      | (with_reducible refine LeO.ite ?_ ?_)
      | (with_reducible refine LeO.bind ?_ (fun _ => ?_))
      | exact ih0 _ _
      | exact A.leaf_Lay.mono _ _
      | exact A.leaf_Read.mono _ _
      | exact Slot.leaf_Slot.mono _ _ _
      | exact emulsionlaw15_alive.mono _
      | exact leaf_Unslot.mono _ _
      | exact LeO.none _
      | refine LeO.ite ?_ ?_
      | refine LeO.bind ?_ (fun _ => ?_)
set_option maxHeartbeats 8000000 in
set_option maxRecDepth 100000 in
theorem emulsionlaw15_LeafApart.calls (k : Nat) (a0 : ByteArray) (a1 : Int) (r : Bool) (w : World) (h : emulsionlaw15_LeafApart.f k a0 a1 = some r) :
    Calls Try.prog 13 #[.string a0, .int .i64 a1] w fun e w' => e = .returned (.bool r) ∧ Below w.heap.size w w' := by
  have HB := Aside0.mk (Below.refl w.heap.size w)
  have H : ((emulsionlaw15_alive.f k).bind fun t186 => (if t186 = true then (if 0 ≤ (mn (a0.size : Int) 27) then (if (mn (a0.size : Int) 27) ≤ (a0.size : Int) then ((A.leaf_Lay.f k (a0.extract 0 ((mn (a0.size : Int) 27) : Int).toNat)).bind fun bt187 => ((leaf_Unslot.f k bt187.1).bind fun bt189 => (if bt187.2 = 0 then (emulsionlaw15_LeafApart.j0 k a1 (bt189.2.2 != 6)) else (emulsionlaw15_LeafApart.j0 k a1 true)))) else (none)) else (none)) else (some false))) = some r := h
  clear h
  replace H := Option.bind_eq_some_iff.mp H
  obtain ⟨t186, A30, H⟩ := H
  replace H : (if t186 = true then (if 0 ≤ (mn (a0.size : Int) 27) then (if (mn (a0.size : Int) 27) ≤ (a0.size : Int) then ((A.leaf_Lay.f k (a0.extract 0 ((mn (a0.size : Int) 27) : Int).toNat)).bind fun bt187 => ((leaf_Unslot.f k bt187.1).bind fun bt189 => (if bt187.2 = 0 then (emulsionlaw15_LeafApart.j0 k a1 (bt189.2.2 != 6)) else (emulsionlaw15_LeafApart.j0 k a1 true)))) else (none)) else (none)) else (some false)) = some r := H
  have A3 := Aside0.mk A30
  clear A30
  by_cases c4 : t186 = true
  · subst c4
    have H1 : (if 0 ≤ (mn (a0.size : Int) 27) then (if (mn (a0.size : Int) 27) ≤ (a0.size : Int) then ((A.leaf_Lay.f k (a0.extract 0 ((mn (a0.size : Int) 27) : Int).toNat)).bind fun bt187 => ((leaf_Unslot.f k bt187.1).bind fun bt189 => (if bt187.2 = 0 then (emulsionlaw15_LeafApart.j0 k a1 (bt189.2.2 != 6)) else (emulsionlaw15_LeafApart.j0 k a1 true)))) else (none)) else (none)) = some r := by rw [if_pos rfl] at H; exact H
    clear H
    have H := H1
    clear H1
    obtain ⟨ji5, hji5⟩ : ∃ j_ : Int, (mn (a0.size : Int) 27) = j_ := ⟨_, rfl⟩
    replace H : (if 0 ≤ (ji5) then (if (ji5) ≤ (a0.size : Int) then ((A.leaf_Lay.f k (a0.extract 0 ((ji5) : Int).toNat)).bind fun bt187 => ((leaf_Unslot.f k bt187.1).bind fun bt189 => (if bt187.2 = 0 then (emulsionlaw15_LeafApart.j0 k a1 (bt189.2.2 != 6)) else (emulsionlaw15_LeafApart.j0 k a1 true)))) else (none)) else (none)) = some r := by first | (rw [hji5] at H; exact H) | (simp only [hji5] at H ⊢; exact H)
    (try rw [hji5] at A3)
    (try (have hji5h : ji5 ≤ 27 := by (rw [← hji5]; unfold mn; (repeat' split) <;> omega)))
    (try (have hji5g : ji5 ≤ 64 := by omega))
    (try (have hji5l : 0 ≤ ji5 := by (rw [← hji5]; unfold mn; (repeat' split) <;> omega)))
    (try (have hji5m : 0 ≤ ji5 := by omega))
    have hji5_ : (if 27 < (a0.size : Int) then 27 else (a0.size : Int)) = ji5 := hji5
    by_cases c6 : 0 ≤ (ji5)
    · rw [if_pos c6] at H
      have c6b0 := eq_true c6
      have c6b1 : decide (0 ≤ (ji5)) = true := decide_eq_true c6
      clear c6
      by_cases c7 : (ji5) ≤ (a0.size : Int)
      · rw [if_pos c7] at H
        have c7b0 := eq_true c7
        have c7b1 : decide ((ji5) ≤ (a0.size : Int)) = true := decide_eq_true c7
        clear c7
        replace H := Option.bind_eq_some_iff.mp H
        obtain ⟨⟨t187, t188⟩, A80, H⟩ := H
        replace H : ((leaf_Unslot.f k t187).bind fun bt189 => (if t188 = 0 then (emulsionlaw15_LeafApart.j0 k a1 (bt189.2.2 != 6)) else (emulsionlaw15_LeafApart.j0 k a1 true))) = some r := H
        have A8 := Aside0.mk A80
        clear A80
        replace H := Option.bind_eq_some_iff.mp H
        obtain ⟨⟨t189, t190, t191⟩, A90, H⟩ := H
        replace H : (if t188 = 0 then (emulsionlaw15_LeafApart.j0 k a1 (t191 != 6)) else (emulsionlaw15_LeafApart.j0 k a1 true)) = some r := H
        have A9 := Aside0.mk A90
        clear A90
        have HC10 := Aside0.mk H
        clear H
        go_enter Try.func13, Try.ntmps13
        go_upto_region 5 with (first | ((with_reducible refine gate_callee (f := 39) rfl ?_); refine goesL_ (some 14) rfl rfl Try.func39 (by kernel_rfl) rfl #[] rfl (by (try simp only [List.map_toArray, List.map_cons, List.map_nil]); first | done | rfl | (simp only [List.length_drop, List.length_take]; rfl)) ?_; (with_reducible refine (emulsionlaw15_alive.calls k  true _ A3.out).mono ?_); rintro e w11 ⟨rfl, hb⟩; refine ⟨_, rfl, ?_⟩; have n0_ := Aside0.mk (below_step (by repeat (first | (with_reducible first | exact HB.out | apply below_alloc | apply pw_below_drewN | apply below_drew1) | exact HB.out)) hb); clear HB; have HB := n0_; clear n0_; (try clear hb); (try clear hb2); (try clear hk); (try clear hi)) | ((with_reducible refine gate_callee (f := 40) rfl ?_); refine goesL_ (some 22) rfl rfl Try.func40 (by kernel_rfl) rfl #[.string (a0.extract 0 ((ji5) : Int).toNat)] rfl (by (try simp only [List.map_toArray, List.map_cons, List.map_nil]); first | done | (simp only [hji5]; rfl) | rfl | (simp only [List.length_drop, List.length_take]; rfl)) ?_; (with_reducible refine (A.leaf_Lay.calls k (a0.extract 0 ((ji5) : Int).toNat) t187 t188 _ A8.out).mono ?_); rintro e w12 ⟨rfl, hb⟩; refine ⟨_, rfl, ?_⟩; have n0_ := Aside0.mk (below_step (by repeat (first | (with_reducible first | exact HB.out | apply below_alloc | apply pw_below_drewN | apply below_drew1) | exact HB.out)) hb); clear HB; have HB := n0_; clear n0_; (try clear hb); (try clear hb2); (try clear hk); (try clear hi)) | ((with_reducible refine gate_callee (f := 51) rfl ?_); refine goesL_ (some 27) rfl rfl Try.func51 (by kernel_rfl) rfl #[.string t187] rfl (by (try simp only [List.map_toArray, List.map_cons, List.map_nil]); first | done | rfl | (simp only [List.length_drop, List.length_take]; rfl)) ?_; (with_reducible refine (leaf_Unslot.calls k t187 t189 t190 t191 _ A9.out).mono ?_); rintro e w13 ⟨v192, rfl, ho0, hb⟩; refine ⟨_, rfl, ?_⟩; have n0_ := Aside0.mk (Kd.R_lower ho0 (below_size (by repeat (first | (with_reducible first | exact HB.out | apply below_alloc | apply pw_below_drewN | apply below_drew1) | exact HB.out)))); have n1_ := Aside0.mk (below_step (by repeat (first | (with_reducible first | exact HB.out | apply below_alloc | apply pw_below_drewN | apply below_drew1) | exact HB.out)) hb); clear HB; have HO193 := n0_; have HB := n1_; clear n0_ n1_; (try clear hb); (try clear hb2); (try clear hk); (try clear hi); (try clear ho0)))
        (try simp only [Act.put, List.setIfInBounds_toArray, List.set_cons_zero, List.set_cons_succ])
        go_cut [36] (fun v36 wc => ∃ (kq : Nat) (x36_9 : Bool), v36 = .bool x36_9 ∧ Aside0 (emulsionlaw15_LeafApart.j0 kq a1 x36_9 = some r) ∧ Aside0 (kq ≤ k) ∧ Aside0 (Below w.heap.size w wc))
        case first =>
          have H := HC10.out
          clear HC10
          by_cases c14 : t188 = 0
          · rw [if_pos c14] at H
            have c14b0 : (t188 == 0) = true := beq_iff_eq.mpr c14
            have c14b1 : (t188 != 0) = false := bne_eq_false_iff_eq.mpr c14
            clear c14
            (first | rw [c14b0] | (simp only [i64_w, i32_w]; rw [c14b0]) | skip)
            have H' := Aside0.mk H
            clear H
            go_wp2
            go_meet
            case rel => exact ⟨_, ((t191 != 6)), (by first | rfl | (simp; done) | (simp [*]; done)), H', ⟨by first | omega | exact Nat.le_refl _⟩, ⟨by repeat (first | (with_reducible first | exact HB.out | apply below_alloc | apply pw_below_drewN | apply below_drew1) | exact HB.out)⟩⟩
          · rw [if_neg c14] at H
            have c14b0 : (t188 == 0) = false := beq_eq_false_iff_ne.mpr c14
            have c14b1 : (t188 != 0) = true := bne_iff_ne.mpr c14
            (first | rw [c14b0] | (simp only [i64_w, i32_w]; rw [c14b0]) | skip)
            have H' := Aside0.mk H
            clear H
            go_wp2
            go_meet
            case rel => exact ⟨_, (true), (by first | rfl | (simp; done) | (simp [*]; done)), H', ⟨by first | omega | exact Nat.le_refl _⟩, ⟨by repeat (first | (with_reducible first | exact HB.out | apply below_alloc | apply pw_below_drewN | apply below_drew1) | exact HB.out)⟩⟩
        case rest =>
          clear HC10
          try clear c1
          try clear p2
          try clear c3
          try clear c4
          try clear c5
          try clear c6
          try clear c6b0
          try clear c6b1
          try clear c7
          try clear c7b0
          try clear c7b1
          try clear c13
          try clear c14
          try clear c14b0
          try clear c14b1
          obtain ⟨kq, x36_9, rfl, HA, HJ9, HB⟩ := hcut
          cases kq with
          | zero => exact absurd HA.out (by simp [emulsionlaw15_LeafApart.j0])
          | succ kj9 =>
            have H := HA.out
            clear HA
            simp only [emulsionlaw15_LeafApart.j0] at H
            by_cases c15 : x36_9 = true
            · subst c15
              have H1 : (some false) = some r := by rw [if_pos rfl] at H; exact H
              clear H
              have H := H1
              clear H1
              obtain rfl := Option.some.inj H
              go_wp2
              go_ret
              exact ⟨by first | rfl | (simp [errW_none, errW_some] <;> rfl) | (simp only [← hji5]; first | rfl | (simp [errW_none, errW_some] <;> rfl)) | (simp [*, errW_none, errW_some] <;> rfl), by repeat (first | (with_reducible first | exact HB.out | apply below_alloc | apply pw_below_drewN | apply below_drew1) | exact HB.out)⟩
            · replace c15 := Bool.eq_false_iff.mpr c15
              subst c15
              have H1 : ((Slot.leaf_Slot.f kj9 a1 ([] : List Int)).bind fun bt194 => (if bt194.2 = 0 then ((A.leaf_Read.f kj9 bt194.1).bind fun bt196 => (some (bt196.2 == 6))) else (if a1 < 1 then (some true) else (some (decide (a1 > 1000000000)))))) = some r := by rw [if_neg (show ¬ (false = true) by decide)] at H; exact H
              clear H
              have H := H1
              clear H1
              replace H := Option.bind_eq_some_iff.mp H
              obtain ⟨⟨t194, t195⟩, A160, H⟩ := H
              replace H : (if t195 = 0 then ((A.leaf_Read.f kj9 t194).bind fun bt196 => (some (bt196.2 == 6))) else (if a1 < 1 then (some true) else (some (decide (a1 > 1000000000))))) = some r := H
              have A16 := Aside0.mk A160
              clear A160
              by_cases c17 : t195 = 0
              · rw [if_pos c17] at H
                have c17b0 : (t195 == 0) = true := beq_iff_eq.mpr c17
                have c17b1 : (t195 != 0) = false := bne_eq_false_iff_eq.mpr c17
                clear c17
                replace H := Option.bind_eq_some_iff.mp H
                obtain ⟨⟨t196, t197⟩, A180, H⟩ := H
                replace H : (some (t197 == 6)) = some r := H
                have A18 := Aside0.mk A180
                clear A180
                obtain rfl := Option.some.inj H
                go_wp2_with (first | ((with_reducible refine gate_callee (f := 48) rfl ?_); refine goesL_ (some 39) rfl rfl Try.func48 (by kernel_rfl) rfl #[.int .i64 a1, .slice none 0 0] rfl (by (try simp only [List.map_toArray, List.map_cons, List.map_nil]); first | done | rfl | (simp only [List.length_drop, List.length_take]; rfl)) ?_; (refine (Slot.leaf_Slot.calls kj9 a1 _ _ ([] : List Int) t194 t195 _ ?side1 ?side2 A16.out).mono ?_); (case side1 => exact Kd.C_nil _ _); (case side2 => exact Nat.le_refl _); rintro e w19 ⟨rfl, hb⟩; refine ⟨_, rfl, ?_⟩; have n0_ := Aside0.mk (below_step (by repeat (first | (with_reducible first | exact HB.out | apply below_alloc | apply pw_below_drewN | apply below_drew1) | exact HB.out)) hb); clear HB; have HB := n0_; clear n0_; (try clear hb); (try clear hb2); (try clear hk); (try clear hi)) | ((with_reducible refine gate_callee (f := 42) rfl ?_); refine goesL_ (some 52) rfl rfl Try.func42 (by kernel_rfl) rfl #[.string t194] rfl (by (try simp only [List.map_toArray, List.map_cons, List.map_nil]); first | done | rfl | (simp only [List.length_drop, List.length_take]; rfl)) ?_; (with_reducible refine (A.leaf_Read.calls kj9 t194 t196 t197 _ A18.out).mono ?_); rintro e w20 ⟨rfl, hb⟩; refine ⟨_, rfl, ?_⟩; have n0_ := Aside0.mk (below_step (by repeat (first | (with_reducible first | exact HB.out | apply below_alloc | apply pw_below_drewN | apply below_drew1) | exact HB.out)) hb); clear HB; have HB := n0_; clear n0_; (try clear hb); (try clear hb2); (try clear hk); (try clear hi)))
                go_ret
                exact ⟨by first | rfl | (simp [errW_none, errW_some] <;> rfl) | (simp only [← hji5]; first | rfl | (simp [errW_none, errW_some] <;> rfl)) | (simp [*, errW_none, errW_some] <;> rfl), by repeat (first | (with_reducible first | exact HB.out | apply below_alloc | apply pw_below_drewN | apply below_drew1) | exact HB.out)⟩
              · rw [if_neg c17] at H
                have c17b0 : (t195 == 0) = false := beq_eq_false_iff_ne.mpr c17
                have c17b1 : (t195 != 0) = true := bne_iff_ne.mpr c17
                by_cases c21 : a1 < 1
                · rw [if_pos c21] at H
                  have c21b0 : decide (a1 < 1) = true := decide_eq_true c21
                  clear c21
                  obtain rfl := Option.some.inj H
                  go_wp2_with (first | ((with_reducible refine gate_callee (f := 48) rfl ?_); refine goesL_ (some 39) rfl rfl Try.func48 (by kernel_rfl) rfl #[.int .i64 a1, .slice none 0 0] rfl (by (try simp only [List.map_toArray, List.map_cons, List.map_nil]); first | done | rfl | (simp only [List.length_drop, List.length_take]; rfl)) ?_; (refine (Slot.leaf_Slot.calls kj9 a1 _ _ ([] : List Int) t194 t195 _ ?side1 ?side2 A16.out).mono ?_); (case side1 => exact Kd.C_nil _ _); (case side2 => exact Nat.le_refl _); rintro e w22 ⟨rfl, hb⟩; refine ⟨_, rfl, ?_⟩; have n0_ := Aside0.mk (below_step (by repeat (first | (with_reducible first | exact HB.out | apply below_alloc | apply pw_below_drewN | apply below_drew1) | exact HB.out)) hb); clear HB; have HB := n0_; clear n0_; (try clear hb); (try clear hb2); (try clear hk); (try clear hi)))
                  go_ret
                  exact ⟨by first | rfl | (simp [errW_none, errW_some] <;> rfl) | (simp only [← hji5]; first | rfl | (simp [errW_none, errW_some] <;> rfl)) | (simp [*, errW_none, errW_some] <;> rfl), by repeat (first | (with_reducible first | exact HB.out | apply below_alloc | apply pw_below_drewN | apply below_drew1) | exact HB.out)⟩
                · rw [if_neg c21] at H
                  have c21b0 : decide (a1 < 1) = false := decide_eq_false c21
                  clear c21
                  obtain rfl := Option.some.inj H
                  go_wp2_with (first | ((with_reducible refine gate_callee (f := 48) rfl ?_); refine goesL_ (some 39) rfl rfl Try.func48 (by kernel_rfl) rfl #[.int .i64 a1, .slice none 0 0] rfl (by (try simp only [List.map_toArray, List.map_cons, List.map_nil]); first | done | rfl | (simp only [List.length_drop, List.length_take]; rfl)) ?_; (refine (Slot.leaf_Slot.calls kj9 a1 _ _ ([] : List Int) t194 t195 _ ?side1 ?side2 A16.out).mono ?_); (case side1 => exact Kd.C_nil _ _); (case side2 => exact Nat.le_refl _); rintro e w23 ⟨rfl, hb⟩; refine ⟨_, rfl, ?_⟩; have n0_ := Aside0.mk (below_step (by repeat (first | (with_reducible first | exact HB.out | apply below_alloc | apply pw_below_drewN | apply below_drew1) | exact HB.out)) hb); clear HB; have HB := n0_; clear n0_; (try clear hb); (try clear hb2); (try clear hk); (try clear hi)))
                  go_ret
                  exact ⟨by first | rfl | (simp [errW_none, errW_some] <;> rfl) | (simp only [← hji5]; first | rfl | (simp [errW_none, errW_some] <;> rfl)) | (simp [*, errW_none, errW_some] <;> rfl), by repeat (first | (with_reducible first | exact HB.out | apply below_alloc | apply pw_below_drewN | apply below_drew1) | exact HB.out)⟩
      · rw [if_neg c7] at H
        exact absurd H (by simp)
    · rw [if_neg c6] at H
      exact absurd H (by simp)
  · replace c4 := Bool.eq_false_iff.mpr c4
    subst c4
    have H1 : (some false) = some r := by rw [if_neg (show ¬ (false = true) by decide)] at H; exact H
    clear H
    have H := H1
    clear H1
    obtain rfl := Option.some.inj H
    go_enter Try.func13, Try.ntmps13
    go_wp2_with (first | ((with_reducible refine gate_callee (f := 39) rfl ?_); refine goesL_ (some 14) rfl rfl Try.func39 (by kernel_rfl) rfl #[] rfl (by (try simp only [List.map_toArray, List.map_cons, List.map_nil]); first | done | rfl | (simp only [List.length_drop, List.length_take]; rfl)) ?_; (with_reducible refine (emulsionlaw15_alive.calls k  false _ A3.out).mono ?_); rintro e w24 ⟨rfl, hb⟩; refine ⟨_, rfl, ?_⟩; have n0_ := Aside0.mk (below_step (by repeat (first | (with_reducible first | exact HB.out | apply below_alloc | apply pw_below_drewN | apply below_drew1) | exact HB.out)) hb); clear HB; have HB := n0_; clear n0_; (try clear hb); (try clear hb2); (try clear hk); (try clear hi)))
    go_ret
    exact ⟨by first | rfl | (simp [errW_none, errW_some] <;> rfl) | (simp [*, errW_none, errW_some] <;> rfl), by repeat (first | (with_reducible first | exact HB.out | apply below_alloc | apply pw_below_drewN | apply below_drew1) | exact HB.out)⟩

/-- THE ONE PURE STATEMENT of emulsionlaw15_LeafApart: yours. -/
def emulsionlaw15_LeafApart.Pure : Prop := ∀ (a0 : ByteArray) (a1 : Int), a0.size ≤ 140737488351232 → (Lit.int .i64 a1).wf = true → ∃ k, emulsionlaw15_LeafApart.f k a0 a1 = some true
theorem emulsionlaw15_LeafApart.walk (P : emulsionlaw15_LeafApart.Pure) (a0 : ByteArray) (a1 : Int) (w : World) (w0 : a0.size ≤ 140737488351232) (w1 : (Lit.int .i64 a1).wf = true) :
    Calls Try.prog 13 #[.string a0, .int .i64 a1] w fun e w' => e = .returned (.bool true) ∧ Below w.heap.size w w' := by
  obtain ⟨k, h⟩ := P a0 a1 w0 w1
  refine (emulsionlaw15_LeafApart.calls k a0 a1 true w h).mono ?_
  rintro e w' ⟨rfl, hd⟩
  exact ⟨rfl, hd⟩

end Go.Proofs.Ytacmfpkmcefcfaa.B
