-- WRITTEN BY ownprint.py, a program of this session, over functions that were proved by hand (Lean checks it)
import Derived.Test.YthlegbnbefmfkaaETallyTellsx0
import Derived.Test.YthlegbnbefmfkaaETallyTellsx1
namespace Go.Proofs.Ythlegbnbefmfkaa.ETallyTells
open Go.RowKit Go.Proofs.YthlegbnbefmfkaaW.PrintWords Go.Proofs.YthlegbnbefmfkaaW.PrintLast Go.Proofs.YthlegbnbefmfkaaW.PrintMore
attribute [local go_sem] max2_int min2_int max_two min_two max_three min_three max_four min_four   -- for this text's walks alone
set_option linter.unusedVariables false
set_option linter.unusedSimpArgs false

/-! ### emulsionlaw12_TallyTells: function 8 -/
mutual
def emulsionlaw12_TallyTells.j0 : Nat → ByteArray → ByteArray → Bool → Option (Bool)
  | 0, _, _, _ => none
  | k + 1, x0, x1, x21 => if x21 = true then ((emulsionlaw12_alive.f k).bind fun t115 => (some t115)) else ((tally_Open.f k x1).bind fun bt116 => (if (wrap64 ((x1.size : Int) - 4)) ≥ 0 then (if 0 ≤ (wrap64 ((x1.size : Int) - 4)) then (if (wrap64 ((x1.size : Int) - 4)) ≤ (x1.size : Int) then ((emulsionref1_Tally.f k (x1.extract 0 ((wrap64 ((x1.size : Int) - 4)) : Int).toNat)).bind fun t118 => ((emulsionref1_Num.f k (wrap64 (t118)) 4).bind fun t119 => (if (x1.extract ((wrap64 ((x1.size : Int) - 4)) : Int).toNat x1.size).toList = t119.toList then (emulsionlaw12_TallyTells.j1 k x0 x1 bt116.1 bt116.2 (x1.extract 0 ((wrap64 ((x1.size : Int) - 4)) : Int).toNat) 0) else (emulsionlaw12_TallyTells.j1 k x0 x1 bt116.1 bt116.2 (⟨#[]⟩ : ByteArray) 6)))) else (none)) else (none)) else (emulsionlaw12_TallyTells.j1 k x0 x1 bt116.1 bt116.2 (⟨#[]⟩ : ByteArray) 8)))
def emulsionlaw12_TallyTells.j1 : Nat → ByteArray → ByteArray → ByteArray → Int → ByteArray → Int → Option (Bool)
  | 0, _, _, _, _, _, _ => none
  | k + 1, x0, x1, x5, x6, x8, x9 => (tally_Of.f k x0).bind fun t120 => ((emulsionref1_Tally.f k x0).bind fun t121 => (if t120 = t121 then ((tally_Of.f k x0).bind fun t122 => ((tally_Add.f k t122 x1).bind fun t123 => (if x0.size + x1.size ≤ 9223372036854775807 then ((emulsionref1_Tally.f k (x0 ++ x1)).bind fun t124 => (if t123 = t124 then ((tally_Seal.f k x0).bind fun t125 => ((emulsionref1_Tally.f k x0).bind fun t126 => ((emulsionref1_Num.f k (wrap64 (t126)) 4).bind fun t127 => (if x0.size + t127.size ≤ 9223372036854775807 then (if t125.toList = (x0 ++ t127).toList then (if x5.toList = x8.toList then (some (x6 == x9)) else (some false)) else (some false)) else (none))))) else (some false))) else (none)))) else (some false)))
end
def emulsionlaw12_TallyTells.f (k : Nat) (a0 : ByteArray) (a1 : ByteArray) : Option (Bool) := if (a0.size : Int) > 3000 then (emulsionlaw12_TallyTells.j0 k a0 a1 true) else (if (a1.size : Int) > 3000 then (emulsionlaw12_TallyTells.j0 k a0 a1 true) else ((emulsionlaw12_alive.f k).bind fun t114 => (emulsionlaw12_TallyTells.j0 k a0 a1 (!t114))))
theorem emulsionlaw12_TallyTells.mono_l : ∀ k, (∀ y0 y1 y2, LeO (emulsionlaw12_TallyTells.j0 k y0 y1 y2) (emulsionlaw12_TallyTells.j0 (k + 1) y0 y1 y2)) ∧ (∀ y0 y1 y2 y3 y4 y5, LeO (emulsionlaw12_TallyTells.j1 k y0 y1 y2 y3 y4 y5) (emulsionlaw12_TallyTells.j1 (k + 1) y0 y1 y2 y3 y4 y5))
  | 0 => ⟨fun _ _ _ r h => by simp [emulsionlaw12_TallyTells.j0] at h, fun _ _ _ _ _ _ r h => by simp [emulsionlaw12_TallyTells.j1] at h⟩
  | k + 1 => by
    obtain ⟨ih0, ih1⟩ := emulsionlaw12_TallyTells.mono_l k
    refine ⟨?_, ?_⟩
    · intro y0 y1 y2
      unfold emulsionlaw12_TallyTells.j0
      repeat' first
      | (with_reducible exact ih0 _ _ _)
      | (with_reducible exact ih1 _ _ _ _ _ _)
      | (with_reducible exact emulsionlaw12_alive.mono _)
      | (with_reducible exact emulsionref1_Num.mono _ _ _)
      | (with_reducible exact emulsionref1_Tally.mono _ _)
      | (with_reducible exact tally_Add.mono _ _ _)
      | (with_reducible exact tally_Of.mono _ _)
      | (with_reducible exact tally_Open.mono _ _)
      | (with_reducible exact tally_Seal.mono _ _)
      | (with_reducible exact LeO.refl _)
      | (with_reducible exact LeO.none _)
      | (with_reducible refine LeO.ite ?_ ?_)
      | (with_reducible refine LeO.bind ?_ (fun _ => ?_))
      | exact ih0 _ _ _
      | exact ih1 _ _ _ _ _ _
      | exact emulsionlaw12_alive.mono _
      | exact emulsionref1_Num.mono _ _ _
      | exact emulsionref1_Tally.mono _ _
      | exact tally_Add.mono _ _ _
      | exact tally_Of.mono _ _
      | exact tally_Open.mono _ _
      | exact tally_Seal.mono _ _
      | exact LeO.none _
      | refine LeO.ite ?_ ?_
      | refine LeO.bind ?_ (fun _ => ?_)
    · intro y0 y1 y2 y3 y4 y5
      unfold emulsionlaw12_TallyTells.j1
      repeat' first
      | (with_reducible exact ih0 _ _ _)
      | (with_reducible exact ih1 _ _ _ _ _ _)
      | (with_reducible exact emulsionlaw12_alive.mono _)
      | (with_reducible exact emulsionref1_Num.mono _ _ _)
      | (with_reducible exact emulsionref1_Tally.mono _ _)
      | (with_reducible exact tally_Add.mono _ _ _)
      | (with_reducible exact tally_Of.mono _ _)
      | (with_reducible exact tally_Open.mono _ _)
      | (with_reducible exact tally_Seal.mono _ _)
      | (with_reducible exact LeO.refl _)
      | (with_reducible exact LeO.none _)
      | (with_reducible refine LeO.ite ?_ ?_)
      | (with_reducible refine LeO.bind ?_ (fun _ => ?_))
      | exact ih0 _ _ _
      | exact ih1 _ _ _ _ _ _
      | exact emulsionlaw12_alive.mono _
      | exact emulsionref1_Num.mono _ _ _
      | exact emulsionref1_Tally.mono _ _
      | exact tally_Add.mono _ _ _
      | exact tally_Of.mono _ _
      | exact tally_Open.mono _ _
      | exact tally_Seal.mono _ _
      | exact LeO.none _
      | refine LeO.ite ?_ ?_
      | refine LeO.bind ?_ (fun _ => ?_)
theorem emulsionlaw12_TallyTells.mono : ∀ a0 a1 k, LeO (emulsionlaw12_TallyTells.f k a0 a1) (emulsionlaw12_TallyTells.f (k + 1) a0 a1) := by
  intro a0 a1 k
  obtain ⟨ih0, ih1⟩ := emulsionlaw12_TallyTells.mono_l k
  unfold emulsionlaw12_TallyTells.f
  repeat' first
      | (with_reducible exact ih0 _ _ _)
      | (with_reducible exact ih1 _ _ _ _ _ _)
      | (with_reducible exact emulsionlaw12_alive.mono _)
      | (with_reducible exact emulsionref1_Num.mono _ _ _)
      | (with_reducible exact emulsionref1_Tally.mono _ _)
      | (with_reducible exact tally_Add.mono _ _ _)
      | (with_reducible exact tally_Of.mono _ _)
      | (with_reducible exact tally_Open.mono _ _)
      | (with_reducible exact tally_Seal.mono _ _)
      | (with_reducible exact LeO.refl _)
      | (with_reducible exact LeO.none _)
      | (with_reducible refine LeO.ite ?_ ?_)
      | (with_reducible refine LeO.bind ?_ (fun _ => ?_))
      | exact ih0 _ _ _
      | exact ih1 _ _ _ _ _ _
      | exact emulsionlaw12_alive.mono _
      | exact emulsionref1_Num.mono _ _ _
      | exact emulsionref1_Tally.mono _ _
      | exact tally_Add.mono _ _ _
      | exact tally_Of.mono _ _
      | exact tally_Open.mono _ _
      | exact tally_Seal.mono _ _
      | exact LeO.none _
      | refine LeO.ite ?_ ?_
      | refine LeO.bind ?_ (fun _ => ?_)
def emulsionlaw12_TallyTells.T8 : Bool × List (List Nat × List Nat) := (true, [([], []), ([], []), ([0, 1], [0, 1]), ([], []), ([], []), ([3, 4], [3, 4]), ([5], [5]), ([6], [6]), ([7, 6], [7]), ([2, 8], [2, 8])])
def emulsionlaw12_TallyTells.B8 : List Nat := [0, 0, 3, 0, 0, 24, 56, 120, 248, 511]
theorem emulsionlaw12_TallyTells.tab8 : rtab .any (opsOf Try.f8 8) = emulsionlaw12_TallyTells.T8 := by kernel_rfl
theorem emulsionlaw12_TallyTells.bits8 : waitsOk emulsionlaw12_TallyTells.T8.2 emulsionlaw12_TallyTells.B8 = true := by kernel_rfl
set_option maxHeartbeats 8000000 in
set_option maxRecDepth 100000 in
theorem emulsionlaw12_TallyTells.calls (k : Nat) (a0 : ByteArray) (a1 : ByteArray) (r : Bool) (w : World) (h : emulsionlaw12_TallyTells.f k a0 a1 = some r) :
    Calls Try.prog 8 #[.string a0, .string a1] w fun e w' => e = .returned (.bool r) ∧ Below w.heap.size w w' := by
  have HB := Aside0.mk (Below.refl w.heap.size w)
  have H : (if (a0.size : Int) > 3000 then (emulsionlaw12_TallyTells.j0 k a0 a1 true) else (if (a1.size : Int) > 3000 then (emulsionlaw12_TallyTells.j0 k a0 a1 true) else ((emulsionlaw12_alive.f k).bind fun t114 => (emulsionlaw12_TallyTells.j0 k a0 a1 (!t114))))) = some r := h
  clear h
  have HC3 := Aside0.mk H
  clear H
  go_enter Try.func8, Try.ntmps8
  go_upto_region 1 with (fail)
  go_cut [21] (fun v21 wc => ∃ (kq : Nat) (x21_2 : Bool), v21 = .bool x21_2 ∧ Aside0 (emulsionlaw12_TallyTells.j0 kq a0 a1 x21_2 = some r) ∧ Aside0 (kq ≤ k) ∧ Aside0 (Below w.heap.size w wc))
  case first =>
    have H := HC3.out
    clear HC3
    by_cases c4 : (a0.size : Int) > 3000
    · rw [if_pos c4] at H
      have c4b0 : decide (3000 < (a0.size : Int)) = true := decide_eq_true c4
      have c4b1 : decide (3000 < a0.size) = true := decide_eq_true (by omega)
      clear c4
      (first | rw [c4b0] | (simp only [i64_w, i32_w]; rw [c4b0]) | skip)
      have H' := Aside0.mk H
      clear H
      go_wp2
      go_meet
      case rel => exact ⟨_, (true), (by first | rfl | (simp; done) | (simp [*]; done)), H', ⟨by first | omega | exact Nat.le_refl _⟩, ⟨by repeat (first | (with_reducible first | exact HB.out | apply below_alloc | apply pw_below_drewN | apply below_drew1) | exact HB.out)⟩⟩
    · rw [if_neg c4] at H
      have c4b0 : decide (3000 < (a0.size : Int)) = false := decide_eq_false c4
      have c4b1 : decide (3000 < a0.size) = false := decide_eq_false (by omega)
      clear c4
      (first | rw [c4b0] | (simp only [i64_w, i32_w]; rw [c4b0]) | skip)
      by_cases c5 : (a1.size : Int) > 3000
      · rw [if_pos c5] at H
        have c5b0 : decide (3000 < (a1.size : Int)) = true := decide_eq_true c5
        have c5b1 : decide (3000 < a1.size) = true := decide_eq_true (by omega)
        clear c5
        have H' := Aside0.mk H
        clear H
        go_wp2
        go_meet
        case rel => exact ⟨_, (true), (by first | rfl | (simp; done) | (simp [*]; done)), H', ⟨by first | omega | exact Nat.le_refl _⟩, ⟨by repeat (first | (with_reducible first | exact HB.out | apply below_alloc | apply pw_below_drewN | apply below_drew1) | exact HB.out)⟩⟩
      · rw [if_neg c5] at H
        have c5b0 : decide (3000 < (a1.size : Int)) = false := decide_eq_false c5
        have c5b1 : decide (3000 < a1.size) = false := decide_eq_false (by omega)
        clear c5
        replace H := Option.bind_eq_some_iff.mp H
        obtain ⟨t114, A60, H⟩ := H
        replace H : (emulsionlaw12_TallyTells.j0 k a0 a1 (!t114)) = some r := H
        have A6 := Aside0.mk A60
        clear A60
        have H' := Aside0.mk H
        clear H
        go_wp2_with (first | (go_at_call 21; (with_reducible refine (emulsionlaw12_alive.calls k  t114 _ A6.out).mono ?_); rintro e w7 ⟨rfl, hb⟩; have n0_ := Aside0.mk (below_step (by repeat (first | (with_reducible first | exact HB.out | apply below_alloc | apply pw_below_drewN | apply below_drew1) | exact HB.out)) hb); clear HB; have HB := n0_; clear n0_; (try clear hb); (try clear hb2); (try clear hk); (try clear hi)))
        go_meet
        case rel => exact ⟨_, (!t114), (by first | rfl | (simp; done) | (simp [*]; done)), H', ⟨by first | omega | exact Nat.le_refl _⟩, ⟨by repeat (first | (with_reducible first | exact HB.out | apply below_alloc | apply pw_below_drewN | apply below_drew1) | exact HB.out)⟩⟩
  case rest =>
    clear HC3
    try clear p2
    try clear c4
    try clear c4b0
    try clear c4b1
    try clear c5
    try clear c5b0
    try clear c5b1
    obtain ⟨kq, x21_2, rfl, HA, HJ2, HB⟩ := hcut
    cases kq with
    | zero => exact absurd HA.out (by simp [emulsionlaw12_TallyTells.j0])
    | succ kj2 =>
      have H := HA.out
      clear HA
      simp only [emulsionlaw12_TallyTells.j0] at H
      by_cases c8 : x21_2 = true
      · subst c8
        have H1 : ((emulsionlaw12_alive.f kj2).bind fun t115 => (some t115)) = some r := by rw [if_pos rfl] at H; exact H
        clear H
        have H := H1
        clear H1
        replace H := Option.bind_eq_some_iff.mp H
        obtain ⟨t115, A90, H⟩ := H
        replace H : (some t115) = some r := H
        have A9 := Aside0.mk A90
        clear A90
        obtain rfl := Option.some.inj H
        go_wp2_with (first | ((with_reducible refine gate_callee (f := 21) rfl ?_); refine goesL_ (some 22) rfl rfl Try.func21 (by kernel_rfl) rfl #[] rfl (by (try simp only [List.map_toArray, List.map_cons, List.map_nil]); first | done | rfl | (simp only [List.length_drop, List.length_take]; rfl)) ?_; (with_reducible refine (emulsionlaw12_alive.calls kj2  t115 _ A9.out).mono ?_); rintro e w10 ⟨rfl, hb⟩; refine ⟨_, rfl, ?_⟩; have n0_ := Aside0.mk (below_step (by repeat (first | (with_reducible first | exact HB.out | apply below_alloc | apply pw_below_drewN | apply below_drew1) | exact HB.out)) hb); clear HB; have HB := n0_; clear n0_; (try clear hb); (try clear hb2); (try clear hk); (try clear hi)))
        go_ret
        exact ⟨by first | rfl | (simp [errW_none, errW_some] <;> rfl) | (simp [*, errW_none, errW_some] <;> rfl), by repeat (first | (with_reducible first | exact HB.out | apply below_alloc | apply pw_below_drewN | apply below_drew1) | exact HB.out)⟩
      · replace c8 := Bool.eq_false_iff.mpr c8
        subst c8
        have H1 : ((tally_Open.f kj2 a1).bind fun bt116 => (if (wrap64 ((a1.size : Int) - 4)) ≥ 0 then (if 0 ≤ (wrap64 ((a1.size : Int) - 4)) then (if (wrap64 ((a1.size : Int) - 4)) ≤ (a1.size : Int) then ((emulsionref1_Tally.f kj2 (a1.extract 0 ((wrap64 ((a1.size : Int) - 4)) : Int).toNat)).bind fun t118 => ((emulsionref1_Num.f kj2 (wrap64 (t118)) 4).bind fun t119 => (if (a1.extract ((wrap64 ((a1.size : Int) - 4)) : Int).toNat a1.size).toList = t119.toList then (emulsionlaw12_TallyTells.j1 kj2 a0 a1 bt116.1 bt116.2 (a1.extract 0 ((wrap64 ((a1.size : Int) - 4)) : Int).toNat) 0) else (emulsionlaw12_TallyTells.j1 kj2 a0 a1 bt116.1 bt116.2 (⟨#[]⟩ : ByteArray) 6)))) else (none)) else (none)) else (emulsionlaw12_TallyTells.j1 kj2 a0 a1 bt116.1 bt116.2 (⟨#[]⟩ : ByteArray) 8))) = some r := by rw [if_neg (show ¬ (false = true) by decide)] at H; exact H
        clear H
        have H := H1
        clear H1
        replace H := Option.bind_eq_some_iff.mp H
        obtain ⟨⟨t116, t117⟩, A110, H⟩ := H
        replace H : (if (wrap64 ((a1.size : Int) - 4)) ≥ 0 then (if 0 ≤ (wrap64 ((a1.size : Int) - 4)) then (if (wrap64 ((a1.size : Int) - 4)) ≤ (a1.size : Int) then ((emulsionref1_Tally.f kj2 (a1.extract 0 ((wrap64 ((a1.size : Int) - 4)) : Int).toNat)).bind fun t118 => ((emulsionref1_Num.f kj2 (wrap64 (t118)) 4).bind fun t119 => (if (a1.extract ((wrap64 ((a1.size : Int) - 4)) : Int).toNat a1.size).toList = t119.toList then (emulsionlaw12_TallyTells.j1 kj2 a0 a1 t116 t117 (a1.extract 0 ((wrap64 ((a1.size : Int) - 4)) : Int).toNat) 0) else (emulsionlaw12_TallyTells.j1 kj2 a0 a1 t116 t117 (⟨#[]⟩ : ByteArray) 6)))) else (none)) else (none)) else (emulsionlaw12_TallyTells.j1 kj2 a0 a1 t116 t117 (⟨#[]⟩ : ByteArray) 8)) = some r := H
        have A11 := Aside0.mk A110
        clear A110
        have HC12 := Aside0.mk H
        clear H
        go_upto_if 32 with (first | ((with_reducible refine gate_callee (f := 22) rfl ?_); refine goesL_ (some 25) rfl rfl Try.func22 (by kernel_rfl) rfl #[.string a1] rfl (by (try simp only [List.map_toArray, List.map_cons, List.map_nil]); first | done | rfl | (simp only [List.length_drop, List.length_take]; rfl)) ?_; (with_reducible refine (tally_Open.calls kj2 a1 t116 t117 _ A11.out).mono ?_); rintro e w13 ⟨rfl, hb⟩; refine ⟨_, rfl, ?_⟩; have n0_ := Aside0.mk (below_step (by repeat (first | (with_reducible first | exact HB.out | apply below_alloc | apply pw_below_drewN | apply below_drew1) | exact HB.out)) hb); clear HB; have HB := n0_; clear n0_; (try clear hb); (try clear hb2); (try clear hk); (try clear hi)))
        (try simp only [Act.put, List.setIfInBounds_toArray, List.set_cons_zero, List.set_cons_succ])
        go_cut [8, 9] (fun v8 v9 wc => ∃ (kq : Nat) (x8_11 : ByteArray) (x9_11 : Int), v8 = .string x8_11 ∧ v9 = .int .i64 x9_11 ∧ Aside0 (emulsionlaw12_TallyTells.j1 kq a0 a1 t116 t117 x8_11 x9_11 = some r) ∧ Aside0 (kq ≤ kj2) ∧ Aside0 (Below w.heap.size w wc))
        case first =>
          have H := HC12.out
          clear HC12
          by_cases c14 : (wrap64 ((a1.size : Int) - 4)) ≥ 0
          · rw [if_pos c14] at H
            have c14b0 : decide (0 ≤ (wrap64 ((a1.size : Int) - 4))) = true := decide_eq_true c14
            clear c14
            (first | rw [c14b0] | (simp only [i64_w, i32_w]; rw [c14b0]) | skip)
            obtain ⟨ji15, hji15⟩ : ∃ j_ : Int, (wrap64 ((a1.size : Int) - 4)) = j_ := ⟨_, rfl⟩
            replace H : (if 0 ≤ (ji15) then (if (ji15) ≤ (a1.size : Int) then ((emulsionref1_Tally.f kj2 (a1.extract 0 ((ji15) : Int).toNat)).bind fun t118 => ((emulsionref1_Num.f kj2 (wrap64 (t118)) 4).bind fun t119 => (if (a1.extract ((ji15) : Int).toNat a1.size).toList = t119.toList then (emulsionlaw12_TallyTells.j1 kj2 a0 a1 t116 t117 (a1.extract 0 ((ji15) : Int).toNat) 0) else (emulsionlaw12_TallyTells.j1 kj2 a0 a1 t116 t117 (⟨#[]⟩ : ByteArray) 6)))) else (none)) else (none)) = some r := by first | (rw [hji15] at H; exact H) | (simp only [hji15] at H ⊢; exact H)
            (try rw [hji15] at c14b0)
            have hji15w : (IntKind.i64.wrap ((a1.size : Int) - 4)) = ji15 := (i64_w _).trans hji15
            by_cases c16 : 0 ≤ (ji15)
            · rw [if_pos c16] at H
              have c16b0 := eq_true c16
              have c16b1 : decide (0 ≤ (ji15)) = true := decide_eq_true c16
              clear c16
              by_cases c17 : (ji15) ≤ (a1.size : Int)
              · rw [if_pos c17] at H
                have c17b0 := eq_true c17
                have c17b1 : decide ((ji15) ≤ (a1.size : Int)) = true := decide_eq_true c17
                clear c17
                have c18b0 := eq_true (of_decide_eq_true (by first | (with_reducible assumption) | assumption) : 0 ≤ (ji15))
                have c19b0 := eq_true (of_decide_eq_true (by first | (with_reducible assumption) | assumption) : (ji15) ≤ (a1.size : Int))
                replace H := Option.bind_eq_some_iff.mp H
                obtain ⟨t118, A200, H⟩ := H
                replace H : ((emulsionref1_Num.f kj2 (wrap64 (t118)) 4).bind fun t119 => (if (a1.extract ((ji15) : Int).toNat a1.size).toList = t119.toList then (emulsionlaw12_TallyTells.j1 kj2 a0 a1 t116 t117 (a1.extract 0 ((ji15) : Int).toNat) 0) else (emulsionlaw12_TallyTells.j1 kj2 a0 a1 t116 t117 (⟨#[]⟩ : ByteArray) 6))) = some r := H
                have A20 := Aside0.mk A200
                clear A200
                replace H := Option.bind_eq_some_iff.mp H
                obtain ⟨t119, A210, H⟩ := H
                replace H : (if (a1.extract ((ji15) : Int).toNat a1.size).toList = t119.toList then (emulsionlaw12_TallyTells.j1 kj2 a0 a1 t116 t117 (a1.extract 0 ((ji15) : Int).toNat) 0) else (emulsionlaw12_TallyTells.j1 kj2 a0 a1 t116 t117 (⟨#[]⟩ : ByteArray) 6)) = some r := H
                have A21 := Aside0.mk A210
                clear A210
                by_cases c22 : (a1.extract ((ji15) : Int).toNat a1.size).toList = t119.toList
                · rw [if_pos c22] at H
                  have c22b0 : ((a1.extract ((ji15) : Int).toNat a1.size).toList == t119.toList) = true := beq_iff_eq.mpr c22
                  have c22b1 : ((a1.extract ((ji15) : Int).toNat a1.size).toList != t119.toList) = false := bne_eq_false_iff_eq.mpr c22
                  clear c22
                  have c23b0 := eq_true (of_decide_eq_true (by first | (with_reducible assumption) | assumption) : 0 ≤ (ji15))
                  have c24b0 := eq_true (of_decide_eq_true (by first | (with_reducible assumption) | assumption) : (ji15) ≤ (a1.size : Int))
                  have H' := Aside0.mk H
                  clear H
                  try go_wp2
                  have n0_ := Aside0.mk (below_drew1 HB.out)
                  clear HB
                  have HB := n0_
                  clear n0_
                  refine start_ (n := 10) (S := fun w' => True) (ds := []) #[false, false, false, false, false, false, false, false, false, false] (by kernel_rfl) rfl rfl trivial (fun hHeld => ?_); refine with_tabW emulsionlaw12_TallyTells.tab8 emulsionlaw12_TallyTells.bits8 (fun HT_ HW_ => ?_)
                  generalize w13.drew = w25 at HB hHeld ⊢
                  refine pure_ (i := 0) (N := some 33) (v := ?_) (a' := ?_) #[true, false, false, false, false, false, false, false, false, false] rfl rfl (any_of HT_.out (by kernel_rfl)) (fun _ _ _ h => h) (Or.inl ⟨by rfl, ?_⟩) ?_ ?_
                  rotate_left
                  · intro w'
                    go_simp
                    with_reducible rfl
                  rotate_left
                  · simp only [Act.put, List.setIfInBounds_toArray, List.set_cons_zero, List.set_cons_succ, i64_w, i32_w]
                    rfl
                  refine pure_ (i := 1) (N := some 34) (v := ?_) (a' := ?_) #[true, true, false, false, false, false, false, false, false, false] rfl rfl (any_of HT_.out (by kernel_rfl)) (fun _ _ _ h => h) (Or.inl ⟨by rfl, ?_⟩) ?_ ?_
                  rotate_left
                  · intro w'
                    go_simp
                    with_reducible rfl
                  rotate_left
                  · simp only [Act.put, List.setIfInBounds_toArray, List.set_cons_zero, List.set_cons_succ, i64_w, i32_w]
                    rfl
                  refine pure_ (i := 2) (N := some 35) (v := ?_) (a' := ?_) #[true, true, true, false, false, false, false, false, false, false] rfl rfl (any_of HT_.out (by kernel_rfl)) (fun _ _ _ h => h) (Or.inl ⟨by rfl, ?_⟩) ?_ ?_
                  rotate_left
                  · intro w'
                    go_simp
                    with_reducible rfl
                  rotate_left
                  · simp only [Act.put, List.setIfInBounds_toArray, List.set_cons_zero, List.set_cons_succ, i64_w, i32_w]
                    rfl
                  refine pure_ (i := 3) (N := some 36) (v := ?_) (a' := ?_) #[true, true, true, true, false, false, false, false, false, false] rfl rfl (any_of HT_.out (by kernel_rfl)) (fun _ _ _ h => h) (Or.inl ⟨by rfl, ?_⟩) ?_ ?_
                  rotate_left
                  · intro w'
                    go_simp
                    with_reducible rfl
                  rotate_left
                  · simp only [Act.put, List.setIfInBounds_toArray, List.set_cons_zero, List.set_cons_succ, i64_w, i32_w]
                    rfl
                  refine pure_ (i := 4) (N := some 37) (v := ?_) (a' := ?_) #[true, true, true, true, true, false, false, false, false, false] rfl rfl (any_of HT_.out (by kernel_rfl)) (fun _ _ _ h => h) (Or.inl ⟨by rfl, ?_⟩) ?_ ?_
                  rotate_left
                  · intro w'
                    go_simp
                    with_reducible rfl
                  rotate_left
                  · simp only [Act.put, List.setIfInBounds_toArray, List.set_cons_zero, List.set_cons_succ, i64_w, i32_w]
                    rfl
                  refine pure_ (i := 5) (N := some 38) (v := ?_) (a' := ?_) #[true, true, true, true, true, true, false, false, false, false] rfl rfl (any_of HT_.out (by kernel_rfl)) (fun _ _ _ h => h) (Or.inl ⟨by rfl, ?_⟩) ?_ ?_
                  rotate_left
                  · intro w'
                    go_simp
                    with_reducible rfl
                  rotate_left
                  · simp only [Act.put, List.setIfInBounds_toArray, List.set_cons_zero, List.set_cons_succ, i64_w, i32_w]
                    rfl
                  refine one_ (i := 6) (N := some 39) #[true, true, true, true, true, true, true, false, false, false] rfl rfl (one_of HT_.out (by kernel_rfl)) (by decide) (fun K hK => ?_)
                  refine goes_ Try.func24 (by kernel_rfl) rfl #[.string (a1.extract 0 ((ji15) : Int).toNat)] (by rfl) rfl rfl (by (try simp only [List.map_toArray, List.map_cons, List.map_nil]); first | done | (simp only [hji15]; rfl) | rfl | (simp only [List.length_drop, List.length_take]; rfl)) ?_
                  with_reducible refine (emulsionref1_Tally.calls kj2 (a1.extract 0 ((ji15) : Int).toNat) t118 _ A20.out).mono ?_
                  rintro e w' ⟨rfl, ⟨nd, rfl⟩⟩
                  refine ⟨_, rfl, ?_⟩
                  refine hK.out _ _ trivial (fun hHeld => ?_)
                  clear hK K
                  refine norm_ (a' := ?_) ?_ ?_
                  rotate_left
                  · show Act.put _ (some 39) _ = _
                    simp only [Act.put, List.setIfInBounds_toArray, List.set_cons_zero, List.set_cons_succ, i64_w, i32_w]
                    rfl
                  refine pure_ (i := 7) (N := some 40) (v := ?_) (a' := ?_) #[true, true, true, true, true, true, true, true, false, false] rfl rfl (any_of HT_.out (by kernel_rfl)) (fun _ _ _ h => h) (Or.inl ⟨by rfl, ?_⟩) ?_ ?_
                  rotate_left
                  · intro w'
                    go_simp
                    with_reducible rfl
                  rotate_left
                  · simp only [Act.put, List.setIfInBounds_toArray, List.set_cons_zero, List.set_cons_succ, i64_w, i32_w]
                    rfl
                  refine one_ (i := 8) (N := some 41) #[true, true, true, true, true, true, true, true, true, false] rfl rfl (one_of HT_.out (by kernel_rfl)) (by decide) (fun K hK => ?_)
                  refine goes_ Try.func23 (by kernel_rfl) rfl #[.int .i64 (wrap64 (t118)), .int .i64 4] (by rfl) rfl rfl (by (try simp only [List.map_toArray, List.map_cons, List.map_nil]); first | done | rfl | (simp only [List.length_drop, List.length_take]; rfl)) ?_
                  with_reducible refine (emulsionref1_Num.calls kj2 (wrap64 (t118)) 4 t119 _ A21.out).mono ?_
                  rintro e w26 ⟨rfl, hb⟩
                  refine ⟨_, rfl, ?_⟩
                  have n0_ := Aside0.mk (below_step (by repeat (first | (with_reducible first | exact HB.out | apply below_alloc | apply pw_below_drewN | apply below_drew1) | exact HB.out)) hb)
                  clear HB
                  have HB := n0_
                  clear n0_
                  (try clear hb)
                  (try clear hb2)
                  (try clear hk)
                  (try clear hi)
                  refine hK.out _ _ trivial (fun hHeld => ?_)
                  clear hK K
                  refine norm_ (a' := ?_) ?_ ?_
                  rotate_left
                  · show Act.put _ (some 41) _ = _
                    simp only [Act.put, List.setIfInBounds_toArray, List.set_cons_zero, List.set_cons_succ, i64_w, i32_w]
                    rfl
                  refine pure_ (i := 9) (N := some 42) (v := ?_) (a' := ?_) #[true, true, true, true, true, true, true, true, true, true] rfl rfl (any_of HT_.out (by kernel_rfl)) (fun _ _ _ h => h) (Or.inl ⟨by rfl, ?_⟩) ?_ ?_
                  rotate_left
                  · intro w'
                    go_simp
                    with_reducible rfl
                  rotate_left
                  · simp only [Act.put, List.setIfInBounds_toArray, List.set_cons_zero, List.set_cons_succ, i64_w, i32_w]
                    rfl
                  refine done_ (done_of HT_.out (by kernel_rfl)) ?_
                  try go_wp2
                  go_meet
                  case rel => exact ⟨_, (a1.extract 0 ((ji15) : Int).toNat), (0), (by first | rfl | (simp; done) | (simp only [← hji15] <;> (first | rfl | simp)) | (simp [*]; done)), (by first | rfl | (simp; done) | (simp [*]; done)), H', ⟨by have := HJ2.out; first | omega | exact Nat.le_refl _⟩, ⟨by repeat (first | (with_reducible first | exact HB.out | apply below_alloc | apply pw_below_drewN | apply below_drew1) | exact HB.out)⟩⟩
                · rw [if_neg c22] at H
                  have c22b0 : ((a1.extract ((ji15) : Int).toNat a1.size).toList == t119.toList) = false := beq_eq_false_iff_ne.mpr c22
                  have c22b1 : ((a1.extract ((ji15) : Int).toNat a1.size).toList != t119.toList) = true := bne_iff_ne.mpr c22
                  have H' := Aside0.mk H
                  clear H
                  try go_wp2
                  have n0_ := Aside0.mk (below_drew1 HB.out)
                  clear HB
                  have HB := n0_
                  clear n0_
                  refine start_ (n := 10) (S := fun w' => True) (ds := []) #[false, false, false, false, false, false, false, false, false, false] (by kernel_rfl) rfl rfl trivial (fun hHeld => ?_); refine with_tabW emulsionlaw12_TallyTells.tab8 emulsionlaw12_TallyTells.bits8 (fun HT_ HW_ => ?_)
                  generalize w13.drew = w27 at HB hHeld ⊢
                  refine pure_ (i := 0) (N := some 33) (v := ?_) (a' := ?_) #[true, false, false, false, false, false, false, false, false, false] rfl rfl (any_of HT_.out (by kernel_rfl)) (fun _ _ _ h => h) (Or.inl ⟨by rfl, ?_⟩) ?_ ?_
                  rotate_left
                  · intro w'
                    go_simp
                    with_reducible rfl
                  rotate_left
                  · simp only [Act.put, List.setIfInBounds_toArray, List.set_cons_zero, List.set_cons_succ, i64_w, i32_w]
                    rfl
                  refine pure_ (i := 1) (N := some 34) (v := ?_) (a' := ?_) #[true, true, false, false, false, false, false, false, false, false] rfl rfl (any_of HT_.out (by kernel_rfl)) (fun _ _ _ h => h) (Or.inl ⟨by rfl, ?_⟩) ?_ ?_
                  rotate_left
                  · intro w'
                    go_simp
                    with_reducible rfl
                  rotate_left
                  · simp only [Act.put, List.setIfInBounds_toArray, List.set_cons_zero, List.set_cons_succ, i64_w, i32_w]
                    rfl
                  refine pure_ (i := 2) (N := some 35) (v := ?_) (a' := ?_) #[true, true, true, false, false, false, false, false, false, false] rfl rfl (any_of HT_.out (by kernel_rfl)) (fun _ _ _ h => h) (Or.inl ⟨by rfl, ?_⟩) ?_ ?_
                  rotate_left
                  · intro w'
                    go_simp
                    with_reducible rfl
                  rotate_left
                  · simp only [Act.put, List.setIfInBounds_toArray, List.set_cons_zero, List.set_cons_succ, i64_w, i32_w]
                    rfl
                  refine pure_ (i := 3) (N := some 36) (v := ?_) (a' := ?_) #[true, true, true, true, false, false, false, false, false, false] rfl rfl (any_of HT_.out (by kernel_rfl)) (fun _ _ _ h => h) (Or.inl ⟨by rfl, ?_⟩) ?_ ?_
                  rotate_left
                  · intro w'
                    go_simp
                    with_reducible rfl
                  rotate_left
                  · simp only [Act.put, List.setIfInBounds_toArray, List.set_cons_zero, List.set_cons_succ, i64_w, i32_w]
                    rfl
                  refine pure_ (i := 4) (N := some 37) (v := ?_) (a' := ?_) #[true, true, true, true, true, false, false, false, false, false] rfl rfl (any_of HT_.out (by kernel_rfl)) (fun _ _ _ h => h) (Or.inl ⟨by rfl, ?_⟩) ?_ ?_
                  rotate_left
                  · intro w'
                    go_simp
                    with_reducible rfl
                  rotate_left
                  · simp only [Act.put, List.setIfInBounds_toArray, List.set_cons_zero, List.set_cons_succ, i64_w, i32_w]
                    rfl
                  refine pure_ (i := 5) (N := some 38) (v := ?_) (a' := ?_) #[true, true, true, true, true, true, false, false, false, false] rfl rfl (any_of HT_.out (by kernel_rfl)) (fun _ _ _ h => h) (Or.inl ⟨by rfl, ?_⟩) ?_ ?_
                  rotate_left
                  · intro w'
                    go_simp
                    with_reducible rfl
                  rotate_left
                  · simp only [Act.put, List.setIfInBounds_toArray, List.set_cons_zero, List.set_cons_succ, i64_w, i32_w]
                    rfl
                  refine one_ (i := 6) (N := some 39) #[true, true, true, true, true, true, true, false, false, false] rfl rfl (one_of HT_.out (by kernel_rfl)) (by decide) (fun K hK => ?_)
                  refine goes_ Try.func24 (by kernel_rfl) rfl #[.string (a1.extract 0 ((ji15) : Int).toNat)] (by rfl) rfl rfl (by (try simp only [List.map_toArray, List.map_cons, List.map_nil]); first | done | (simp only [hji15]; rfl) | rfl | (simp only [List.length_drop, List.length_take]; rfl)) ?_
                  with_reducible refine (emulsionref1_Tally.calls kj2 (a1.extract 0 ((ji15) : Int).toNat) t118 _ A20.out).mono ?_
                  rintro e w' ⟨rfl, ⟨nd, rfl⟩⟩
                  refine ⟨_, rfl, ?_⟩
                  refine hK.out _ _ trivial (fun hHeld => ?_)
                  clear hK K
                  refine norm_ (a' := ?_) ?_ ?_
                  rotate_left
                  · show Act.put _ (some 39) _ = _
                    simp only [Act.put, List.setIfInBounds_toArray, List.set_cons_zero, List.set_cons_succ, i64_w, i32_w]
                    rfl
                  refine pure_ (i := 7) (N := some 40) (v := ?_) (a' := ?_) #[true, true, true, true, true, true, true, true, false, false] rfl rfl (any_of HT_.out (by kernel_rfl)) (fun _ _ _ h => h) (Or.inl ⟨by rfl, ?_⟩) ?_ ?_
                  rotate_left
                  · intro w'
                    go_simp
                    with_reducible rfl
                  rotate_left
                  · simp only [Act.put, List.setIfInBounds_toArray, List.set_cons_zero, List.set_cons_succ, i64_w, i32_w]
                    rfl
                  refine one_ (i := 8) (N := some 41) #[true, true, true, true, true, true, true, true, true, false] rfl rfl (one_of HT_.out (by kernel_rfl)) (by decide) (fun K hK => ?_)
                  refine goes_ Try.func23 (by kernel_rfl) rfl #[.int .i64 (wrap64 (t118)), .int .i64 4] (by rfl) rfl rfl (by (try simp only [List.map_toArray, List.map_cons, List.map_nil]); first | done | rfl | (simp only [List.length_drop, List.length_take]; rfl)) ?_
                  with_reducible refine (emulsionref1_Num.calls kj2 (wrap64 (t118)) 4 t119 _ A21.out).mono ?_
                  rintro e w28 ⟨rfl, hb⟩
                  refine ⟨_, rfl, ?_⟩
                  have n0_ := Aside0.mk (below_step (by repeat (first | (with_reducible first | exact HB.out | apply below_alloc | apply pw_below_drewN | apply below_drew1) | exact HB.out)) hb)
                  clear HB
                  have HB := n0_
                  clear n0_
                  (try clear hb)
                  (try clear hb2)
                  (try clear hk)
                  (try clear hi)
                  refine hK.out _ _ trivial (fun hHeld => ?_)
                  clear hK K
                  refine norm_ (a' := ?_) ?_ ?_
                  rotate_left
                  · show Act.put _ (some 41) _ = _
                    simp only [Act.put, List.setIfInBounds_toArray, List.set_cons_zero, List.set_cons_succ, i64_w, i32_w]
                    rfl
                  refine pure_ (i := 9) (N := some 42) (v := ?_) (a' := ?_) #[true, true, true, true, true, true, true, true, true, true] rfl rfl (any_of HT_.out (by kernel_rfl)) (fun _ _ _ h => h) (Or.inl ⟨by rfl, ?_⟩) ?_ ?_
                  rotate_left
                  · intro w'
                    go_simp
                    with_reducible rfl
                  rotate_left
                  · simp only [Act.put, List.setIfInBounds_toArray, List.set_cons_zero, List.set_cons_succ, i64_w, i32_w]
                    rfl
                  refine done_ (done_of HT_.out (by kernel_rfl)) ?_
                  try go_wp2
                  go_meet
                  case rel => exact ⟨_, ((⟨#[]⟩ : ByteArray)), (6), (by first | rfl | (simp; done) | (simp [*]; done)), (by first | rfl | (simp; done) | (simp [*]; done)), H', ⟨by have := HJ2.out; first | omega | exact Nat.le_refl _⟩, ⟨by repeat (first | (with_reducible first | exact HB.out | apply below_alloc | apply pw_below_drewN | apply below_drew1) | exact HB.out)⟩⟩
              · rw [if_neg c17] at H
                exact absurd H (by simp)
            · rw [if_neg c16] at H
              exact absurd H (by simp)
          · rw [if_neg c14] at H
            have c14b0 : decide (0 ≤ (wrap64 ((a1.size : Int) - 4))) = false := decide_eq_false c14
            clear c14
            (first | rw [c14b0] | (simp only [i64_w, i32_w]; rw [c14b0]) | skip)
            have H' := Aside0.mk H
            clear H
            go_wp2
            go_meet
            case rel => exact ⟨_, ((⟨#[]⟩ : ByteArray)), (8), (by first | rfl | (simp; done) | (simp [*]; done)), (by first | rfl | (simp; done) | (simp [*]; done)), H', ⟨by have := HJ2.out; first | omega | exact Nat.le_refl _⟩, ⟨by repeat (first | (with_reducible first | exact HB.out | apply below_alloc | apply pw_below_drewN | apply below_drew1) | exact HB.out)⟩⟩
        case rest =>
          clear HC12
          try clear c1
          try clear c2
          try clear p2
          try clear c4
          try clear c4b0
          try clear c4b1
          try clear c5
          try clear c5b0
          try clear c5b1
          try clear p6
          try clear c8
          try clear c14
          try clear c14b0
          try clear c16
          try clear c16b0
          try clear c16b1
          try clear c17
          try clear c17b0
          try clear c17b1
          try clear c18
          try clear c18b0
          try clear c19
          try clear c19b0
          try clear c21
          try clear c22
          try clear c22b0
          try clear c22b1
          try clear c23
          try clear c23b0
          try clear c24
          try clear c24b0
          try clear p2
          obtain ⟨kq, x8_11, x9_11, rfl, rfl, HA, HJ11, HB⟩ := hcut
          cases kq with
          | zero => exact absurd HA.out (by simp [emulsionlaw12_TallyTells.j1])
          | succ kj11 =>
            have H := HA.out
            clear HA
            simp only [emulsionlaw12_TallyTells.j1] at H
            replace H := Option.bind_eq_some_iff.mp H
            obtain ⟨t120, A290, H⟩ := H
            replace H : ((emulsionref1_Tally.f kj11 a0).bind fun t121 => (if t120 = t121 then ((tally_Of.f kj11 a0).bind fun t122 => ((tally_Add.f kj11 t122 a1).bind fun t123 => (if a0.size + a1.size ≤ 9223372036854775807 then ((emulsionref1_Tally.f kj11 (a0 ++ a1)).bind fun t124 => (if t123 = t124 then ((tally_Seal.f kj11 a0).bind fun t125 => ((emulsionref1_Tally.f kj11 a0).bind fun t126 => ((emulsionref1_Num.f kj11 (wrap64 (t126)) 4).bind fun t127 => (if a0.size + t127.size ≤ 9223372036854775807 then (if t125.toList = (a0 ++ t127).toList then (if t116.toList = x8_11.toList then (some (t117 == x9_11)) else (some false)) else (some false)) else (none))))) else (some false))) else (none)))) else (some false))) = some r := H
            have A29 := Aside0.mk A290
            clear A290
            replace H := Option.bind_eq_some_iff.mp H
            obtain ⟨t121, A300, H⟩ := H
            replace H : (if t120 = t121 then ((tally_Of.f kj11 a0).bind fun t122 => ((tally_Add.f kj11 t122 a1).bind fun t123 => (if a0.size + a1.size ≤ 9223372036854775807 then ((emulsionref1_Tally.f kj11 (a0 ++ a1)).bind fun t124 => (if t123 = t124 then ((tally_Seal.f kj11 a0).bind fun t125 => ((emulsionref1_Tally.f kj11 a0).bind fun t126 => ((emulsionref1_Num.f kj11 (wrap64 (t126)) 4).bind fun t127 => (if a0.size + t127.size ≤ 9223372036854775807 then (if t125.toList = (a0 ++ t127).toList then (if t116.toList = x8_11.toList then (some (t117 == x9_11)) else (some false)) else (some false)) else (none))))) else (some false))) else (none)))) else (some false)) = some r := H
            have A30 := Aside0.mk A300
            clear A300
            by_cases c31 : t120 = t121
            · rw [if_pos c31] at H
              have c31b0 : (t120 == t121) = true := beq_iff_eq.mpr c31
              have c31b1 : (t120 != t121) = false := bne_eq_false_iff_eq.mpr c31
              clear c31
              replace H := Option.bind_eq_some_iff.mp H
              obtain ⟨t122, A320, H⟩ := H
              replace H : ((tally_Add.f kj11 t122 a1).bind fun t123 => (if a0.size + a1.size ≤ 9223372036854775807 then ((emulsionref1_Tally.f kj11 (a0 ++ a1)).bind fun t124 => (if t123 = t124 then ((tally_Seal.f kj11 a0).bind fun t125 => ((emulsionref1_Tally.f kj11 a0).bind fun t126 => ((emulsionref1_Num.f kj11 (wrap64 (t126)) 4).bind fun t127 => (if a0.size + t127.size ≤ 9223372036854775807 then (if t125.toList = (a0 ++ t127).toList then (if t116.toList = x8_11.toList then (some (t117 == x9_11)) else (some false)) else (some false)) else (none))))) else (some false))) else (none))) = some r := H
              have A32 := Aside0.mk A320
              clear A320
              replace H := Option.bind_eq_some_iff.mp H
              obtain ⟨t123, A330, H⟩ := H
              replace H : (if a0.size + a1.size ≤ 9223372036854775807 then ((emulsionref1_Tally.f kj11 (a0 ++ a1)).bind fun t124 => (if t123 = t124 then ((tally_Seal.f kj11 a0).bind fun t125 => ((emulsionref1_Tally.f kj11 a0).bind fun t126 => ((emulsionref1_Num.f kj11 (wrap64 (t126)) 4).bind fun t127 => (if a0.size + t127.size ≤ 9223372036854775807 then (if t125.toList = (a0 ++ t127).toList then (if t116.toList = x8_11.toList then (some (t117 == x9_11)) else (some false)) else (some false)) else (none))))) else (some false))) else (none)) = some r := H
              have A33 := Aside0.mk A330
              clear A330
              by_cases c34 : a0.size + a1.size ≤ 9223372036854775807
              · rw [if_pos c34] at H
                have c34b0 := eq_true c34
                have c34b1 : decide (a0.size + a1.size ≤ 9223372036854775807) = true := decide_eq_true c34
                try have c34b2 : (9223372036854775807 < a0.size + a1.size) = False := eq_false (Nat.not_lt.2 c34)
                replace H := Option.bind_eq_some_iff.mp H
                obtain ⟨t124, A350, H⟩ := H
                replace H : (if t123 = t124 then ((tally_Seal.f kj11 a0).bind fun t125 => ((emulsionref1_Tally.f kj11 a0).bind fun t126 => ((emulsionref1_Num.f kj11 (wrap64 (t126)) 4).bind fun t127 => (if a0.size + t127.size ≤ 9223372036854775807 then (if t125.toList = (a0 ++ t127).toList then (if t116.toList = x8_11.toList then (some (t117 == x9_11)) else (some false)) else (some false)) else (none))))) else (some false)) = some r := H
                have A35 := Aside0.mk A350
                clear A350
                by_cases c36 : t123 = t124
                · rw [if_pos c36] at H
                  have c36b0 : (t123 == t124) = true := beq_iff_eq.mpr c36
                  have c36b1 : (t123 != t124) = false := bne_eq_false_iff_eq.mpr c36
                  clear c36
                  replace H := Option.bind_eq_some_iff.mp H
                  obtain ⟨t125, A370, H⟩ := H
                  replace H : ((emulsionref1_Tally.f kj11 a0).bind fun t126 => ((emulsionref1_Num.f kj11 (wrap64 (t126)) 4).bind fun t127 => (if a0.size + t127.size ≤ 9223372036854775807 then (if t125.toList = (a0 ++ t127).toList then (if t116.toList = x8_11.toList then (some (t117 == x9_11)) else (some false)) else (some false)) else (none)))) = some r := H
                  have A37 := Aside0.mk A370
                  clear A370
                  replace H := Option.bind_eq_some_iff.mp H
                  obtain ⟨t126, A380, H⟩ := H
                  replace H : ((emulsionref1_Num.f kj11 (wrap64 (t126)) 4).bind fun t127 => (if a0.size + t127.size ≤ 9223372036854775807 then (if t125.toList = (a0 ++ t127).toList then (if t116.toList = x8_11.toList then (some (t117 == x9_11)) else (some false)) else (some false)) else (none))) = some r := H
                  have A38 := Aside0.mk A380
                  clear A380
                  replace H := Option.bind_eq_some_iff.mp H
                  obtain ⟨t127, A390, H⟩ := H
                  replace H : (if a0.size + t127.size ≤ 9223372036854775807 then (if t125.toList = (a0 ++ t127).toList then (if t116.toList = x8_11.toList then (some (t117 == x9_11)) else (some false)) else (some false)) else (none)) = some r := H
                  have A39 := Aside0.mk A390
                  clear A390
                  by_cases c40 : a0.size + t127.size ≤ 9223372036854775807
                  · rw [if_pos c40] at H
                    have c40b0 := eq_true c40
                    have c40b1 : decide (a0.size + t127.size ≤ 9223372036854775807) = true := decide_eq_true c40
                    try have c40b2 : (9223372036854775807 < a0.size + t127.size) = False := eq_false (Nat.not_lt.2 c40)
                    by_cases c41 : t125.toList = (a0 ++ t127).toList
                    · rw [if_pos c41] at H
                      have c41b0 : (t125.toList == (a0 ++ t127).toList) = true := beq_iff_eq.mpr c41
                      have c41b1 : (t125.toList != (a0 ++ t127).toList) = false := bne_eq_false_iff_eq.mpr c41
                      clear c41
                      by_cases c42 : t116.toList = x8_11.toList
                      · rw [if_pos c42] at H
                        have c42b0 : (t116.toList == x8_11.toList) = true := beq_iff_eq.mpr c42
                        have c42b1 : (t116.toList != x8_11.toList) = false := bne_eq_false_iff_eq.mpr c42
                        clear c42
                        obtain rfl := Option.some.inj H
                        go_wp2_with (first | ((with_reducible refine gate_callee (f := 25) rfl ?_); refine goesL_ (some 47) rfl rfl Try.func25 (by kernel_rfl) rfl #[.string a0] rfl (by (try simp only [List.map_toArray, List.map_cons, List.map_nil]); first | done | rfl | (simp only [List.length_drop, List.length_take]; rfl)) ?_; (with_reducible refine (tally_Of.calls kj11 a0 t120 _ A29.out).mono ?_); rintro e w' ⟨rfl, ⟨nd, rfl⟩⟩; refine ⟨_, rfl, ?_⟩) | ((with_reducible refine gate_callee (f := 24) rfl ?_); refine goesL_ (some 49) rfl rfl Try.func24 (by kernel_rfl) rfl #[.string a0] rfl (by (try simp only [List.map_toArray, List.map_cons, List.map_nil]); first | done | rfl | (simp only [List.length_drop, List.length_take]; rfl)) ?_; (with_reducible refine (emulsionref1_Tally.calls kj11 a0 t121 _ A30.out).mono ?_); rintro e w' ⟨rfl, ⟨nd, rfl⟩⟩; refine ⟨_, rfl, ?_⟩) | (go_at_call 25; (with_reducible refine (tally_Of.calls kj11 a0 t122 _ A32.out).mono ?_); rintro e w' ⟨rfl, ⟨nd, rfl⟩⟩) | (go_at_call 26; (with_reducible refine (tally_Add.calls kj11 t122 a1 t123 _ A33.out).mono ?_); rintro e w' ⟨rfl, ⟨nd, rfl⟩⟩) | (go_at_call 24; (with_reducible refine (emulsionref1_Tally.calls kj11 (a0 ++ a1) t124 _ A35.out).mono ?_); rintro e w' ⟨rfl, ⟨nd, rfl⟩⟩) | (go_at_call 27; (with_reducible refine (tally_Seal.calls kj11 a0 t125 _ A37.out).mono ?_); rintro e w43 ⟨rfl, hb⟩; have n0_ := Aside0.mk (below_step (by repeat (first | (with_reducible first | exact HB.out | apply below_alloc | apply pw_below_drewN | apply below_drew1) | exact HB.out)) hb); clear HB; have HB := n0_; clear n0_; (try clear hb); (try clear hb2); (try clear hk); (try clear hi)) | (go_at_call 24; (with_reducible refine (emulsionref1_Tally.calls kj11 a0 t126 _ A38.out).mono ?_); rintro e w' ⟨rfl, ⟨nd, rfl⟩⟩) | (go_at_call 23; (with_reducible refine (emulsionref1_Num.calls kj11 (wrap64 (t126)) 4 t127 _ A39.out).mono ?_); rintro e w44 ⟨rfl, hb⟩; have n0_ := Aside0.mk (below_step (by repeat (first | (with_reducible first | exact HB.out | apply below_alloc | apply pw_below_drewN | apply below_drew1) | exact HB.out)) hb); clear HB; have HB := n0_; clear n0_; (try clear hb); (try clear hb2); (try clear hk); (try clear hi)))
                        go_ret
                        exact ⟨by first | rfl | (simp [errW_none, errW_some] <;> rfl) | (simp [*, errW_none, errW_some] <;> rfl), by repeat (first | (with_reducible first | exact HB.out | apply below_alloc | apply pw_below_drewN | apply below_drew1) | exact HB.out)⟩
                      · rw [if_neg c42] at H
                        have c42b0 : (t116.toList == x8_11.toList) = false := beq_eq_false_iff_ne.mpr c42
                        have c42b1 : (t116.toList != x8_11.toList) = true := bne_iff_ne.mpr c42
                        obtain rfl := Option.some.inj H
                        go_wp2_with (first | ((with_reducible refine gate_callee (f := 25) rfl ?_); refine goesL_ (some 47) rfl rfl Try.func25 (by kernel_rfl) rfl #[.string a0] rfl (by (try simp only [List.map_toArray, List.map_cons, List.map_nil]); first | done | rfl | (simp only [List.length_drop, List.length_take]; rfl)) ?_; (with_reducible refine (tally_Of.calls kj11 a0 t120 _ A29.out).mono ?_); rintro e w' ⟨rfl, ⟨nd, rfl⟩⟩; refine ⟨_, rfl, ?_⟩) | ((with_reducible refine gate_callee (f := 24) rfl ?_); refine goesL_ (some 49) rfl rfl Try.func24 (by kernel_rfl) rfl #[.string a0] rfl (by (try simp only [List.map_toArray, List.map_cons, List.map_nil]); first | done | rfl | (simp only [List.length_drop, List.length_take]; rfl)) ?_; (with_reducible refine (emulsionref1_Tally.calls kj11 a0 t121 _ A30.out).mono ?_); rintro e w' ⟨rfl, ⟨nd, rfl⟩⟩; refine ⟨_, rfl, ?_⟩) | (go_at_call 25; (with_reducible refine (tally_Of.calls kj11 a0 t122 _ A32.out).mono ?_); rintro e w' ⟨rfl, ⟨nd, rfl⟩⟩) | (go_at_call 26; (with_reducible refine (tally_Add.calls kj11 t122 a1 t123 _ A33.out).mono ?_); rintro e w' ⟨rfl, ⟨nd, rfl⟩⟩) | (go_at_call 24; (with_reducible refine (emulsionref1_Tally.calls kj11 (a0 ++ a1) t124 _ A35.out).mono ?_); rintro e w' ⟨rfl, ⟨nd, rfl⟩⟩) | (go_at_call 27; (with_reducible refine (tally_Seal.calls kj11 a0 t125 _ A37.out).mono ?_); rintro e w45 ⟨rfl, hb⟩; have n0_ := Aside0.mk (below_step (by repeat (first | (with_reducible first | exact HB.out | apply below_alloc | apply pw_below_drewN | apply below_drew1) | exact HB.out)) hb); clear HB; have HB := n0_; clear n0_; (try clear hb); (try clear hb2); (try clear hk); (try clear hi)) | (go_at_call 24; (with_reducible refine (emulsionref1_Tally.calls kj11 a0 t126 _ A38.out).mono ?_); rintro e w' ⟨rfl, ⟨nd, rfl⟩⟩) | (go_at_call 23; (with_reducible refine (emulsionref1_Num.calls kj11 (wrap64 (t126)) 4 t127 _ A39.out).mono ?_); rintro e w46 ⟨rfl, hb⟩; have n0_ := Aside0.mk (below_step (by repeat (first | (with_reducible first | exact HB.out | apply below_alloc | apply pw_below_drewN | apply below_drew1) | exact HB.out)) hb); clear HB; have HB := n0_; clear n0_; (try clear hb); (try clear hb2); (try clear hk); (try clear hi)))
                        go_ret
                        exact ⟨by first | rfl | (simp [errW_none, errW_some] <;> rfl) | (simp [*, errW_none, errW_some] <;> rfl), by repeat (first | (with_reducible first | exact HB.out | apply below_alloc | apply pw_below_drewN | apply below_drew1) | exact HB.out)⟩
                    · rw [if_neg c41] at H
                      have c41b0 : (t125.toList == (a0 ++ t127).toList) = false := beq_eq_false_iff_ne.mpr c41
                      have c41b1 : (t125.toList != (a0 ++ t127).toList) = true := bne_iff_ne.mpr c41
                      obtain rfl := Option.some.inj H
                      go_wp2_with (first | ((with_reducible refine gate_callee (f := 25) rfl ?_); refine goesL_ (some 47) rfl rfl Try.func25 (by kernel_rfl) rfl #[.string a0] rfl (by (try simp only [List.map_toArray, List.map_cons, List.map_nil]); first | done | rfl | (simp only [List.length_drop, List.length_take]; rfl)) ?_; (with_reducible refine (tally_Of.calls kj11 a0 t120 _ A29.out).mono ?_); rintro e w' ⟨rfl, ⟨nd, rfl⟩⟩; refine ⟨_, rfl, ?_⟩) | ((with_reducible refine gate_callee (f := 24) rfl ?_); refine goesL_ (some 49) rfl rfl Try.func24 (by kernel_rfl) rfl #[.string a0] rfl (by (try simp only [List.map_toArray, List.map_cons, List.map_nil]); first | done | rfl | (simp only [List.length_drop, List.length_take]; rfl)) ?_; (with_reducible refine (emulsionref1_Tally.calls kj11 a0 t121 _ A30.out).mono ?_); rintro e w' ⟨rfl, ⟨nd, rfl⟩⟩; refine ⟨_, rfl, ?_⟩) | (go_at_call 25; (with_reducible refine (tally_Of.calls kj11 a0 t122 _ A32.out).mono ?_); rintro e w' ⟨rfl, ⟨nd, rfl⟩⟩) | (go_at_call 26; (with_reducible refine (tally_Add.calls kj11 t122 a1 t123 _ A33.out).mono ?_); rintro e w' ⟨rfl, ⟨nd, rfl⟩⟩) | (go_at_call 24; (with_reducible refine (emulsionref1_Tally.calls kj11 (a0 ++ a1) t124 _ A35.out).mono ?_); rintro e w' ⟨rfl, ⟨nd, rfl⟩⟩) | (go_at_call 27; (with_reducible refine (tally_Seal.calls kj11 a0 t125 _ A37.out).mono ?_); rintro e w47 ⟨rfl, hb⟩; have n0_ := Aside0.mk (below_step (by repeat (first | (with_reducible first | exact HB.out | apply below_alloc | apply pw_below_drewN | apply below_drew1) | exact HB.out)) hb); clear HB; have HB := n0_; clear n0_; (try clear hb); (try clear hb2); (try clear hk); (try clear hi)) | (go_at_call 24; (with_reducible refine (emulsionref1_Tally.calls kj11 a0 t126 _ A38.out).mono ?_); rintro e w' ⟨rfl, ⟨nd, rfl⟩⟩) | (go_at_call 23; (with_reducible refine (emulsionref1_Num.calls kj11 (wrap64 (t126)) 4 t127 _ A39.out).mono ?_); rintro e w48 ⟨rfl, hb⟩; have n0_ := Aside0.mk (below_step (by repeat (first | (with_reducible first | exact HB.out | apply below_alloc | apply pw_below_drewN | apply below_drew1) | exact HB.out)) hb); clear HB; have HB := n0_; clear n0_; (try clear hb); (try clear hb2); (try clear hk); (try clear hi)))
                      go_ret
                      exact ⟨by first | rfl | (simp [errW_none, errW_some] <;> rfl) | (simp [*, errW_none, errW_some] <;> rfl), by repeat (first | (with_reducible first | exact HB.out | apply below_alloc | apply pw_below_drewN | apply below_drew1) | exact HB.out)⟩
                  · rw [if_neg c40] at H
                    exact absurd H (by simp)
                · rw [if_neg c36] at H
                  have c36b0 : (t123 == t124) = false := beq_eq_false_iff_ne.mpr c36
                  have c36b1 : (t123 != t124) = true := bne_iff_ne.mpr c36
                  obtain rfl := Option.some.inj H
                  go_wp2_with (first | ((with_reducible refine gate_callee (f := 25) rfl ?_); refine goesL_ (some 47) rfl rfl Try.func25 (by kernel_rfl) rfl #[.string a0] rfl (by (try simp only [List.map_toArray, List.map_cons, List.map_nil]); first | done | rfl | (simp only [List.length_drop, List.length_take]; rfl)) ?_; (with_reducible refine (tally_Of.calls kj11 a0 t120 _ A29.out).mono ?_); rintro e w' ⟨rfl, ⟨nd, rfl⟩⟩; refine ⟨_, rfl, ?_⟩) | ((with_reducible refine gate_callee (f := 24) rfl ?_); refine goesL_ (some 49) rfl rfl Try.func24 (by kernel_rfl) rfl #[.string a0] rfl (by (try simp only [List.map_toArray, List.map_cons, List.map_nil]); first | done | rfl | (simp only [List.length_drop, List.length_take]; rfl)) ?_; (with_reducible refine (emulsionref1_Tally.calls kj11 a0 t121 _ A30.out).mono ?_); rintro e w' ⟨rfl, ⟨nd, rfl⟩⟩; refine ⟨_, rfl, ?_⟩) | (go_at_call 25; (with_reducible refine (tally_Of.calls kj11 a0 t122 _ A32.out).mono ?_); rintro e w' ⟨rfl, ⟨nd, rfl⟩⟩) | (go_at_call 26; (with_reducible refine (tally_Add.calls kj11 t122 a1 t123 _ A33.out).mono ?_); rintro e w' ⟨rfl, ⟨nd, rfl⟩⟩) | (go_at_call 24; (with_reducible refine (emulsionref1_Tally.calls kj11 (a0 ++ a1) t124 _ A35.out).mono ?_); rintro e w' ⟨rfl, ⟨nd, rfl⟩⟩))
                  go_ret
                  exact ⟨by first | rfl | (simp [errW_none, errW_some] <;> rfl) | (simp [*, errW_none, errW_some] <;> rfl), by repeat (first | (with_reducible first | exact HB.out | apply below_alloc | apply pw_below_drewN | apply below_drew1) | exact HB.out)⟩
              · rw [if_neg c34] at H
                exact absurd H (by simp)
            · rw [if_neg c31] at H
              have c31b0 : (t120 == t121) = false := beq_eq_false_iff_ne.mpr c31
              have c31b1 : (t120 != t121) = true := bne_iff_ne.mpr c31
              obtain rfl := Option.some.inj H
              go_wp2_with (first | ((with_reducible refine gate_callee (f := 25) rfl ?_); refine goesL_ (some 47) rfl rfl Try.func25 (by kernel_rfl) rfl #[.string a0] rfl (by (try simp only [List.map_toArray, List.map_cons, List.map_nil]); first | done | rfl | (simp only [List.length_drop, List.length_take]; rfl)) ?_; (with_reducible refine (tally_Of.calls kj11 a0 t120 _ A29.out).mono ?_); rintro e w' ⟨rfl, ⟨nd, rfl⟩⟩; refine ⟨_, rfl, ?_⟩) | ((with_reducible refine gate_callee (f := 24) rfl ?_); refine goesL_ (some 49) rfl rfl Try.func24 (by kernel_rfl) rfl #[.string a0] rfl (by (try simp only [List.map_toArray, List.map_cons, List.map_nil]); first | done | rfl | (simp only [List.length_drop, List.length_take]; rfl)) ?_; (with_reducible refine (emulsionref1_Tally.calls kj11 a0 t121 _ A30.out).mono ?_); rintro e w' ⟨rfl, ⟨nd, rfl⟩⟩; refine ⟨_, rfl, ?_⟩))
              go_ret
              exact ⟨by first | rfl | (simp [errW_none, errW_some] <;> rfl) | (simp [*, errW_none, errW_some] <;> rfl), by repeat (first | (with_reducible first | exact HB.out | apply below_alloc | apply pw_below_drewN | apply below_drew1) | exact HB.out)⟩

/-- THE ONE PURE STATEMENT of emulsionlaw12_TallyTells: yours. -/
def emulsionlaw12_TallyTells.Pure : Prop := ∀ (a0 : ByteArray) (a1 : ByteArray), a0.size ≤ 140737488351232 → a1.size ≤ 140737488351232 → ∃ k, emulsionlaw12_TallyTells.f k a0 a1 = some true
theorem emulsionlaw12_TallyTells.walk (P : emulsionlaw12_TallyTells.Pure) (a0 : ByteArray) (a1 : ByteArray) (w : World) (w0 : a0.size ≤ 140737488351232) (w1 : a1.size ≤ 140737488351232) :
    Calls Try.prog 8 #[.string a0, .string a1] w fun e w' => e = .returned (.bool true) ∧ Below w.heap.size w w' := by
  obtain ⟨k, h⟩ := P a0 a1 w0 w1
  refine (emulsionlaw12_TallyTells.calls k a0 a1 true w h).mono ?_
  rintro e w' ⟨rfl, hd⟩
  exact ⟨rfl, hd⟩

end Go.Proofs.Ythlegbnbefmfkaa.ETallyTells
