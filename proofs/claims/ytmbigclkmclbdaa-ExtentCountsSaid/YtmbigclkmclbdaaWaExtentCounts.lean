/- ExtentCounts, walked: the ids are as many as the stored blocks, and the spans hold as many blocks as the map. -/
import Derived.Test.YtmbigclkmclbdaaAlive10
import Derived.Test.YtmbigclkmclbdaaCntAll
import Derived.Test.YtmbigclkmclbdaaAx0
import Derived.Test.YtmbigclkmclbdaaAx17
import Derived.Test.YtmbigclkmclbdaaAx20
import Derived.Test.YtmbigclkmclbdaaBx2
namespace Go.Proofs.Ytmbigclkmclbdaa.WExtentCounts
open Go.RowKit Go.Proofs.YtmbigclkmclbdaaW.PrintWords Go.Proofs.YtmbigclkmclbdaaW.PrintLast Go.Proofs.YtmbigclkmclbdaaW.PrintMore Go.Proofs.Ytmbigclkmclbdaa.A Go.Proofs.Ytmbigclkmclbdaa.B Go.Proofs.Ytmbigclkmclbdaa.ExtP Go.Proofs.Ytmbigclkmclbdaa.Maps Go.Proofs.Ytmbigclkmclbdaa.Hand
set_option linter.unusedVariables false
set_option linter.unusedSimpArgs false
set_option maxHeartbeats 800000 in
set_option maxRecDepth 100000 in
theorem big (k : Nat) (A0 : Option Addr) (c0 : Nat) (l0 : List S29) (w : World) (n0 : 60 < l0.length) (hAl : emulsionlaw10_alive.f k = some true) :
    Calls Try.prog 6 #[.slice A0 l0.length c0] w fun e w' => e = .returned (.bool true) ∧ Below w.heap.size w w' := by
  have Al := Aside0.mk hAl
  clear hAl
  have g0 : decide (60 < (l0.length : Int)) = true := decide_eq_true (by omega)
  have g1 : decide (60 < l0.length) = true := decide_eq_true (by omega)
  clear n0
  go_enter Try.func6, Try.ntmps6
  go_wp2_with fail
  refine (emulsionlaw10_alive.calls k true _ Al.out).mono ?_
  rintro e w1 ⟨rfl, hB⟩
  have HB := Aside0.mk hB
  clear hB
  go_wp2_with fail
  go_ret
  exact ⟨rfl, HB.out⟩
theorem step_P (m : List Int) (i : Nat) : cntP m (i + 1) = cntP m i + ((decide (0 ≤ m.getD i 0)).toNat : Int) := rfl
theorem step_Q (m : List Int) (i : Nat) : cntQ m (i + 1) = cntQ m i + ((decide (0 < m.getD i 0)).toNat : Int) := rfl
set_option maxHeartbeats 1600000 in
set_option maxRecDepth 100000 in
theorem main (k : Nat) (A0 : Option Addr) (c0 : Nat) (l0 : List S29) (w : World) (n0 : ¬ 60 < l0.length) (hC0 : Kd.C k29 w A0 l0.length l0) (hl0 : l0.length ≤ c0) (m : List Int) (t : List S29) (ids : List Int) (ys : List S34) (hAl : emulsionlaw10_alive.f k = some true) (hEt : law10_Tidy.f l0 = some t)
    (hEF : ∀ i : Nat, i < 64 → extent_Find.f k t (i : Int) = some (findM m (i : Int))) (hys : spansX t = ys) (hT : Tidy 0 ys) (hI : extent_Ids.f k t = some ids) (hN : (ids.length : Int) = cntQ m 64) (hS : sumN ys = cntP m 64) :
    Calls Try.prog 6 #[.slice A0 l0.length c0] w fun e w' => e = .returned (.bool true) ∧ Below w.heap.size w w' := by
  have Al := Aside0.mk hAl
  have Et := Aside0.mk hEt
  have EF := Aside0.mk hEF
  have Ys := Aside0.mk hys
  have YT := Aside0.mk hT
  have EI := Aside0.mk hI
  have EN := Aside0.mk hN
  have ES := Aside0.mk hS
  have H0 := Aside0.mk hC0
  have L0 := Aside0.mk hl0
  clear hAl hEt hEF hys hT hI hN hS hC0 hl0
  have g0 : decide (60 < (l0.length : Int)) = false := decide_eq_false (by omega)
  have g1 : decide (60 < l0.length) = false := decide_eq_false (by omega)
  clear n0
  go_enter Try.func6, Try.ntmps6
  go_wp2_with fail
  refine (emulsionlaw10_alive.calls k true _ Al.out).mono ?_
  rintro e w1 ⟨rfl, hB⟩
  have HB1 := Aside0.mk hB
  clear hB
  go_wp2_with fail
  refine (law10_Tidy.calls A0 c0 l0 t _ (Kd.C_below H0.out HB1.out) L0.out Et.out).mono ?_
  rintro e w2 ⟨v_, rfl, hR, hB⟩
  obtain ⟨At, ct, rfl, hlt, hCt⟩ := Kd.R_reads hR
  have HB2 := Aside0.mk (below_step HB1.out hB)
  have Ht2 := Aside0.mk hCt
  have Lt := Aside0.mk hlt
  clear hR hB hCt hlt HB1
  go_wp2_with fail
  go_loopg [4, 5, 6] 64 (fun kq u v z wq => ∃ i : Nat, i + kq = 64 ∧ u = .int .i64 (cntQ m i) ∧ v = .int .i64 (cntP m i) ∧ z = .int .i64 (i : Int) ∧ Aside0 (Kd.C k29 wq At t.length t) ∧ Aside0 (Below w.heap.size w wq))
  case atStart => exact ⟨0, by omega, rfl, rfl, rfl, Ht2, HB2⟩
  case round =>
    clear HB2 Ht2
    obtain ⟨i, hi, rfl, rfl, rfl, Ht, HB⟩ := hrel
    have bq := cnt_bound (fun k => decide (0 < m.getD k 0)) i
    have bp := cnt_bound (fun k => decide (0 ≤ m.getD k 0)) i
    by_cases hlt : i < 64
    · have hlt' : (i : Int) < 64 := by omega
      obtain ⟨kk, rfl⟩ : ∃ y, gk = y + 1 := ⟨gk - 1, by omega⟩
      have E1 := Aside0.mk (EF.out i hlt)
      have sp := Aside0.mk (step_P m i)
      have sq := Aside0.mk (step_Q m i)
      rw [find_at m i hlt] at E1
      change 0 ≤ cntQ m i ∧ cntQ m i ≤ (i : Int) at bq
      change 0 ≤ cntP m i ∧ cntP m i ≤ (i : Int) at bp
      generalize cntQ m i = q at *
      generalize cntP m i = p at *
      generalize m.getD i 0 = z at *
      obtain ⟨q0, q1⟩ := bq
      obtain ⟨p0, p1⟩ := bp
      by_cases hz : 0 ≤ z
      · rw [if_pos hz] at E1
        rw [decide_eq_true hz] at sp
        by_cases hz2 : 0 < z
        · rw [decide_eq_true hz2] at sq
          have d0 : decide (0 < z) = true := decide_eq_true hz2
          clear hz hz2
          go_wp2_with fail
          refine (extent_Find.calls k At ct t (i : Int) z true _ Ht.out Lt.out E1.out).mono ?_
          rintro e w3 ⟨rfl, hB⟩
          have HB3 := Aside0.mk (below_step HB.out hB)
          have Ht3 := Aside0.mk (Kd.C_below Ht.out hB)
          clear hB HB Ht
          go_wp2_with fail
          go_roundg kk
          case measure => omega
          case rel => exact ⟨i + 1, by omega, by rw [sq.out]; simp, by rw [sp.out]; simp, by go_num, Ht3, HB3⟩
        · rw [decide_eq_false hz2] at sq
          have d0 : decide (0 < z) = false := decide_eq_false hz2
          clear hz hz2
          go_wp2_with fail
          refine (extent_Find.calls k At ct t (i : Int) z true _ Ht.out Lt.out E1.out).mono ?_
          rintro e w3 ⟨rfl, hB⟩
          have HB3 := Aside0.mk (below_step HB.out hB)
          have Ht3 := Aside0.mk (Kd.C_below Ht.out hB)
          clear hB HB Ht
          go_wp2_with fail
          go_roundg kk
          case measure => omega
          case rel => exact ⟨i + 1, by omega, by rw [sq.out]; simp, by rw [sp.out]; simp, by go_num, Ht3, HB3⟩
      · rw [if_neg hz] at E1
        rw [decide_eq_false hz] at sp
        rw [decide_eq_false (show ¬ 0 < z by omega)] at sq
        clear hz
        go_wp2_with fail
        refine (extent_Find.calls k At ct t (i : Int) 0 false _ Ht.out Lt.out E1.out).mono ?_
        rintro e w3 ⟨rfl, hB⟩
        have HB3 := Aside0.mk (below_step HB.out hB)
        have Ht3 := Aside0.mk (Kd.C_below Ht.out hB)
        clear hB HB Ht
        go_wp2_with fail
        go_roundg kk
        case measure => omega
        case rel => exact ⟨i + 1, by omega, by rw [sq.out]; simp, by rw [sp.out]; simp, by go_num, Ht3, HB3⟩
    · obtain rfl : i = 64 := by omega
      clear bq bp
      have hlt' : ¬ (((64 : Nat) : Int) < 64) := by omega
      generalize cntQ m 64 = q at *
      generalize cntP m 64 = p at *
      go_wp2_with fail
      refine (spans_calls At ct t _ Ht.out).mono ?_
      rintro e w3 ⟨v, rfl, ho, hB⟩
      rw [Ys.out] at ho
      obtain ⟨Ay, cy, rfl, _, hCy, _⟩ := ho.reads
      have HB3 := Aside0.mk (below_step HB.out hB)
      have Ht3 := Aside0.mk (Kd.C_below Ht.out hB)
      have Hy3 := Aside0.mk hCy
      clear hB HB Ht ho hCy
      have hyl := Aside0.mk (YT.out.length (by decide))
      go_wp2_with fail
      go_loopg [9, 42] ys.length (fun kq u z wq => ∃ j : Nat, j + kq = ys.length ∧ u = .int .i64 (sumN (ys.take j)) ∧ z = .int .i64 (j : Int) ∧ Aside0 (Kd.C k29 wq At t.length t) ∧ Aside0 (Kd.C k34 wq Ay ys.length ys) ∧ Aside0 (Below w.heap.size w wq))
      case atStart => exact ⟨0, by omega, rfl, rfl, Ht3, Hy3, HB3⟩
      case round =>
        clear HB3 Ht3 Hy3
        obtain ⟨j, hj, rfl, rfl, Ht, Hy, HB⟩ := hrel
        obtain ⟨s0, s1⟩ := (YT.out.take j).sum (by decide)
        have hyl' := hyl.out
        by_cases hlt : j < ys.length
        · have hlt' : (j : Int) < (ys.length : Int) := by omega
          obtain ⟨kk, rfl⟩ : ∃ y, gk = y + 1 := ⟨gk - 1, by omega⟩
          obtain ⟨ad, e1, x0, x1⟩ := at_T34 Hy.out (j : Int) (by omega) (by omega)
          subst e1
          rw [Int.toNat_natCast, rd_get ys j hlt] at x0 x1
          have hst := Aside0.mk (sumN_step ys j hlt)
          obtain ⟨s2, s3⟩ := (YT.out.take (j + 1)).sum (by decide)
          rw [hst.out] at s2 s3
          generalize ys[j] = X at *
          obtain ⟨F, M⟩ := X
          simp only at x0 x1 s2 s3
          generalize sumN (ys.take j) = z at *
          go_wp2_with fail
          go_roundg kk
          case measure => omega
          case rel => exact ⟨j + 1, by omega, by rw [hst.out], by go_num, ⟨Kd.C_alloc Ht.out _⟩, ⟨Kd.C_alloc Hy.out _⟩, ⟨below_alloc HB.out _⟩⟩
        · obtain rfl : j = ys.length := by omega
          have hlt' : ¬ (ys.length : Int) < (ys.length : Int) := by omega
          rw [List.take_length]
          rw [List.take_length] at s0 s1
          have e2 : (sumN ys == p) = true := beq_iff_eq.mpr ES.out
          have e3 : ((ids.length : Int) == q) = true := beq_iff_eq.mpr EN.out
          generalize sumN ys = zz at *
          go_wp2_with fail
          refine (extent_Ids.calls k At ct t ids _ Ht.out Lt.out EI.out).mono ?_
          rintro e w5 ⟨v_, rfl, hR, hB⟩
          obtain ⟨Ai, ci, rfl, hli, hCi⟩ := Kd.R_reads hR
          have HB5 := Aside0.mk (below_step HB.out hB)
          clear hR hB hCi hli
          go_wp2_with fail
          go_ret
          exact ⟨rfl, HB5.out⟩
theorem walk (A0 : Option Addr) (c0 : Nat) (l0 : List S29) (w : World) (hc0 : l0.length ≤ c0) (hC0 : Kd.C k29 w A0 l0.length l0) :
    Calls Try.prog 6 #[.slice A0 l0.length c0] w fun e w' => e = .returned (.bool true) ∧ Below w.heap.size w w' := by
  have Al := alive_eq 5000 (by omega)
  by_cases h0 : 60 < l0.length
  · exact big 5000 A0 c0 l0 w h0 Al
  have o0 := okM.of l0
  obtain ⟨ids, h1, h2⟩ := ids_exM o0 5000 (by omega)
  exact main 5000 A0 c0 l0 w h0 hC0 hc0 (ofM l0) (exM (ofM l0)) ids _ Al rfl (fun i hi => Find_map o0 _ _ (by omega)) rfl (spansX_tidy _) h1 h2 (spans_sum o0)
end Go.Proofs.Ytmbigclkmclbdaa.WExtentCounts
