/- RunsLess, walked: what is cut out is what both had; what is left and what both had is all of it. -/
import Derived.Test.YtjbimnicnehnaaaRunsH
import Derived.Test.YtjbimnicnehnaaaAlive2
import Derived.Test.YtjbimnicnehnaaaAx0
namespace Go.Proofs.Ytjbimnicnehnaaa.WRunsLess
open Go.RowKit Go.Proofs.YtjbimnicnehnaaaW.PrintWords Go.Proofs.YtjbimnicnehnaaaW.PrintLast Go.Proofs.YtjbimnicnehnaaaW.PrintMore Go.Proofs.Ytjbimnicnehnaaa.A Go.Proofs.Ytjbimnicnehnaaa.Hand
set_option linter.unusedVariables false
set_option linter.unusedSimpArgs false
attribute [local go_sem] max2_int min2_int max_two min_two max_three min_three max_four min_four
set_option maxRecDepth 100000 in
theorem early (A B : Option Addr) (c d : Nat) (a b : List S24) (w : World) (h : 30 < (a.length : Int) ∨ (¬ 30 < (a.length : Int) ∧ 30 < (b.length : Int))) :
    Calls Try.prog 11 #[.slice A a.length c, .slice B b.length d] w fun e w' => e = .returned (.bool true) ∧ Below w.heap.size w w' := by
  rcases h with h | ⟨h0, h⟩
  all_goals
    go_enter Try.func11, Try.ntmps11
    go_wp2_with (go_at_call 30; refine (alive2 _).mono ?_; rintro e w1 ⟨rfl, hB⟩)
    go_ret
    exact ⟨rfl, hB⟩
set_option maxRecDepth 100000 in
set_option maxHeartbeats 1600000 in
theorem main (A B : Option Addr) (c d : Nat) (a b : List S24) (w : World) (ha : a.length ≤ 30) (hb : b.length ≤ 30) (hA : Kd.C k24 w A a.length a) (hB0 : Kd.C k24 w B b.length b) :
    Calls Try.prog 11 #[.slice A a.length c, .slice B b.length d] w fun e w' => e = .returned (.bool true) ∧ Below w.heap.size w w' := by
  have CA := Aside0.mk hA
  have CB := Aside0.mk hB0
  have i1 : (a.length : Int) ≤ 30 := by omega
  have i2 : (b.length : Int) ≤ 30 := by omega
  have TA := Aside0.mk (putV_nil a).1
  have TB := Aside0.mk (putV_nil b).1
  have P1 := Aside0.mk (cut_sum (b := b) TA.out)
  have P2 := Aside0.mk (cut_both (b := b) TA.out)
  have P3 := Aside0.mk (cut_back (b := b) TA.out)
  have TC := Aside0.mk (cutAllV_spec b _ TA.out).1
  have TD := Aside0.mk (bothV_spec TA.out TB.out).1
  have n1 : ¬ (30 : Int) < (a.length : Int) := by omega
  have n2 : ¬ (30 : Int) < (b.length : Int) := by omega
  generalize hla : putV [] a = la at *
  generalize hlb : putV [] b = lb at *
  generalize hlc : cutAllV la b = lc at *
  generalize hld : bothV la lb = ld at *
  replace hla := Aside0.mk hla
  replace hlb := Aside0.mk hlb
  replace hlc := Aside0.mk hlc
  replace hld := Aside0.mk hld
  have HB0 := Aside0.mk (Below.refl w.heap.size w)
  clear hA hB0 ha hb
  go_enter Try.func11, Try.ntmps11
  go_wp2_with fail
  refine (alive2 _).mono ?_
  rintro e w1 ⟨rfl, hB⟩
  have HB1 := Aside0.mk (below_step HB0.out hB)
  clear hB HB0
  go_wp2_with fail
  refine (runs_of a A c _ (Kd.C_below CA.out HB1.out)).mono ?_
  rintro e w2 ⟨rfl, hr, hB⟩
  rw [hla.out] at hr
  have GE_R : Aside0 (w.heap.size ≤ w1.heap.size) := ⟨HB1.out.size⟩
  have HB2 := Aside0.mk (below_step HB1.out hB)
  have R_2 := Aside0.mk hr
  clear hr hB HB1
  generalize w1.heap.size = g1 at *
  go_wp2_with fail
  refine (runs_of b B d _ (Kd.C_below CB.out HB2.out)).mono ?_
  rintro e w3 ⟨rfl, hr, hB⟩
  rw [hlb.out] at hr
  have G_R_S : Aside0 (g1 ≠ w2.heap.size) := ⟨by have := R_2.out.lt; omega⟩
  have GE_S : Aside0 (w.heap.size ≤ w2.heap.size) := ⟨HB2.out.size⟩
  have R_3 := Aside0.mk (R_2.out.keep hB)
  clear R_2
  have HB3 := Aside0.mk (below_step HB2.out hB)
  have S_3 := Aside0.mk hr
  clear hr hB HB2
  generalize w2.heap.size = g2 at *
  go_wp2_with fail
  refine (runs_of a A c _ (Kd.C_below CA.out HB3.out)).mono ?_
  rintro e w4 ⟨rfl, hr, hB⟩
  rw [hla.out] at hr
  have G_R_T : Aside0 (g1 ≠ w3.heap.size) := ⟨by have := R_3.out.lt; omega⟩
  have G_S_T : Aside0 (g2 ≠ w3.heap.size) := ⟨by have := S_3.out.lt; omega⟩
  have GE_T : Aside0 (w.heap.size ≤ w3.heap.size) := ⟨HB3.out.size⟩
  have R_4 := Aside0.mk (R_3.out.keep hB)
  clear R_3
  have S_4 := Aside0.mk (S_3.out.keep hB)
  clear S_3
  have HB4 := Aside0.mk (below_step HB3.out hB)
  have T_4 := Aside0.mk hr
  clear hr hB HB3
  generalize w3.heap.size = g3 at *
  have Off1 := Aside0.mk (off_lt CB.out GE_R.out)
  go_wp2_with fail
  refine (runs_both g1 g1 g2 g2 la lb _ TA.out TB.out R_4.out S_4.out).mono ?_
  rintro e w5 ⟨rfl, hr, hB⟩
  rw [hld.out] at hr
  have G_R_U : Aside0 (g1 ≠ w4.heap.size) := ⟨by have := R_4.out.lt; omega⟩
  have G_S_U : Aside0 (g2 ≠ w4.heap.size) := ⟨by have := S_4.out.lt; omega⟩
  have G_T_U : Aside0 (g3 ≠ w4.heap.size) := ⟨by have := T_4.out.lt; omega⟩
  have GE_U : Aside0 (w.heap.size ≤ w4.heap.size) := ⟨HB4.out.size⟩
  have R_5 := Aside0.mk (R_4.out.keep hB)
  clear R_4
  have S_5 := Aside0.mk (S_4.out.keep hB)
  clear S_4
  have T_5 := Aside0.mk (T_4.out.keep hB)
  clear T_4
  have HB5 := Aside0.mk (below_step HB4.out hB)
  have U_5 := Aside0.mk hr
  clear hr hB HB4
  generalize w4.heap.size = g4 at *
  go_wp2_with fail
  refine (runs_cut g1 g1 la b B d _ TA.out R_5.out (by have := R_5.out.lt; omega) (Kd.C_below CB.out HB5.out) Off1.out).mono ?_
  rintro e w6 ⟨rfl, hr, ho⟩
  rw [hlc.out] at hr
  rw [hlc.out, P1.out]
  have S_6 := Aside0.mk (S_5.out.onlyR ho G_R_S.out.symm R_5.out)
  clear S_5
  have T_6 := Aside0.mk (T_5.out.onlyR ho G_R_T.out.symm R_5.out)
  clear T_5
  have U_6 := Aside0.mk (U_5.out.onlyR ho G_R_U.out.symm R_5.out)
  clear U_5
  have HB6 := Aside0.mk (below_only HB5.out ho GE_R.out)
  have R_6 := Aside0.mk hr
  clear hr ho R_5 HB5
  obtain ⟨z0, z1⟩ := TD.out.sum (by decide)
  generalize hz : sumN ld = z at *
  replace hz := Aside0.mk hz
  go_wp2_with fail
  refine (runs_count g4 g4 ld _ TD.out U_6.out).mono ?_
  rintro e w7 ⟨rfl, hB⟩
  rw [hz.out]
  have R_7 := Aside0.mk (R_6.out.keep hB)
  clear R_6
  have S_7 := Aside0.mk (S_6.out.keep hB)
  clear S_6
  have T_7 := Aside0.mk (T_6.out.keep hB)
  clear T_6
  have U_7 := Aside0.mk (U_6.out.keep hB)
  clear U_6
  have HB7 := Aside0.mk (below_step HB6.out hB)
  clear hB HB6
  go_wp2_with fail
  refine (runs_both g1 g1 g2 g2 lc lb _ TC.out TB.out R_7.out S_7.out).mono ?_
  rintro e w8 ⟨rfl, hr, hB⟩
  rw [P2.out] at hr
  have G_R_V : Aside0 (g1 ≠ w7.heap.size) := ⟨by have := R_7.out.lt; omega⟩
  have G_S_V : Aside0 (g2 ≠ w7.heap.size) := ⟨by have := S_7.out.lt; omega⟩
  have G_T_V : Aside0 (g3 ≠ w7.heap.size) := ⟨by have := T_7.out.lt; omega⟩
  have G_U_V : Aside0 (g4 ≠ w7.heap.size) := ⟨by have := U_7.out.lt; omega⟩
  have GE_V : Aside0 (w.heap.size ≤ w7.heap.size) := ⟨HB7.out.size⟩
  have R_8 := Aside0.mk (R_7.out.keep hB)
  clear R_7
  have S_8 := Aside0.mk (S_7.out.keep hB)
  clear S_7
  have T_8 := Aside0.mk (T_7.out.keep hB)
  clear T_7
  have U_8 := Aside0.mk (U_7.out.keep hB)
  clear U_7
  have HB8 := Aside0.mk (below_step HB7.out hB)
  have V_8 := Aside0.mk hr
  clear hr hB HB7
  generalize w7.heap.size = g5 at *
  go_wp2_with fail
  refine (runs_both g1 g1 g2 g2 lc lb _ TC.out TB.out R_8.out S_8.out).mono ?_
  rintro e w9 ⟨rfl, hr, hB⟩
  rw [P2.out] at hr
  have G_R_X : Aside0 (g1 ≠ w8.heap.size) := ⟨by have := R_8.out.lt; omega⟩
  have G_S_X : Aside0 (g2 ≠ w8.heap.size) := ⟨by have := S_8.out.lt; omega⟩
  have G_T_X : Aside0 (g3 ≠ w8.heap.size) := ⟨by have := T_8.out.lt; omega⟩
  have G_U_X : Aside0 (g4 ≠ w8.heap.size) := ⟨by have := U_8.out.lt; omega⟩
  have G_V_X : Aside0 (g5 ≠ w8.heap.size) := ⟨by have := V_8.out.lt; omega⟩
  have GE_X : Aside0 (w.heap.size ≤ w8.heap.size) := ⟨HB8.out.size⟩
  have R_9 := Aside0.mk (R_8.out.keep hB)
  clear R_8
  have S_9 := Aside0.mk (S_8.out.keep hB)
  clear S_8
  have T_9 := Aside0.mk (T_8.out.keep hB)
  clear T_8
  have U_9 := Aside0.mk (U_8.out.keep hB)
  clear U_8
  have V_9 := Aside0.mk (V_8.out.keep hB)
  clear V_8
  have HB9 := Aside0.mk (below_step HB8.out hB)
  have X_9 := Aside0.mk hr
  clear hr hB HB8
  generalize w8.heap.size = g6 at *
  go_wp2_with fail
  refine (runs_count g6 g6 [] _ trivial X_9.out).mono ?_
  rintro e w10 ⟨rfl, hB⟩
  have R_10 := Aside0.mk (R_9.out.keep hB)
  clear R_9
  have S_10 := Aside0.mk (S_9.out.keep hB)
  clear S_9
  have T_10 := Aside0.mk (T_9.out.keep hB)
  clear T_9
  have U_10 := Aside0.mk (U_9.out.keep hB)
  clear U_9
  have V_10 := Aside0.mk (V_9.out.keep hB)
  clear V_9
  have X_10 := Aside0.mk (X_9.out.keep hB)
  clear X_9
  have HB10 := Aside0.mk (below_step HB9.out hB)
  clear hB HB9
  rw [show sumN [] = 0 from rfl]
  go_wp2_with fail
  refine (runs_all g4 g4 ld (by have := TD.out.length (by decide); omega) _ U_10.out).mono ?_
  rintro e w11 ⟨v, rfl, ho, hB⟩
  obtain ⟨A2, c2, rfl, _, hC, _⟩ := ho.reads
  have CD := Aside0.mk hC
  have OffD := Aside0.mk (off_row ho (g := g1) (by have := R_10.out.lt; omega))
  clear hC ho
  have R_11 := Aside0.mk (R_10.out.keep hB)
  clear R_10
  have S_11 := Aside0.mk (S_10.out.keep hB)
  clear S_10
  have T_11 := Aside0.mk (T_10.out.keep hB)
  clear T_10
  have U_11 := Aside0.mk (U_10.out.keep hB)
  clear U_10
  have V_11 := Aside0.mk (V_10.out.keep hB)
  clear V_10
  have X_11 := Aside0.mk (X_10.out.keep hB)
  clear X_10
  have HB11 := Aside0.mk (below_step HB10.out hB)
  clear hB HB10
  go_wp2_with fail
  refine (runs_put g1 g1 lc ld A2 c2 _ TC.out R_11.out (by have := R_11.out.lt; omega) CD.out OffD.out).mono ?_
  rintro e w12 ⟨rfl, hr, ho⟩
  rw [P3.out] at hr
  have S_12 := Aside0.mk (S_11.out.onlyR ho G_R_S.out.symm R_11.out)
  clear S_11
  have T_12 := Aside0.mk (T_11.out.onlyR ho G_R_T.out.symm R_11.out)
  clear T_11
  have U_12 := Aside0.mk (U_11.out.onlyR ho G_R_U.out.symm R_11.out)
  clear U_11
  have V_12 := Aside0.mk (V_11.out.onlyR ho G_R_V.out.symm R_11.out)
  clear V_11
  have X_12 := Aside0.mk (X_11.out.onlyR ho G_R_X.out.symm R_11.out)
  clear X_11
  have HB12 := Aside0.mk (below_only HB11.out ho GE_R.out)
  have R_12 := Aside0.mk hr
  clear hr ho R_11 HB11
  go_wp2_with fail
  refine (runs_same g1 g1 g3 g3 la la _ TA.out TA.out R_12.out T_12.out).mono ?_
  rintro e w13 ⟨rfl, hB⟩
  have R_13 := Aside0.mk (R_12.out.keep hB)
  clear R_12
  have S_13 := Aside0.mk (S_12.out.keep hB)
  clear S_12
  have T_13 := Aside0.mk (T_12.out.keep hB)
  clear T_12
  have U_13 := Aside0.mk (U_12.out.keep hB)
  clear U_12
  have V_13 := Aside0.mk (V_12.out.keep hB)
  clear V_12
  have X_13 := Aside0.mk (X_12.out.keep hB)
  clear X_12
  have HB13 := Aside0.mk (below_step HB12.out hB)
  clear hB HB12
  rw [decide_eq_true rfl]
  go_wp2_with fail
  go_ret
  exact ⟨rfl, HB13.out⟩
theorem walk (A : Option Addr) (c : Nat) (a : List S24) (B : Option Addr) (d : Nat) (b : List S24) (w : World) (_ : a.length ≤ c) (hA : Kd.C k24 w A a.length a) (_ : b.length ≤ d) (hB : Kd.C k24 w B b.length b) :
    Calls Try.prog 11 #[.slice A a.length c, .slice B b.length d] w fun e w' => e = .returned (.bool true) ∧ Below w.heap.size w w' := by
  by_cases h : 30 < (a.length : Int) ∨ (¬ 30 < (a.length : Int) ∧ 30 < (b.length : Int))
  · exact early A B c d a b w h
  · exact main A B c d a b w (by omega) (by omega) hA hB
end Go.Proofs.Ytjbimnicnehnaaa.WRunsLess
