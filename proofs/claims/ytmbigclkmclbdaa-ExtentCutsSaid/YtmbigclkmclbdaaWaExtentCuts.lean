/- ExtentCuts, walked: what is cut out and what is left lie apart, and together they are the whole. -/
import Derived.Test.YtmbigclkmclbdaaLaw10
import Derived.Test.YtmbigclkmclbdaaAx0
import Derived.Test.YtmbigclkmclbdaaAx11
import Derived.Test.YtmbigclkmclbdaaAx14
import Derived.Test.YtmbigclkmclbdaaAx15
import Derived.Test.YtmbigclkmclbdaaAx17
import Derived.Test.YtmbigclkmclbdaaBx2
namespace Go.Proofs.Ytmbigclkmclbdaa.WExtentCuts
open Go.RowKit Go.Proofs.YtmbigclkmclbdaaW.PrintWords Go.Proofs.YtmbigclkmclbdaaW.PrintLast Go.Proofs.YtmbigclkmclbdaaW.PrintMore Go.Proofs.Ytmbigclkmclbdaa.A Go.Proofs.Ytmbigclkmclbdaa.B Go.Proofs.Ytmbigclkmclbdaa.ExtP Go.Proofs.Ytmbigclkmclbdaa.Maps Go.Proofs.Ytmbigclkmclbdaa.Hand
set_option linter.unusedVariables false
set_option linter.unusedSimpArgs false
attribute [local go_sem] max2_int min2_int max_two min_two max_three min_three max_four min_four
theorem rdE (l : List EX) (i : Nat) : ((rd_T29 l (i : Int)).f0 == (rd_T29 l (i : Int)).f0 && ((rd_T29 l (i : Int)).f1 == (rd_T29 l (i : Int)).f1 && (rd_T29 l (i : Int)).f2 == (rd_T29 l (i : Int)).f2)) = true := by simp
theorem same_l0 (l : List EX) (hl : l.length ≤ 1000000) (d : Nat) : ∀ (k i : Nat), i + d = l.length → d < k → emulsionbook_SameExtents.l0 k l l (i : Int) = some true := by
  induction d with
  | zero =>
    intro k i hi hk
    obtain ⟨k, rfl⟩ : ∃ m, k = m + 1 := ⟨k - 1, by omega⟩
    simp only [emulsionbook_SameExtents.l0]
    rw [if_neg (by omega)]
  | succ d ih =>
    intro k i hi hk
    obtain ⟨k, rfl⟩ : ∃ m, k = m + 1 := ⟨k - 1, by omega⟩
    have hw : wrap64 ((i : Int) + 1) = ((i + 1 : Nat) : Int) := by unfold wrap64; omega
    simp only [emulsionbook_SameExtents.l0]
    rw [if_pos (by omega), if_pos (by omega), if_pos (by omega), if_pos (rdE l i), hw]
    exact ih k (i + 1) (by omega) (by omega)
theorem same_eq (l : List EX) (hl : l.length ≤ 1000000) (k : Nat) (hk : l.length < k) : emulsionbook_SameExtents.f k l l = some true := by
  unfold emulsionbook_SameExtents.f
  rw [if_pos rfl]
  exact same_l0 l hl l.length k 0 (by omega) hk
theorem cell_a {w : World} {g : Nat} {a m : Int} (h : w.heap[g]? = some (.cells #[.int .i64 a, .int .i64 m] 34 (0, 0))) : w.cell? ⟨g, 0, none⟩ = some (.int .i64 a) := (blk_cell h 0).trans rfl
theorem cell_m {w : World} {g : Nat} {a m : Int} (h : w.heap[g]? = some (.cells #[.int .i64 a, .int .i64 m] 34 (0, 0))) : w.cell? ⟨g, 1, none⟩ = some (.int .i64 m) := (blk_cell h 1).trans rfl
theorem cuts_ways {a c i : Int} {b b' : Bool} (e3 : a ≤ i ∧ i < c → b = false) (e4 : ¬ (a ≤ i ∧ i < c) → b' = false) : (decide (a ≤ i) = true ∧ decide (i < c) = true ∧ b = false) ∨ (decide (a ≤ i) = true ∧ decide (i < c) = false ∧ b' = false) ∨ (decide (a ≤ i) = false ∧ b' = false) := by
  by_cases h1 : a ≤ i
  · by_cases h2 : i < c
    · exact .inl ⟨decide_eq_true h1, decide_eq_true h2, e3 ⟨h1, h2⟩⟩
    · exact .inr (.inl ⟨decide_eq_true h1, decide_eq_false h2, e4 fun h => h2 h.2⟩)
  · exact .inr (.inr ⟨decide_eq_false h1, e4 fun h => h1 h.1⟩)
set_option maxHeartbeats 1600000 in
set_option maxRecDepth 100000 in
theorem big (k : Nat) (A0 : Option Addr) (c0 : Nat) (l0 : List S29) (a m : Int) (w : World) (hC0 : Kd.C k29 w A0 l0.length l0) (hl0 : l0.length ≤ c0) (n0 : 60 < l0.length) (hAl : emulsionlaw10_alive.f k = some true) :
    Calls Try.prog 5 #[.slice A0 l0.length c0, .agg #[.int .i64 a, .int .i64 m]] w fun e w' => e = .returned (.bool true) ∧ Below w.heap.size w w' := by
  have hu29 := Try.underlying29
  have hu34 := Try.underlying34
  have H0 := Aside0.mk (Kd.C_alloc hC0 (.cells #[.int .i64 a, .int .i64 m] 34))
  have L0 := Aside0.mk hl0
  clear hC0 hl0
  have HB := Aside0.mk (below_alloc (Below.refl w.heap.size w) (.cells #[.int .i64 a, .int .i64 m] 34))
  have Al := Aside0.mk hAl
  clear hAl
  obtain ⟨gs, hgs⟩ : ∃ y, y = w.heap.size := ⟨_, rfl⟩
  have BK : Aside0 ((w.alloc (.cells #[.int .i64 a, .int .i64 m] 34)).heap[gs]? = some (.cells #[.int .i64 a, .int .i64 m] 34 (0, 0))) := ⟨hgs ▸ blk_new _ _⟩
  have p0 := cell_a BK.out
  have p1 := cell_m BK.out
  rw [hgs] at p0 p1
  go_enter Try.func5, Try.ntmps5
  have g0 : decide (60 < (l0.length : Int)) = true := decide_eq_true (by omega)
  have g1 : decide (60 < l0.length) = true := decide_eq_true (by omega)
  clear n0
  go_wp2_with fail
  rw [← hgs]
  (try rw [← hgs] at p0 p1)
  clear hgs
  refine (emulsionlaw10_alive.calls k true _ Al.out).mono ?_
  rintro e w1 ⟨rfl, hB⟩
  have H0 := Aside0.mk (Kd.C_below H0.out hB)
  have BK := Aside0.mk (blk_below BK.out hB)
  have HB := Aside0.mk (below_step HB.out hB)
  clear hB p0 p1
  have p0 := cell_a BK.out
  have p1 := cell_m BK.out
  go_wp2_with fail
  go_ret
  exact ⟨rfl, HB.out⟩
set_option maxHeartbeats 1600000 in
set_option maxRecDepth 100000 in
theorem nowhole (k : Nat) (A0 : Option Addr) (c0 : Nat) (l0 : List S29) (a m : Int) (w : World) (hC0 : Kd.C k29 w A0 l0.length l0) (hl0 : l0.length ≤ c0) (n0 : ¬ 60 < l0.length) (hAl : emulsionlaw10_alive.f k = some true) (hEw : emulsionref1_Whole.f a m = some false) :
    Calls Try.prog 5 #[.slice A0 l0.length c0, .agg #[.int .i64 a, .int .i64 m]] w fun e w' => e = .returned (.bool true) ∧ Below w.heap.size w w' := by
  have hu29 := Try.underlying29
  have hu34 := Try.underlying34
  have H0 := Aside0.mk (Kd.C_alloc hC0 (.cells #[.int .i64 a, .int .i64 m] 34))
  have L0 := Aside0.mk hl0
  clear hC0 hl0
  have HB := Aside0.mk (below_alloc (Below.refl w.heap.size w) (.cells #[.int .i64 a, .int .i64 m] 34))
  have Al := Aside0.mk hAl
  clear hAl
  have Ew := Aside0.mk hEw
  clear hEw
  obtain ⟨gs, hgs⟩ : ∃ y, y = w.heap.size := ⟨_, rfl⟩
  have BK : Aside0 ((w.alloc (.cells #[.int .i64 a, .int .i64 m] 34)).heap[gs]? = some (.cells #[.int .i64 a, .int .i64 m] 34 (0, 0))) := ⟨hgs ▸ blk_new _ _⟩
  have p0 := cell_a BK.out
  have p1 := cell_m BK.out
  rw [hgs] at p0 p1
  go_enter Try.func5, Try.ntmps5
  have g0 : decide (60 < (l0.length : Int)) = false := decide_eq_false (by omega)
  have g1 : decide (60 < l0.length) = false := decide_eq_false (by omega)
  clear n0
  go_wp2_with fail
  rw [← hgs]
  (try rw [← hgs] at p0 p1)
  clear hgs
  refine (emulsionref1_Whole.calls a m false _ Ew.out).mono ?_
  rintro e w1 ⟨rfl, hB⟩
  have H0 := Aside0.mk (Kd.C_below H0.out hB)
  have BK := Aside0.mk (blk_below BK.out hB)
  have HB := Aside0.mk (below_step HB.out hB)
  clear hB p0 p1
  have p0 := cell_a BK.out
  have p1 := cell_m BK.out
  go_wp2_with fail
  refine (emulsionlaw10_alive.calls k true _ Al.out).mono ?_
  rintro e w2 ⟨rfl, hB⟩
  have H0 := Aside0.mk (Kd.C_below H0.out hB)
  have BK := Aside0.mk (blk_below BK.out hB)
  have HB := Aside0.mk (below_step HB.out hB)
  clear hB p0 p1
  have p0 := cell_a BK.out
  have p1 := cell_m BK.out
  go_wp2_with fail
  go_ret
  exact ⟨rfl, HB.out⟩
set_option maxHeartbeats 1600000 in
set_option maxRecDepth 100000 in
theorem main00 (k : Nat) (A0 : Option Addr) (c0 : Nat) (l0 : List S29) (a m : Int) (w : World) (hC0 : Kd.C k29 w A0 l0.length l0) (hl0 : l0.length ≤ c0) (t u q r v p : List S29) (n0 : ¬ 60 < l0.length) (hpos : ¬ 0 < a) (hlow : ¬ wrap64 (a + m) < 64) (hAl : emulsionlaw10_alive.f k = some true) (hEw : emulsionref1_Whole.f a m = some true) (hEt : law10_Tidy.f l0 = some t) (hEu : extent_Cut.f k t a m = some u) (hEq : extent_Cut.f k t 0 1 = some q) (hEr : extent_Cut.f k q 0 1 = some r) (hEF : ∀ i : Nat, i < 64 → ∃ x b x' b', extent_Find.f k u (i : Int) = some (x, b) ∧ extent_Find.f k t (i : Int) = some (x', b') ∧ ((a ≤ (i : Int) ∧ (i : Int) < wrap64 (a + m)) → b = false) ∧ (¬ (a ≤ (i : Int) ∧ (i : Int) < wrap64 (a + m)) → b' = false)) (hEo : extent_Over.f k u t = some t) (hEs : extent_Over.f k t u = some t) (hEss : emulsionbook_SameExtents.f k t t = some true) (hEl : (r.length : Int) ≤ wrap64 ((t.length : Int) + 1)) :
    Calls Try.prog 5 #[.slice A0 l0.length c0, .agg #[.int .i64 a, .int .i64 m]] w fun e w' => e = .returned (.bool true) ∧ Below w.heap.size w w' := by
  have hu29 := Try.underlying29
  have hu34 := Try.underlying34
  have H0 := Aside0.mk (Kd.C_alloc hC0 (.cells #[.int .i64 a, .int .i64 m] 34))
  have L0 := Aside0.mk hl0
  clear hC0 hl0
  have HB := Aside0.mk (below_alloc (Below.refl w.heap.size w) (.cells #[.int .i64 a, .int .i64 m] 34))
  have Al := Aside0.mk hAl
  clear hAl
  have Ew := Aside0.mk hEw
  clear hEw
  have Et := Aside0.mk hEt
  clear hEt
  have Eu := Aside0.mk hEu
  clear hEu
  have Eq := Aside0.mk hEq
  clear hEq
  have Er := Aside0.mk hEr
  clear hEr
  have EF := Aside0.mk hEF
  clear hEF
  have Eo := Aside0.mk hEo
  clear hEo
  have Es := Aside0.mk hEs
  clear hEs
  have Ess := Aside0.mk hEss
  clear hEss
  have El := Aside0.mk hEl
  clear hEl
  have d0 : decide (0 < a) = false := decide_eq_false (by omega)
  have d1 : decide (wrap64 (a + m) < 64) = false := decide_eq_false hlow
  have d2 : a < 1 := by omega
  clear hpos hlow
  obtain ⟨gs, hgs⟩ : ∃ y, y = w.heap.size := ⟨_, rfl⟩
  have BK : Aside0 ((w.alloc (.cells #[.int .i64 a, .int .i64 m] 34)).heap[gs]? = some (.cells #[.int .i64 a, .int .i64 m] 34 (0, 0))) := ⟨hgs ▸ blk_new _ _⟩
  have p0 := cell_a BK.out
  have p1 := cell_m BK.out
  rw [hgs] at p0 p1
  go_enter Try.func5, Try.ntmps5
  have g0 : decide (60 < (l0.length : Int)) = false := decide_eq_false (by omega)
  have g1 : decide (60 < l0.length) = false := decide_eq_false (by omega)
  clear n0
  go_wp2_with fail
  rw [← hgs]
  (try rw [← hgs] at p0 p1)
  clear hgs
  refine (emulsionref1_Whole.calls a m true _ Ew.out).mono ?_
  rintro e w1 ⟨rfl, hB⟩
  have H0 := Aside0.mk (Kd.C_below H0.out hB)
  have BK := Aside0.mk (blk_below BK.out hB)
  have HB := Aside0.mk (below_step HB.out hB)
  clear hB p0 p1
  have p0 := cell_a BK.out
  have p1 := cell_m BK.out
  go_wp2_with fail
  refine (emulsionlaw10_alive.calls k true _ Al.out).mono ?_
  rintro e w2 ⟨rfl, hB⟩
  have H0 := Aside0.mk (Kd.C_below H0.out hB)
  have BK := Aside0.mk (blk_below BK.out hB)
  have HB := Aside0.mk (below_step HB.out hB)
  clear hB p0 p1
  have p0 := cell_a BK.out
  have p1 := cell_m BK.out
  go_wp2_with fail
  refine (law10_Tidy.calls A0 c0 l0 t _ H0.out L0.out Et.out).mono ?_
  rintro e w3 ⟨v_, rfl, hR, hB⟩
  obtain ⟨At, ct, rfl, hlt, hCt⟩ := Kd.R_reads hR
  clear hR
  have H0 := Aside0.mk (Kd.C_below H0.out hB)
  have BK := Aside0.mk (blk_below BK.out hB)
  have HB := Aside0.mk (below_step HB.out hB)
  clear hB p0 p1
  have p0 := cell_a BK.out
  have p1 := cell_m BK.out
  have Ht := Aside0.mk hCt
  have Lt := Aside0.mk hlt
  clear hCt hlt
  go_wp2_with fail
  refine (extent_Cut.calls k At ct t a m u _ Ht.out Lt.out Eu.out).mono ?_
  rintro e w4 ⟨v_, rfl, hR, hB⟩
  obtain ⟨Au, cu, rfl, hlu, hCu⟩ := Kd.R_reads hR
  clear hR
  have Ht := Aside0.mk (Kd.C_below Ht.out hB)
  have BK := Aside0.mk (blk_below BK.out hB)
  have HB := Aside0.mk (below_step HB.out hB)
  clear hB p0 p1
  have p0 := cell_a BK.out
  have p1 := cell_m BK.out
  have Hu := Aside0.mk hCu
  have Lu := Aside0.mk hlu
  clear hCu hlu
  go_wp2_with fail
  refine (extent_Cut.calls k At ct t 0 1 q _ Ht.out Lt.out Eq.out).mono ?_
  rintro e w5 ⟨v_, rfl, hR, hB⟩
  obtain ⟨Aq, cq, rfl, hlq, hCq⟩ := Kd.R_reads hR
  clear hR
  have Ht := Aside0.mk (Kd.C_below Ht.out hB)
  have Hu := Aside0.mk (Kd.C_below Hu.out hB)
  have BK := Aside0.mk (blk_below BK.out hB)
  have HB := Aside0.mk (below_step HB.out hB)
  clear hB p0 p1
  have p0 := cell_a BK.out
  have p1 := cell_m BK.out
  have Hq := Aside0.mk hCq
  have Lq := Aside0.mk hlq
  clear hCq hlq
  go_wp2_with fail
  refine (extent_Cut.calls k Aq cq q 0 1 r _ Hq.out Lq.out Er.out).mono ?_
  rintro e w6 ⟨v_, rfl, hR, hB⟩
  obtain ⟨Ar, cr, rfl, hlr, hCr⟩ := Kd.R_reads hR
  clear hR
  have Ht := Aside0.mk (Kd.C_below Ht.out hB)
  have Hu := Aside0.mk (Kd.C_below Hu.out hB)
  have Hq := Aside0.mk (Kd.C_below Hq.out hB)
  have BK := Aside0.mk (blk_below BK.out hB)
  have HB := Aside0.mk (below_step HB.out hB)
  clear hB p0 p1
  have p0 := cell_a BK.out
  have p1 := cell_m BK.out
  have Hr := Aside0.mk hCr
  have Lr := Aside0.mk hlr
  clear hCr hlr
  go_wp2_with fail
  go_loopg [9] 64 (fun kq z wq => ∃ i : Nat, i + kq = 64 ∧ z = .int .i64 (i : Int) ∧ Aside0 (Kd.C k29 wq At t.length t) ∧ Aside0 (Kd.C k29 wq Au u.length u) ∧ Aside0 (Kd.C k29 wq Ar r.length r) ∧ Aside0 (wq.heap[gs]? = some (.cells #[.int .i64 a, .int .i64 m] 34 (0, 0))) ∧ Aside0 (Below w.heap.size w wq))
  case atStart => exact ⟨0, by omega, rfl, Ht, Hu, Hr, BK, HB⟩
  case round =>
    clear BK HB p0 p1 Ht Hu Hr
    obtain ⟨i, hi, rfl, Ht, Hu, Hr, BK, HB⟩ := hrel
    have p0 := cell_a BK.out
    have p1 := cell_m BK.out
    by_cases hlt : i < 64
    · obtain ⟨x, b, x', b', e1, e2, e3, e4⟩ := EF.out i hlt
      obtain ⟨kk, rfl⟩ : ∃ y, gk = y + 1 := ⟨gk - 1, by omega⟩
      have E1 := Aside0.mk e1
      have E2 := Aside0.mk e2
      clear e1 e2
      have s0 : decide ((i : Int) < 64) = true := decide_eq_true (by omega)
      have s1 : decide (i < 64) = true := decide_eq_true hlt
      have hc : (decide (a ≤ (i : Int)) = true ∧ decide ((i : Int) < wrap64 (a + m)) = true ∧ b = false) ∨ (decide (a ≤ (i : Int)) = true ∧ decide ((i : Int) < wrap64 (a + m)) = false ∧ b' = false) ∨ (decide (a ≤ (i : Int)) = false ∧ b' = false) := cuts_ways e3 e4
      clear e3 e4
      rcases hc with ⟨t0, t1, rfl⟩ | ⟨t0, t1, rfl⟩ | ⟨t0, rfl⟩
      all_goals first | cases b | cases b'
      all_goals
        go_wp2_with fail
        refine (extent_Find.calls k Au cu u (i : Int) x _ _ Hu.out Lu.out E1.out).mono ?_
        rintro e w7 ⟨rfl, hB⟩
        have Ht := Aside0.mk (Kd.C_below Ht.out hB)
        have Hu := Aside0.mk (Kd.C_below Hu.out hB)
        have Hr := Aside0.mk (Kd.C_below Hr.out hB)
        have BK := Aside0.mk (blk_below BK.out hB)
        have HB := Aside0.mk (below_step HB.out hB)
        clear hB p0 p1
        have p0 := cell_a BK.out
        have p1 := cell_m BK.out
        go_wp2_with fail
        refine (extent_Find.calls k At ct t (i : Int) x' _ _ Ht.out Lt.out E2.out).mono ?_
        rintro e w8 ⟨rfl, hB⟩
        have Ht := Aside0.mk (Kd.C_below Ht.out hB)
        have Hu := Aside0.mk (Kd.C_below Hu.out hB)
        have Hr := Aside0.mk (Kd.C_below Hr.out hB)
        have BK := Aside0.mk (blk_below BK.out hB)
        have HB := Aside0.mk (below_step HB.out hB)
        clear hB p0 p1
        have p0 := cell_a BK.out
        have p1 := cell_m BK.out
        go_wp2_with fail
        go_roundg kk
        case measure => omega
        case rel => exact ⟨i + 1, by omega, by go_num, Ht, Hu, Hr, BK, HB⟩
    · have s0 : decide ((i : Int) < 64) = false := decide_eq_false (by omega)
      have s1 : decide (i < 64) = false := decide_eq_false hlt
      go_wp2_with fail
      refine (extent_Over.calls k Au cu u At ct t t _ Hu.out Lu.out Ht.out Lt.out Eo.out).mono ?_
      rintro e w7 ⟨v_, rfl, hR, hB⟩
      obtain ⟨Ao, co, rfl, hlo, hCo⟩ := Kd.R_reads hR
      clear hR
      have Ht := Aside0.mk (Kd.C_below Ht.out hB)
      have Hu := Aside0.mk (Kd.C_below Hu.out hB)
      have Hr := Aside0.mk (Kd.C_below Hr.out hB)
      have BK := Aside0.mk (blk_below BK.out hB)
      have HB := Aside0.mk (below_step HB.out hB)
      clear hB p0 p1
      have p0 := cell_a BK.out
      have p1 := cell_m BK.out
      have Ho := Aside0.mk hCo
      have Lo := Aside0.mk hlo
      clear hCo hlo
      go_wp2_with fail
      refine (emulsionbook_SameExtents.calls k Ao co t At ct t true _ Ho.out Lo.out Ht.out Lt.out Ess.out).mono ?_
      rintro e w8 ⟨rfl, hD⟩
      have hB := Drawn0.below hD
      clear hD
      have Ht := Aside0.mk (Kd.C_below Ht.out hB)
      have Hu := Aside0.mk (Kd.C_below Hu.out hB)
      have Hr := Aside0.mk (Kd.C_below Hr.out hB)
      have Ho := Aside0.mk (Kd.C_below Ho.out hB)
      have BK := Aside0.mk (blk_below BK.out hB)
      have HB := Aside0.mk (below_step HB.out hB)
      clear hB p0 p1
      have p0 := cell_a BK.out
      have p1 := cell_m BK.out
      go_wp2_with fail
      refine (extent_Over.calls k At ct t Au cu u t _ Ht.out Lt.out Hu.out Lu.out Es.out).mono ?_
      rintro e w9 ⟨v_, rfl, hR, hB⟩
      obtain ⟨As, cs, rfl, hls, hCs⟩ := Kd.R_reads hR
      clear hR
      have Ht := Aside0.mk (Kd.C_below Ht.out hB)
      have Hu := Aside0.mk (Kd.C_below Hu.out hB)
      have Hr := Aside0.mk (Kd.C_below Hr.out hB)
      have Ho := Aside0.mk (Kd.C_below Ho.out hB)
      have BK := Aside0.mk (blk_below BK.out hB)
      have HB := Aside0.mk (below_step HB.out hB)
      clear hB p0 p1
      have p0 := cell_a BK.out
      have p1 := cell_m BK.out
      have Hs := Aside0.mk hCs
      have Ls := Aside0.mk hls
      clear hCs hls
      go_wp2_with fail
      refine (emulsionbook_SameExtents.calls k As cs t At ct t true _ Hs.out Ls.out Ht.out Lt.out Ess.out).mono ?_
      rintro e w10 ⟨rfl, hD⟩
      have hB := Drawn0.below hD
      clear hD
      have Ht := Aside0.mk (Kd.C_below Ht.out hB)
      have Hu := Aside0.mk (Kd.C_below Hu.out hB)
      have Hr := Aside0.mk (Kd.C_below Hr.out hB)
      have Ho := Aside0.mk (Kd.C_below Ho.out hB)
      have Hs := Aside0.mk (Kd.C_below Hs.out hB)
      have BK := Aside0.mk (blk_below BK.out hB)
      have HB := Aside0.mk (below_step HB.out hB)
      clear hB p0 p1
      have p0 := cell_a BK.out
      have p1 := cell_m BK.out
      have s2 : decide ((r.length : Int) ≤ wrap64 ((t.length : Int) + 1)) = true := decide_eq_true El.out
      go_wp2_with fail
      go_ret
      exact ⟨rfl, HB.out⟩
set_option maxHeartbeats 1600000 in
set_option maxRecDepth 100000 in
theorem main01 (k : Nat) (A0 : Option Addr) (c0 : Nat) (l0 : List S29) (a m : Int) (w : World) (hC0 : Kd.C k29 w A0 l0.length l0) (hl0 : l0.length ≤ c0) (t u q r v p : List S29) (n0 : ¬ 60 < l0.length) (hpos : ¬ 0 < a) (hlow :  wrap64 (a + m) < 64) (hAl : emulsionlaw10_alive.f k = some true) (hEw : emulsionref1_Whole.f a m = some true) (hEt : law10_Tidy.f l0 = some t) (hEu : extent_Cut.f k t a m = some u) (hEq : extent_Cut.f k t 0 1 = some q) (hEr : extent_Cut.f k q 0 1 = some r) (hEp : extent_Cut.f k t (wrap64 (a + m)) (wrap64 (wrap64 (64 - a) - m)) = some p) (hEF : ∀ i : Nat, i < 64 → ∃ x b x' b', extent_Find.f k u (i : Int) = some (x, b) ∧ extent_Find.f k p (i : Int) = some (x', b') ∧ ((a ≤ (i : Int) ∧ (i : Int) < wrap64 (a + m)) → b = false) ∧ (¬ (a ≤ (i : Int) ∧ (i : Int) < wrap64 (a + m)) → b' = false)) (hEo : extent_Over.f k u p = some t) (hEs : extent_Over.f k p u = some t) (hEss : emulsionbook_SameExtents.f k t t = some true) (hEl : (r.length : Int) ≤ wrap64 ((t.length : Int) + 1)) :
    Calls Try.prog 5 #[.slice A0 l0.length c0, .agg #[.int .i64 a, .int .i64 m]] w fun e w' => e = .returned (.bool true) ∧ Below w.heap.size w w' := by
  have hu29 := Try.underlying29
  have hu34 := Try.underlying34
  have H0 := Aside0.mk (Kd.C_alloc hC0 (.cells #[.int .i64 a, .int .i64 m] 34))
  have L0 := Aside0.mk hl0
  clear hC0 hl0
  have HB := Aside0.mk (below_alloc (Below.refl w.heap.size w) (.cells #[.int .i64 a, .int .i64 m] 34))
  have Al := Aside0.mk hAl
  clear hAl
  have Ew := Aside0.mk hEw
  clear hEw
  have Et := Aside0.mk hEt
  clear hEt
  have Eu := Aside0.mk hEu
  clear hEu
  have Eq := Aside0.mk hEq
  clear hEq
  have Er := Aside0.mk hEr
  clear hEr
  have Ep := Aside0.mk hEp
  clear hEp
  have EF := Aside0.mk hEF
  clear hEF
  have Eo := Aside0.mk hEo
  clear hEo
  have Es := Aside0.mk hEs
  clear hEs
  have Ess := Aside0.mk hEss
  clear hEss
  have El := Aside0.mk hEl
  clear hEl
  have d0 : decide (0 < a) = false := decide_eq_false (by omega)
  have d1 : decide (wrap64 (a + m) < 64) = true := decide_eq_true hlow
  have d2 : a < 1 := by omega
  clear hpos hlow
  obtain ⟨gs, hgs⟩ : ∃ y, y = w.heap.size := ⟨_, rfl⟩
  have BK : Aside0 ((w.alloc (.cells #[.int .i64 a, .int .i64 m] 34)).heap[gs]? = some (.cells #[.int .i64 a, .int .i64 m] 34 (0, 0))) := ⟨hgs ▸ blk_new _ _⟩
  have p0 := cell_a BK.out
  have p1 := cell_m BK.out
  rw [hgs] at p0 p1
  go_enter Try.func5, Try.ntmps5
  have g0 : decide (60 < (l0.length : Int)) = false := decide_eq_false (by omega)
  have g1 : decide (60 < l0.length) = false := decide_eq_false (by omega)
  clear n0
  go_wp2_with fail
  rw [← hgs]
  (try rw [← hgs] at p0 p1)
  clear hgs
  refine (emulsionref1_Whole.calls a m true _ Ew.out).mono ?_
  rintro e w1 ⟨rfl, hB⟩
  have H0 := Aside0.mk (Kd.C_below H0.out hB)
  have BK := Aside0.mk (blk_below BK.out hB)
  have HB := Aside0.mk (below_step HB.out hB)
  clear hB p0 p1
  have p0 := cell_a BK.out
  have p1 := cell_m BK.out
  go_wp2_with fail
  refine (emulsionlaw10_alive.calls k true _ Al.out).mono ?_
  rintro e w2 ⟨rfl, hB⟩
  have H0 := Aside0.mk (Kd.C_below H0.out hB)
  have BK := Aside0.mk (blk_below BK.out hB)
  have HB := Aside0.mk (below_step HB.out hB)
  clear hB p0 p1
  have p0 := cell_a BK.out
  have p1 := cell_m BK.out
  go_wp2_with fail
  refine (law10_Tidy.calls A0 c0 l0 t _ H0.out L0.out Et.out).mono ?_
  rintro e w3 ⟨v_, rfl, hR, hB⟩
  obtain ⟨At, ct, rfl, hlt, hCt⟩ := Kd.R_reads hR
  clear hR
  have H0 := Aside0.mk (Kd.C_below H0.out hB)
  have BK := Aside0.mk (blk_below BK.out hB)
  have HB := Aside0.mk (below_step HB.out hB)
  clear hB p0 p1
  have p0 := cell_a BK.out
  have p1 := cell_m BK.out
  have Ht := Aside0.mk hCt
  have Lt := Aside0.mk hlt
  clear hCt hlt
  go_wp2_with fail
  refine (extent_Cut.calls k At ct t a m u _ Ht.out Lt.out Eu.out).mono ?_
  rintro e w4 ⟨v_, rfl, hR, hB⟩
  obtain ⟨Au, cu, rfl, hlu, hCu⟩ := Kd.R_reads hR
  clear hR
  have Ht := Aside0.mk (Kd.C_below Ht.out hB)
  have BK := Aside0.mk (blk_below BK.out hB)
  have HB := Aside0.mk (below_step HB.out hB)
  clear hB p0 p1
  have p0 := cell_a BK.out
  have p1 := cell_m BK.out
  have Hu := Aside0.mk hCu
  have Lu := Aside0.mk hlu
  clear hCu hlu
  go_wp2_with fail
  refine (extent_Cut.calls k At ct t 0 1 q _ Ht.out Lt.out Eq.out).mono ?_
  rintro e w5 ⟨v_, rfl, hR, hB⟩
  obtain ⟨Aq, cq, rfl, hlq, hCq⟩ := Kd.R_reads hR
  clear hR
  have Ht := Aside0.mk (Kd.C_below Ht.out hB)
  have Hu := Aside0.mk (Kd.C_below Hu.out hB)
  have BK := Aside0.mk (blk_below BK.out hB)
  have HB := Aside0.mk (below_step HB.out hB)
  clear hB p0 p1
  have p0 := cell_a BK.out
  have p1 := cell_m BK.out
  have Hq := Aside0.mk hCq
  have Lq := Aside0.mk hlq
  clear hCq hlq
  go_wp2_with fail
  refine (extent_Cut.calls k Aq cq q 0 1 r _ Hq.out Lq.out Er.out).mono ?_
  rintro e w6 ⟨v_, rfl, hR, hB⟩
  obtain ⟨Ar, cr, rfl, hlr, hCr⟩ := Kd.R_reads hR
  clear hR
  have Ht := Aside0.mk (Kd.C_below Ht.out hB)
  have Hu := Aside0.mk (Kd.C_below Hu.out hB)
  have Hq := Aside0.mk (Kd.C_below Hq.out hB)
  have BK := Aside0.mk (blk_below BK.out hB)
  have HB := Aside0.mk (below_step HB.out hB)
  clear hB p0 p1
  have p0 := cell_a BK.out
  have p1 := cell_m BK.out
  have Hr := Aside0.mk hCr
  have Lr := Aside0.mk hlr
  clear hCr hlr
  go_wp2_with fail
  refine (extent_Cut.calls k At ct t _ _ p _ Ht.out Lt.out Ep.out).mono ?_
  rintro e w7 ⟨v_, rfl, hR, hB⟩
  obtain ⟨Ap, cp, rfl, hlp, hCp⟩ := Kd.R_reads hR
  clear hR
  have Ht := Aside0.mk (Kd.C_below Ht.out hB)
  have Hu := Aside0.mk (Kd.C_below Hu.out hB)
  have Hr := Aside0.mk (Kd.C_below Hr.out hB)
  have BK := Aside0.mk (blk_below BK.out hB)
  have HB := Aside0.mk (below_step HB.out hB)
  clear hB p0 p1
  have p0 := cell_a BK.out
  have p1 := cell_m BK.out
  have Hp := Aside0.mk hCp
  have Lp := Aside0.mk hlp
  clear hCp hlp
  go_wp2_with fail
  go_loopg [9] 64 (fun kq z wq => ∃ i : Nat, i + kq = 64 ∧ z = .int .i64 (i : Int) ∧ Aside0 (Kd.C k29 wq At t.length t) ∧ Aside0 (Kd.C k29 wq Au u.length u) ∧ Aside0 (Kd.C k29 wq Ar r.length r) ∧ Aside0 (Kd.C k29 wq Ap p.length p) ∧ Aside0 (wq.heap[gs]? = some (.cells #[.int .i64 a, .int .i64 m] 34 (0, 0))) ∧ Aside0 (Below w.heap.size w wq))
  case atStart => exact ⟨0, by omega, rfl, Ht, Hu, Hr, Hp, BK, HB⟩
  case round =>
    clear BK HB p0 p1 Ht Hu Hr Hp
    obtain ⟨i, hi, rfl, Ht, Hu, Hr, Hp, BK, HB⟩ := hrel
    have p0 := cell_a BK.out
    have p1 := cell_m BK.out
    by_cases hlt : i < 64
    · obtain ⟨x, b, x', b', e1, e2, e3, e4⟩ := EF.out i hlt
      obtain ⟨kk, rfl⟩ : ∃ y, gk = y + 1 := ⟨gk - 1, by omega⟩
      have E1 := Aside0.mk e1
      have E2 := Aside0.mk e2
      clear e1 e2
      have s0 : decide ((i : Int) < 64) = true := decide_eq_true (by omega)
      have s1 : decide (i < 64) = true := decide_eq_true hlt
      have hc : (decide (a ≤ (i : Int)) = true ∧ decide ((i : Int) < wrap64 (a + m)) = true ∧ b = false) ∨ (decide (a ≤ (i : Int)) = true ∧ decide ((i : Int) < wrap64 (a + m)) = false ∧ b' = false) ∨ (decide (a ≤ (i : Int)) = false ∧ b' = false) := cuts_ways e3 e4
      clear e3 e4
      rcases hc with ⟨t0, t1, rfl⟩ | ⟨t0, t1, rfl⟩ | ⟨t0, rfl⟩
      all_goals first | cases b | cases b'
      all_goals
        go_wp2_with fail
        refine (extent_Find.calls k Au cu u (i : Int) x _ _ Hu.out Lu.out E1.out).mono ?_
        rintro e w8 ⟨rfl, hB⟩
        have Ht := Aside0.mk (Kd.C_below Ht.out hB)
        have Hu := Aside0.mk (Kd.C_below Hu.out hB)
        have Hr := Aside0.mk (Kd.C_below Hr.out hB)
        have Hp := Aside0.mk (Kd.C_below Hp.out hB)
        have BK := Aside0.mk (blk_below BK.out hB)
        have HB := Aside0.mk (below_step HB.out hB)
        clear hB p0 p1
        have p0 := cell_a BK.out
        have p1 := cell_m BK.out
        go_wp2_with fail
        refine (extent_Find.calls k Ap cp p (i : Int) x' _ _ Hp.out Lp.out E2.out).mono ?_
        rintro e w9 ⟨rfl, hB⟩
        have Ht := Aside0.mk (Kd.C_below Ht.out hB)
        have Hu := Aside0.mk (Kd.C_below Hu.out hB)
        have Hr := Aside0.mk (Kd.C_below Hr.out hB)
        have Hp := Aside0.mk (Kd.C_below Hp.out hB)
        have BK := Aside0.mk (blk_below BK.out hB)
        have HB := Aside0.mk (below_step HB.out hB)
        clear hB p0 p1
        have p0 := cell_a BK.out
        have p1 := cell_m BK.out
        go_wp2_with fail
        go_roundg kk
        case measure => omega
        case rel => exact ⟨i + 1, by omega, by go_num, Ht, Hu, Hr, Hp, BK, HB⟩
    · have s0 : decide ((i : Int) < 64) = false := decide_eq_false (by omega)
      have s1 : decide (i < 64) = false := decide_eq_false hlt
      go_wp2_with fail
      refine (extent_Over.calls k Au cu u Ap cp p t _ Hu.out Lu.out Hp.out Lp.out Eo.out).mono ?_
      rintro e w8 ⟨v_, rfl, hR, hB⟩
      obtain ⟨Ao, co, rfl, hlo, hCo⟩ := Kd.R_reads hR
      clear hR
      have Ht := Aside0.mk (Kd.C_below Ht.out hB)
      have Hu := Aside0.mk (Kd.C_below Hu.out hB)
      have Hr := Aside0.mk (Kd.C_below Hr.out hB)
      have Hp := Aside0.mk (Kd.C_below Hp.out hB)
      have BK := Aside0.mk (blk_below BK.out hB)
      have HB := Aside0.mk (below_step HB.out hB)
      clear hB p0 p1
      have p0 := cell_a BK.out
      have p1 := cell_m BK.out
      have Ho := Aside0.mk hCo
      have Lo := Aside0.mk hlo
      clear hCo hlo
      go_wp2_with fail
      refine (emulsionbook_SameExtents.calls k Ao co t At ct t true _ Ho.out Lo.out Ht.out Lt.out Ess.out).mono ?_
      rintro e w9 ⟨rfl, hD⟩
      have hB := Drawn0.below hD
      clear hD
      have Ht := Aside0.mk (Kd.C_below Ht.out hB)
      have Hu := Aside0.mk (Kd.C_below Hu.out hB)
      have Hr := Aside0.mk (Kd.C_below Hr.out hB)
      have Hp := Aside0.mk (Kd.C_below Hp.out hB)
      have Ho := Aside0.mk (Kd.C_below Ho.out hB)
      have BK := Aside0.mk (blk_below BK.out hB)
      have HB := Aside0.mk (below_step HB.out hB)
      clear hB p0 p1
      have p0 := cell_a BK.out
      have p1 := cell_m BK.out
      go_wp2_with fail
      refine (extent_Over.calls k Ap cp p Au cu u t _ Hp.out Lp.out Hu.out Lu.out Es.out).mono ?_
      rintro e w10 ⟨v_, rfl, hR, hB⟩
      obtain ⟨As, cs, rfl, hls, hCs⟩ := Kd.R_reads hR
      clear hR
      have Ht := Aside0.mk (Kd.C_below Ht.out hB)
      have Hu := Aside0.mk (Kd.C_below Hu.out hB)
      have Hr := Aside0.mk (Kd.C_below Hr.out hB)
      have Hp := Aside0.mk (Kd.C_below Hp.out hB)
      have Ho := Aside0.mk (Kd.C_below Ho.out hB)
      have BK := Aside0.mk (blk_below BK.out hB)
      have HB := Aside0.mk (below_step HB.out hB)
      clear hB p0 p1
      have p0 := cell_a BK.out
      have p1 := cell_m BK.out
      have Hs := Aside0.mk hCs
      have Ls := Aside0.mk hls
      clear hCs hls
      go_wp2_with fail
      refine (emulsionbook_SameExtents.calls k As cs t At ct t true _ Hs.out Ls.out Ht.out Lt.out Ess.out).mono ?_
      rintro e w11 ⟨rfl, hD⟩
      have hB := Drawn0.below hD
      clear hD
      have Ht := Aside0.mk (Kd.C_below Ht.out hB)
      have Hu := Aside0.mk (Kd.C_below Hu.out hB)
      have Hr := Aside0.mk (Kd.C_below Hr.out hB)
      have Hp := Aside0.mk (Kd.C_below Hp.out hB)
      have Ho := Aside0.mk (Kd.C_below Ho.out hB)
      have Hs := Aside0.mk (Kd.C_below Hs.out hB)
      have BK := Aside0.mk (blk_below BK.out hB)
      have HB := Aside0.mk (below_step HB.out hB)
      clear hB p0 p1
      have p0 := cell_a BK.out
      have p1 := cell_m BK.out
      have s2 : decide ((r.length : Int) ≤ wrap64 ((t.length : Int) + 1)) = true := decide_eq_true El.out
      go_wp2_with fail
      go_ret
      exact ⟨rfl, HB.out⟩
set_option maxHeartbeats 1600000 in
set_option maxRecDepth 100000 in
theorem main10 (k : Nat) (A0 : Option Addr) (c0 : Nat) (l0 : List S29) (a m : Int) (w : World) (hC0 : Kd.C k29 w A0 l0.length l0) (hl0 : l0.length ≤ c0) (t u q r v p : List S29) (n0 : ¬ 60 < l0.length) (hpos :  0 < a) (hlow : ¬ wrap64 (a + m) < 64) (hAl : emulsionlaw10_alive.f k = some true) (hEw : emulsionref1_Whole.f a m = some true) (hEt : law10_Tidy.f l0 = some t) (hEu : extent_Cut.f k t a m = some u) (hEq : extent_Cut.f k t 0 a = some q) (hEr : extent_Cut.f k q 0 1 = some r) (hEv : extent_Cut.f k t 0 a = some v) (hEF : ∀ i : Nat, i < 64 → ∃ x b x' b', extent_Find.f k u (i : Int) = some (x, b) ∧ extent_Find.f k v (i : Int) = some (x', b') ∧ ((a ≤ (i : Int) ∧ (i : Int) < wrap64 (a + m)) → b = false) ∧ (¬ (a ≤ (i : Int) ∧ (i : Int) < wrap64 (a + m)) → b' = false)) (hEo : extent_Over.f k u v = some t) (hEs : extent_Over.f k v u = some t) (hEss : emulsionbook_SameExtents.f k t t = some true) (hEl : (r.length : Int) ≤ wrap64 ((t.length : Int) + 1)) :
    Calls Try.prog 5 #[.slice A0 l0.length c0, .agg #[.int .i64 a, .int .i64 m]] w fun e w' => e = .returned (.bool true) ∧ Below w.heap.size w w' := by
  have hu29 := Try.underlying29
  have hu34 := Try.underlying34
  have H0 := Aside0.mk (Kd.C_alloc hC0 (.cells #[.int .i64 a, .int .i64 m] 34))
  have L0 := Aside0.mk hl0
  clear hC0 hl0
  have HB := Aside0.mk (below_alloc (Below.refl w.heap.size w) (.cells #[.int .i64 a, .int .i64 m] 34))
  have Al := Aside0.mk hAl
  clear hAl
  have Ew := Aside0.mk hEw
  clear hEw
  have Et := Aside0.mk hEt
  clear hEt
  have Eu := Aside0.mk hEu
  clear hEu
  have Eq := Aside0.mk hEq
  clear hEq
  have Er := Aside0.mk hEr
  clear hEr
  have Ev := Aside0.mk hEv
  clear hEv
  have EF := Aside0.mk hEF
  clear hEF
  have Eo := Aside0.mk hEo
  clear hEo
  have Es := Aside0.mk hEs
  clear hEs
  have Ess := Aside0.mk hEss
  clear hEss
  have El := Aside0.mk hEl
  clear hEl
  have d0 : decide (0 < a) = true := decide_eq_true (by omega)
  have d1 : decide (wrap64 (a + m) < 64) = false := decide_eq_false hlow
  have d2 : ¬ a < 1 := by omega
  clear hpos hlow
  obtain ⟨gs, hgs⟩ : ∃ y, y = w.heap.size := ⟨_, rfl⟩
  have BK : Aside0 ((w.alloc (.cells #[.int .i64 a, .int .i64 m] 34)).heap[gs]? = some (.cells #[.int .i64 a, .int .i64 m] 34 (0, 0))) := ⟨hgs ▸ blk_new _ _⟩
  have p0 := cell_a BK.out
  have p1 := cell_m BK.out
  rw [hgs] at p0 p1
  go_enter Try.func5, Try.ntmps5
  have g0 : decide (60 < (l0.length : Int)) = false := decide_eq_false (by omega)
  have g1 : decide (60 < l0.length) = false := decide_eq_false (by omega)
  clear n0
  go_wp2_with fail
  rw [← hgs]
  (try rw [← hgs] at p0 p1)
  clear hgs
  refine (emulsionref1_Whole.calls a m true _ Ew.out).mono ?_
  rintro e w1 ⟨rfl, hB⟩
  have H0 := Aside0.mk (Kd.C_below H0.out hB)
  have BK := Aside0.mk (blk_below BK.out hB)
  have HB := Aside0.mk (below_step HB.out hB)
  clear hB p0 p1
  have p0 := cell_a BK.out
  have p1 := cell_m BK.out
  go_wp2_with fail
  refine (emulsionlaw10_alive.calls k true _ Al.out).mono ?_
  rintro e w2 ⟨rfl, hB⟩
  have H0 := Aside0.mk (Kd.C_below H0.out hB)
  have BK := Aside0.mk (blk_below BK.out hB)
  have HB := Aside0.mk (below_step HB.out hB)
  clear hB p0 p1
  have p0 := cell_a BK.out
  have p1 := cell_m BK.out
  go_wp2_with fail
  refine (law10_Tidy.calls A0 c0 l0 t _ H0.out L0.out Et.out).mono ?_
  rintro e w3 ⟨v_, rfl, hR, hB⟩
  obtain ⟨At, ct, rfl, hlt, hCt⟩ := Kd.R_reads hR
  clear hR
  have H0 := Aside0.mk (Kd.C_below H0.out hB)
  have BK := Aside0.mk (blk_below BK.out hB)
  have HB := Aside0.mk (below_step HB.out hB)
  clear hB p0 p1
  have p0 := cell_a BK.out
  have p1 := cell_m BK.out
  have Ht := Aside0.mk hCt
  have Lt := Aside0.mk hlt
  clear hCt hlt
  go_wp2_with fail
  refine (extent_Cut.calls k At ct t a m u _ Ht.out Lt.out Eu.out).mono ?_
  rintro e w4 ⟨v_, rfl, hR, hB⟩
  obtain ⟨Au, cu, rfl, hlu, hCu⟩ := Kd.R_reads hR
  clear hR
  have Ht := Aside0.mk (Kd.C_below Ht.out hB)
  have BK := Aside0.mk (blk_below BK.out hB)
  have HB := Aside0.mk (below_step HB.out hB)
  clear hB p0 p1
  have p0 := cell_a BK.out
  have p1 := cell_m BK.out
  have Hu := Aside0.mk hCu
  have Lu := Aside0.mk hlu
  clear hCu hlu
  go_wp2_with fail
  refine (extent_Cut.calls k At ct t 0 a q _ Ht.out Lt.out Eq.out).mono ?_
  rintro e w5 ⟨v_, rfl, hR, hB⟩
  obtain ⟨Aq, cq, rfl, hlq, hCq⟩ := Kd.R_reads hR
  clear hR
  have Ht := Aside0.mk (Kd.C_below Ht.out hB)
  have Hu := Aside0.mk (Kd.C_below Hu.out hB)
  have BK := Aside0.mk (blk_below BK.out hB)
  have HB := Aside0.mk (below_step HB.out hB)
  clear hB p0 p1
  have p0 := cell_a BK.out
  have p1 := cell_m BK.out
  have Hq := Aside0.mk hCq
  have Lq := Aside0.mk hlq
  clear hCq hlq
  go_wp2_with fail
  refine (extent_Cut.calls k Aq cq q 0 1 r _ Hq.out Lq.out Er.out).mono ?_
  rintro e w6 ⟨v_, rfl, hR, hB⟩
  obtain ⟨Ar, cr, rfl, hlr, hCr⟩ := Kd.R_reads hR
  clear hR
  have Ht := Aside0.mk (Kd.C_below Ht.out hB)
  have Hu := Aside0.mk (Kd.C_below Hu.out hB)
  have Hq := Aside0.mk (Kd.C_below Hq.out hB)
  have BK := Aside0.mk (blk_below BK.out hB)
  have HB := Aside0.mk (below_step HB.out hB)
  clear hB p0 p1
  have p0 := cell_a BK.out
  have p1 := cell_m BK.out
  have Hr := Aside0.mk hCr
  have Lr := Aside0.mk hlr
  clear hCr hlr
  go_wp2_with fail
  refine (extent_Cut.calls k At ct t 0 a v _ Ht.out Lt.out Ev.out).mono ?_
  rintro e w7 ⟨v_, rfl, hR, hB⟩
  obtain ⟨Av, cv, rfl, hlv, hCv⟩ := Kd.R_reads hR
  clear hR
  have Ht := Aside0.mk (Kd.C_below Ht.out hB)
  have Hu := Aside0.mk (Kd.C_below Hu.out hB)
  have Hr := Aside0.mk (Kd.C_below Hr.out hB)
  have BK := Aside0.mk (blk_below BK.out hB)
  have HB := Aside0.mk (below_step HB.out hB)
  clear hB p0 p1
  have p0 := cell_a BK.out
  have p1 := cell_m BK.out
  have Hv := Aside0.mk hCv
  have Lv := Aside0.mk hlv
  clear hCv hlv
  go_wp2_with fail
  go_loopg [9] 64 (fun kq z wq => ∃ i : Nat, i + kq = 64 ∧ z = .int .i64 (i : Int) ∧ Aside0 (Kd.C k29 wq At t.length t) ∧ Aside0 (Kd.C k29 wq Au u.length u) ∧ Aside0 (Kd.C k29 wq Ar r.length r) ∧ Aside0 (Kd.C k29 wq Av v.length v) ∧ Aside0 (wq.heap[gs]? = some (.cells #[.int .i64 a, .int .i64 m] 34 (0, 0))) ∧ Aside0 (Below w.heap.size w wq))
  case atStart => exact ⟨0, by omega, rfl, Ht, Hu, Hr, Hv, BK, HB⟩
  case round =>
    clear BK HB p0 p1 Ht Hu Hr Hv
    obtain ⟨i, hi, rfl, Ht, Hu, Hr, Hv, BK, HB⟩ := hrel
    have p0 := cell_a BK.out
    have p1 := cell_m BK.out
    by_cases hlt : i < 64
    · obtain ⟨x, b, x', b', e1, e2, e3, e4⟩ := EF.out i hlt
      obtain ⟨kk, rfl⟩ : ∃ y, gk = y + 1 := ⟨gk - 1, by omega⟩
      have E1 := Aside0.mk e1
      have E2 := Aside0.mk e2
      clear e1 e2
      have s0 : decide ((i : Int) < 64) = true := decide_eq_true (by omega)
      have s1 : decide (i < 64) = true := decide_eq_true hlt
      have hc : (decide (a ≤ (i : Int)) = true ∧ decide ((i : Int) < wrap64 (a + m)) = true ∧ b = false) ∨ (decide (a ≤ (i : Int)) = true ∧ decide ((i : Int) < wrap64 (a + m)) = false ∧ b' = false) ∨ (decide (a ≤ (i : Int)) = false ∧ b' = false) := cuts_ways e3 e4
      clear e3 e4
      rcases hc with ⟨t0, t1, rfl⟩ | ⟨t0, t1, rfl⟩ | ⟨t0, rfl⟩
      all_goals first | cases b | cases b'
      all_goals
        go_wp2_with fail
        refine (extent_Find.calls k Au cu u (i : Int) x _ _ Hu.out Lu.out E1.out).mono ?_
        rintro e w8 ⟨rfl, hB⟩
        have Ht := Aside0.mk (Kd.C_below Ht.out hB)
        have Hu := Aside0.mk (Kd.C_below Hu.out hB)
        have Hr := Aside0.mk (Kd.C_below Hr.out hB)
        have Hv := Aside0.mk (Kd.C_below Hv.out hB)
        have BK := Aside0.mk (blk_below BK.out hB)
        have HB := Aside0.mk (below_step HB.out hB)
        clear hB p0 p1
        have p0 := cell_a BK.out
        have p1 := cell_m BK.out
        go_wp2_with fail
        refine (extent_Find.calls k Av cv v (i : Int) x' _ _ Hv.out Lv.out E2.out).mono ?_
        rintro e w9 ⟨rfl, hB⟩
        have Ht := Aside0.mk (Kd.C_below Ht.out hB)
        have Hu := Aside0.mk (Kd.C_below Hu.out hB)
        have Hr := Aside0.mk (Kd.C_below Hr.out hB)
        have Hv := Aside0.mk (Kd.C_below Hv.out hB)
        have BK := Aside0.mk (blk_below BK.out hB)
        have HB := Aside0.mk (below_step HB.out hB)
        clear hB p0 p1
        have p0 := cell_a BK.out
        have p1 := cell_m BK.out
        go_wp2_with fail
        go_roundg kk
        case measure => omega
        case rel => exact ⟨i + 1, by omega, by go_num, Ht, Hu, Hr, Hv, BK, HB⟩
    · have s0 : decide ((i : Int) < 64) = false := decide_eq_false (by omega)
      have s1 : decide (i < 64) = false := decide_eq_false hlt
      go_wp2_with fail
      refine (extent_Over.calls k Au cu u Av cv v t _ Hu.out Lu.out Hv.out Lv.out Eo.out).mono ?_
      rintro e w8 ⟨v_, rfl, hR, hB⟩
      obtain ⟨Ao, co, rfl, hlo, hCo⟩ := Kd.R_reads hR
      clear hR
      have Ht := Aside0.mk (Kd.C_below Ht.out hB)
      have Hu := Aside0.mk (Kd.C_below Hu.out hB)
      have Hr := Aside0.mk (Kd.C_below Hr.out hB)
      have Hv := Aside0.mk (Kd.C_below Hv.out hB)
      have BK := Aside0.mk (blk_below BK.out hB)
      have HB := Aside0.mk (below_step HB.out hB)
      clear hB p0 p1
      have p0 := cell_a BK.out
      have p1 := cell_m BK.out
      have Ho := Aside0.mk hCo
      have Lo := Aside0.mk hlo
      clear hCo hlo
      go_wp2_with fail
      refine (emulsionbook_SameExtents.calls k Ao co t At ct t true _ Ho.out Lo.out Ht.out Lt.out Ess.out).mono ?_
      rintro e w9 ⟨rfl, hD⟩
      have hB := Drawn0.below hD
      clear hD
      have Ht := Aside0.mk (Kd.C_below Ht.out hB)
      have Hu := Aside0.mk (Kd.C_below Hu.out hB)
      have Hr := Aside0.mk (Kd.C_below Hr.out hB)
      have Hv := Aside0.mk (Kd.C_below Hv.out hB)
      have Ho := Aside0.mk (Kd.C_below Ho.out hB)
      have BK := Aside0.mk (blk_below BK.out hB)
      have HB := Aside0.mk (below_step HB.out hB)
      clear hB p0 p1
      have p0 := cell_a BK.out
      have p1 := cell_m BK.out
      go_wp2_with fail
      refine (extent_Over.calls k Av cv v Au cu u t _ Hv.out Lv.out Hu.out Lu.out Es.out).mono ?_
      rintro e w10 ⟨v_, rfl, hR, hB⟩
      obtain ⟨As, cs, rfl, hls, hCs⟩ := Kd.R_reads hR
      clear hR
      have Ht := Aside0.mk (Kd.C_below Ht.out hB)
      have Hu := Aside0.mk (Kd.C_below Hu.out hB)
      have Hr := Aside0.mk (Kd.C_below Hr.out hB)
      have Hv := Aside0.mk (Kd.C_below Hv.out hB)
      have Ho := Aside0.mk (Kd.C_below Ho.out hB)
      have BK := Aside0.mk (blk_below BK.out hB)
      have HB := Aside0.mk (below_step HB.out hB)
      clear hB p0 p1
      have p0 := cell_a BK.out
      have p1 := cell_m BK.out
      have Hs := Aside0.mk hCs
      have Ls := Aside0.mk hls
      clear hCs hls
      go_wp2_with fail
      refine (emulsionbook_SameExtents.calls k As cs t At ct t true _ Hs.out Ls.out Ht.out Lt.out Ess.out).mono ?_
      rintro e w11 ⟨rfl, hD⟩
      have hB := Drawn0.below hD
      clear hD
      have Ht := Aside0.mk (Kd.C_below Ht.out hB)
      have Hu := Aside0.mk (Kd.C_below Hu.out hB)
      have Hr := Aside0.mk (Kd.C_below Hr.out hB)
      have Hv := Aside0.mk (Kd.C_below Hv.out hB)
      have Ho := Aside0.mk (Kd.C_below Ho.out hB)
      have Hs := Aside0.mk (Kd.C_below Hs.out hB)
      have BK := Aside0.mk (blk_below BK.out hB)
      have HB := Aside0.mk (below_step HB.out hB)
      clear hB p0 p1
      have p0 := cell_a BK.out
      have p1 := cell_m BK.out
      have s2 : decide ((r.length : Int) ≤ wrap64 ((t.length : Int) + 1)) = true := decide_eq_true El.out
      go_wp2_with fail
      go_ret
      exact ⟨rfl, HB.out⟩
set_option maxHeartbeats 1600000 in
set_option maxRecDepth 100000 in
theorem main11 (k : Nat) (A0 : Option Addr) (c0 : Nat) (l0 : List S29) (a m : Int) (w : World) (hC0 : Kd.C k29 w A0 l0.length l0) (hl0 : l0.length ≤ c0) (t u q r v p : List S29) (n0 : ¬ 60 < l0.length) (hpos :  0 < a) (hlow :  wrap64 (a + m) < 64) (hAl : emulsionlaw10_alive.f k = some true) (hEw : emulsionref1_Whole.f a m = some true) (hEt : law10_Tidy.f l0 = some t) (hEu : extent_Cut.f k t a m = some u) (hEq : extent_Cut.f k t 0 a = some q) (hEr : extent_Cut.f k q 0 1 = some r) (hEv : extent_Cut.f k t 0 a = some v) (hEp : extent_Cut.f k v (wrap64 (a + m)) (wrap64 (wrap64 (64 - a) - m)) = some p) (hEF : ∀ i : Nat, i < 64 → ∃ x b x' b', extent_Find.f k u (i : Int) = some (x, b) ∧ extent_Find.f k p (i : Int) = some (x', b') ∧ ((a ≤ (i : Int) ∧ (i : Int) < wrap64 (a + m)) → b = false) ∧ (¬ (a ≤ (i : Int) ∧ (i : Int) < wrap64 (a + m)) → b' = false)) (hEo : extent_Over.f k u p = some t) (hEs : extent_Over.f k p u = some t) (hEss : emulsionbook_SameExtents.f k t t = some true) (hEl : (r.length : Int) ≤ wrap64 ((t.length : Int) + 1)) :
    Calls Try.prog 5 #[.slice A0 l0.length c0, .agg #[.int .i64 a, .int .i64 m]] w fun e w' => e = .returned (.bool true) ∧ Below w.heap.size w w' := by
  have hu29 := Try.underlying29
  have hu34 := Try.underlying34
  have H0 := Aside0.mk (Kd.C_alloc hC0 (.cells #[.int .i64 a, .int .i64 m] 34))
  have L0 := Aside0.mk hl0
  clear hC0 hl0
  have HB := Aside0.mk (below_alloc (Below.refl w.heap.size w) (.cells #[.int .i64 a, .int .i64 m] 34))
  have Al := Aside0.mk hAl
  clear hAl
  have Ew := Aside0.mk hEw
  clear hEw
  have Et := Aside0.mk hEt
  clear hEt
  have Eu := Aside0.mk hEu
  clear hEu
  have Eq := Aside0.mk hEq
  clear hEq
  have Er := Aside0.mk hEr
  clear hEr
  have Ev := Aside0.mk hEv
  clear hEv
  have Ep := Aside0.mk hEp
  clear hEp
  have EF := Aside0.mk hEF
  clear hEF
  have Eo := Aside0.mk hEo
  clear hEo
  have Es := Aside0.mk hEs
  clear hEs
  have Ess := Aside0.mk hEss
  clear hEss
  have El := Aside0.mk hEl
  clear hEl
  have d0 : decide (0 < a) = true := decide_eq_true (by omega)
  have d1 : decide (wrap64 (a + m) < 64) = true := decide_eq_true hlow
  have d2 : ¬ a < 1 := by omega
  clear hpos hlow
  obtain ⟨gs, hgs⟩ : ∃ y, y = w.heap.size := ⟨_, rfl⟩
  have BK : Aside0 ((w.alloc (.cells #[.int .i64 a, .int .i64 m] 34)).heap[gs]? = some (.cells #[.int .i64 a, .int .i64 m] 34 (0, 0))) := ⟨hgs ▸ blk_new _ _⟩
  have p0 := cell_a BK.out
  have p1 := cell_m BK.out
  rw [hgs] at p0 p1
  go_enter Try.func5, Try.ntmps5
  have g0 : decide (60 < (l0.length : Int)) = false := decide_eq_false (by omega)
  have g1 : decide (60 < l0.length) = false := decide_eq_false (by omega)
  clear n0
  go_wp2_with fail
  rw [← hgs]
  (try rw [← hgs] at p0 p1)
  clear hgs
  refine (emulsionref1_Whole.calls a m true _ Ew.out).mono ?_
  rintro e w1 ⟨rfl, hB⟩
  have H0 := Aside0.mk (Kd.C_below H0.out hB)
  have BK := Aside0.mk (blk_below BK.out hB)
  have HB := Aside0.mk (below_step HB.out hB)
  clear hB p0 p1
  have p0 := cell_a BK.out
  have p1 := cell_m BK.out
  go_wp2_with fail
  refine (emulsionlaw10_alive.calls k true _ Al.out).mono ?_
  rintro e w2 ⟨rfl, hB⟩
  have H0 := Aside0.mk (Kd.C_below H0.out hB)
  have BK := Aside0.mk (blk_below BK.out hB)
  have HB := Aside0.mk (below_step HB.out hB)
  clear hB p0 p1
  have p0 := cell_a BK.out
  have p1 := cell_m BK.out
  go_wp2_with fail
  refine (law10_Tidy.calls A0 c0 l0 t _ H0.out L0.out Et.out).mono ?_
  rintro e w3 ⟨v_, rfl, hR, hB⟩
  obtain ⟨At, ct, rfl, hlt, hCt⟩ := Kd.R_reads hR
  clear hR
  have H0 := Aside0.mk (Kd.C_below H0.out hB)
  have BK := Aside0.mk (blk_below BK.out hB)
  have HB := Aside0.mk (below_step HB.out hB)
  clear hB p0 p1
  have p0 := cell_a BK.out
  have p1 := cell_m BK.out
  have Ht := Aside0.mk hCt
  have Lt := Aside0.mk hlt
  clear hCt hlt
  go_wp2_with fail
  refine (extent_Cut.calls k At ct t a m u _ Ht.out Lt.out Eu.out).mono ?_
  rintro e w4 ⟨v_, rfl, hR, hB⟩
  obtain ⟨Au, cu, rfl, hlu, hCu⟩ := Kd.R_reads hR
  clear hR
  have Ht := Aside0.mk (Kd.C_below Ht.out hB)
  have BK := Aside0.mk (blk_below BK.out hB)
  have HB := Aside0.mk (below_step HB.out hB)
  clear hB p0 p1
  have p0 := cell_a BK.out
  have p1 := cell_m BK.out
  have Hu := Aside0.mk hCu
  have Lu := Aside0.mk hlu
  clear hCu hlu
  go_wp2_with fail
  refine (extent_Cut.calls k At ct t 0 a q _ Ht.out Lt.out Eq.out).mono ?_
  rintro e w5 ⟨v_, rfl, hR, hB⟩
  obtain ⟨Aq, cq, rfl, hlq, hCq⟩ := Kd.R_reads hR
  clear hR
  have Ht := Aside0.mk (Kd.C_below Ht.out hB)
  have Hu := Aside0.mk (Kd.C_below Hu.out hB)
  have BK := Aside0.mk (blk_below BK.out hB)
  have HB := Aside0.mk (below_step HB.out hB)
  clear hB p0 p1
  have p0 := cell_a BK.out
  have p1 := cell_m BK.out
  have Hq := Aside0.mk hCq
  have Lq := Aside0.mk hlq
  clear hCq hlq
  go_wp2_with fail
  refine (extent_Cut.calls k Aq cq q 0 1 r _ Hq.out Lq.out Er.out).mono ?_
  rintro e w6 ⟨v_, rfl, hR, hB⟩
  obtain ⟨Ar, cr, rfl, hlr, hCr⟩ := Kd.R_reads hR
  clear hR
  have Ht := Aside0.mk (Kd.C_below Ht.out hB)
  have Hu := Aside0.mk (Kd.C_below Hu.out hB)
  have Hq := Aside0.mk (Kd.C_below Hq.out hB)
  have BK := Aside0.mk (blk_below BK.out hB)
  have HB := Aside0.mk (below_step HB.out hB)
  clear hB p0 p1
  have p0 := cell_a BK.out
  have p1 := cell_m BK.out
  have Hr := Aside0.mk hCr
  have Lr := Aside0.mk hlr
  clear hCr hlr
  go_wp2_with fail
  refine (extent_Cut.calls k At ct t 0 a v _ Ht.out Lt.out Ev.out).mono ?_
  rintro e w7 ⟨v_, rfl, hR, hB⟩
  obtain ⟨Av, cv, rfl, hlv, hCv⟩ := Kd.R_reads hR
  clear hR
  have Ht := Aside0.mk (Kd.C_below Ht.out hB)
  have Hu := Aside0.mk (Kd.C_below Hu.out hB)
  have Hr := Aside0.mk (Kd.C_below Hr.out hB)
  have BK := Aside0.mk (blk_below BK.out hB)
  have HB := Aside0.mk (below_step HB.out hB)
  clear hB p0 p1
  have p0 := cell_a BK.out
  have p1 := cell_m BK.out
  have Hv := Aside0.mk hCv
  have Lv := Aside0.mk hlv
  clear hCv hlv
  go_wp2_with fail
  refine (extent_Cut.calls k Av cv v _ _ p _ Hv.out Lv.out Ep.out).mono ?_
  rintro e w8 ⟨v_, rfl, hR, hB⟩
  obtain ⟨Ap, cp, rfl, hlp, hCp⟩ := Kd.R_reads hR
  clear hR
  have Ht := Aside0.mk (Kd.C_below Ht.out hB)
  have Hu := Aside0.mk (Kd.C_below Hu.out hB)
  have Hr := Aside0.mk (Kd.C_below Hr.out hB)
  have Hv := Aside0.mk (Kd.C_below Hv.out hB)
  have BK := Aside0.mk (blk_below BK.out hB)
  have HB := Aside0.mk (below_step HB.out hB)
  clear hB p0 p1
  have p0 := cell_a BK.out
  have p1 := cell_m BK.out
  have Hp := Aside0.mk hCp
  have Lp := Aside0.mk hlp
  clear hCp hlp
  go_wp2_with fail
  go_loopg [9] 64 (fun kq z wq => ∃ i : Nat, i + kq = 64 ∧ z = .int .i64 (i : Int) ∧ Aside0 (Kd.C k29 wq At t.length t) ∧ Aside0 (Kd.C k29 wq Au u.length u) ∧ Aside0 (Kd.C k29 wq Ar r.length r) ∧ Aside0 (Kd.C k29 wq Ap p.length p) ∧ Aside0 (wq.heap[gs]? = some (.cells #[.int .i64 a, .int .i64 m] 34 (0, 0))) ∧ Aside0 (Below w.heap.size w wq))
  case atStart => exact ⟨0, by omega, rfl, Ht, Hu, Hr, Hp, BK, HB⟩
  case round =>
    clear BK HB p0 p1 Ht Hu Hr Hp
    obtain ⟨i, hi, rfl, Ht, Hu, Hr, Hp, BK, HB⟩ := hrel
    have p0 := cell_a BK.out
    have p1 := cell_m BK.out
    by_cases hlt : i < 64
    · obtain ⟨x, b, x', b', e1, e2, e3, e4⟩ := EF.out i hlt
      obtain ⟨kk, rfl⟩ : ∃ y, gk = y + 1 := ⟨gk - 1, by omega⟩
      have E1 := Aside0.mk e1
      have E2 := Aside0.mk e2
      clear e1 e2
      have s0 : decide ((i : Int) < 64) = true := decide_eq_true (by omega)
      have s1 : decide (i < 64) = true := decide_eq_true hlt
      have hc : (decide (a ≤ (i : Int)) = true ∧ decide ((i : Int) < wrap64 (a + m)) = true ∧ b = false) ∨ (decide (a ≤ (i : Int)) = true ∧ decide ((i : Int) < wrap64 (a + m)) = false ∧ b' = false) ∨ (decide (a ≤ (i : Int)) = false ∧ b' = false) := cuts_ways e3 e4
      clear e3 e4
      rcases hc with ⟨t0, t1, rfl⟩ | ⟨t0, t1, rfl⟩ | ⟨t0, rfl⟩
      all_goals first | cases b | cases b'
      all_goals
        go_wp2_with fail
        refine (extent_Find.calls k Au cu u (i : Int) x _ _ Hu.out Lu.out E1.out).mono ?_
        rintro e w9 ⟨rfl, hB⟩
        have Ht := Aside0.mk (Kd.C_below Ht.out hB)
        have Hu := Aside0.mk (Kd.C_below Hu.out hB)
        have Hr := Aside0.mk (Kd.C_below Hr.out hB)
        have Hp := Aside0.mk (Kd.C_below Hp.out hB)
        have BK := Aside0.mk (blk_below BK.out hB)
        have HB := Aside0.mk (below_step HB.out hB)
        clear hB p0 p1
        have p0 := cell_a BK.out
        have p1 := cell_m BK.out
        go_wp2_with fail
        refine (extent_Find.calls k Ap cp p (i : Int) x' _ _ Hp.out Lp.out E2.out).mono ?_
        rintro e w10 ⟨rfl, hB⟩
        have Ht := Aside0.mk (Kd.C_below Ht.out hB)
        have Hu := Aside0.mk (Kd.C_below Hu.out hB)
        have Hr := Aside0.mk (Kd.C_below Hr.out hB)
        have Hp := Aside0.mk (Kd.C_below Hp.out hB)
        have BK := Aside0.mk (blk_below BK.out hB)
        have HB := Aside0.mk (below_step HB.out hB)
        clear hB p0 p1
        have p0 := cell_a BK.out
        have p1 := cell_m BK.out
        go_wp2_with fail
        go_roundg kk
        case measure => omega
        case rel => exact ⟨i + 1, by omega, by go_num, Ht, Hu, Hr, Hp, BK, HB⟩
    · have s0 : decide ((i : Int) < 64) = false := decide_eq_false (by omega)
      have s1 : decide (i < 64) = false := decide_eq_false hlt
      go_wp2_with fail
      refine (extent_Over.calls k Au cu u Ap cp p t _ Hu.out Lu.out Hp.out Lp.out Eo.out).mono ?_
      rintro e w9 ⟨v_, rfl, hR, hB⟩
      obtain ⟨Ao, co, rfl, hlo, hCo⟩ := Kd.R_reads hR
      clear hR
      have Ht := Aside0.mk (Kd.C_below Ht.out hB)
      have Hu := Aside0.mk (Kd.C_below Hu.out hB)
      have Hr := Aside0.mk (Kd.C_below Hr.out hB)
      have Hp := Aside0.mk (Kd.C_below Hp.out hB)
      have BK := Aside0.mk (blk_below BK.out hB)
      have HB := Aside0.mk (below_step HB.out hB)
      clear hB p0 p1
      have p0 := cell_a BK.out
      have p1 := cell_m BK.out
      have Ho := Aside0.mk hCo
      have Lo := Aside0.mk hlo
      clear hCo hlo
      go_wp2_with fail
      refine (emulsionbook_SameExtents.calls k Ao co t At ct t true _ Ho.out Lo.out Ht.out Lt.out Ess.out).mono ?_
      rintro e w10 ⟨rfl, hD⟩
      have hB := Drawn0.below hD
      clear hD
      have Ht := Aside0.mk (Kd.C_below Ht.out hB)
      have Hu := Aside0.mk (Kd.C_below Hu.out hB)
      have Hr := Aside0.mk (Kd.C_below Hr.out hB)
      have Hp := Aside0.mk (Kd.C_below Hp.out hB)
      have Ho := Aside0.mk (Kd.C_below Ho.out hB)
      have BK := Aside0.mk (blk_below BK.out hB)
      have HB := Aside0.mk (below_step HB.out hB)
      clear hB p0 p1
      have p0 := cell_a BK.out
      have p1 := cell_m BK.out
      go_wp2_with fail
      refine (extent_Over.calls k Ap cp p Au cu u t _ Hp.out Lp.out Hu.out Lu.out Es.out).mono ?_
      rintro e w11 ⟨v_, rfl, hR, hB⟩
      obtain ⟨As, cs, rfl, hls, hCs⟩ := Kd.R_reads hR
      clear hR
      have Ht := Aside0.mk (Kd.C_below Ht.out hB)
      have Hu := Aside0.mk (Kd.C_below Hu.out hB)
      have Hr := Aside0.mk (Kd.C_below Hr.out hB)
      have Hp := Aside0.mk (Kd.C_below Hp.out hB)
      have Ho := Aside0.mk (Kd.C_below Ho.out hB)
      have BK := Aside0.mk (blk_below BK.out hB)
      have HB := Aside0.mk (below_step HB.out hB)
      clear hB p0 p1
      have p0 := cell_a BK.out
      have p1 := cell_m BK.out
      have Hs := Aside0.mk hCs
      have Ls := Aside0.mk hls
      clear hCs hls
      go_wp2_with fail
      refine (emulsionbook_SameExtents.calls k As cs t At ct t true _ Hs.out Ls.out Ht.out Lt.out Ess.out).mono ?_
      rintro e w12 ⟨rfl, hD⟩
      have hB := Drawn0.below hD
      clear hD
      have Ht := Aside0.mk (Kd.C_below Ht.out hB)
      have Hu := Aside0.mk (Kd.C_below Hu.out hB)
      have Hr := Aside0.mk (Kd.C_below Hr.out hB)
      have Hp := Aside0.mk (Kd.C_below Hp.out hB)
      have Ho := Aside0.mk (Kd.C_below Ho.out hB)
      have Hs := Aside0.mk (Kd.C_below Hs.out hB)
      have BK := Aside0.mk (blk_below BK.out hB)
      have HB := Aside0.mk (below_step HB.out hB)
      clear hB p0 p1
      have p0 := cell_a BK.out
      have p1 := cell_m BK.out
      have s2 : decide ((r.length : Int) ≤ wrap64 ((t.length : Int) + 1)) = true := decide_eq_true El.out
      go_wp2_with fail
      go_ret
      exact ⟨rfl, HB.out⟩
theorem whole_eq (a n : Int) : emulsionref1_Whole.f a n = some (decide (wh a n)) := by
  unfold emulsionref1_Whole.f wh
  repeat' split
  all_goals first
    | (rw [w_id (by omega) (by omega)]; congr 1; rw [decide_eq_decide]; omega)
    | (rw [decide_eq_false (by omega)])
theorem overR {m u p : List Int} {c : Nat → Prop} [DecidablePred c] (hm : okM m) (hu : ∀ i, i < 64 → u.getD i 0 = if c i then -1 else m.getD i 0) (hp : ∀ i, i < 64 → p.getD i 0 = if c i then m.getD i 0 else -1) : overM u p = m ∧ overM p u = m := by
  refine ⟨map_ext (mk_length _) hm.1 fun i hi => ?_, map_ext (mk_length _) hm.1 fun i hi => ?_⟩
  all_goals
    rw [overM_get _ _ i hi, hu i hi, hp i hi]
    have h2 := hm.2 i
    by_cases h : c i
    · simp only [if_pos h]; split <;> omega
    · simp only [if_neg h]; split <;> omega
theorem finds {m u p : List Int} (a n : Int) (hwh : wh a n) (hu : okM u) (hp : okM p) (gu : ∀ i : Nat, i < 64 → u.getD i 0 = if a ≤ (i : Int) ∧ (i : Int) < a + n then -1 else m.getD i 0) (gp : ∀ i : Nat, i < 64 → p.getD i 0 = if a ≤ (i : Int) ∧ (i : Int) < a + n then m.getD i 0 else -1) (i : Nat) (hi : i < 64) :
    ∃ x b x' b', extent_Find.f 2300 (exM u) (i : Int) = some (x, b) ∧ extent_Find.f 2300 (exM p) (i : Int) = some (x', b') ∧ ((a ≤ (i : Int) ∧ (i : Int) < wrap64 (a + n)) → b = false) ∧ (¬ (a ≤ (i : Int) ∧ (i : Int) < wrap64 (a + n)) → b' = false) := by
  refine ⟨(findM u (i : Int)).1, (findM u (i : Int)).2, (findM p (i : Int)).1, (findM p (i : Int)).2, Find_map hu _ _ (by omega), Find_map hp _ _ (by omega), fun h => ?_, fun h => ?_⟩
  all_goals
    unfold wh at hwh
    rw [w_id (by omega) (by omega)] at h
    rw [find_at _ i hi]
  · rw [gu i hi, if_pos h, if_neg (by omega)]
  · rw [gp i hi, if_neg h, if_neg (by omega)]
theorem walk (A0 : Option Addr) (c0 : Nat) (l0 : List S29) (a n : Int) (w : World) (hc0 : l0.length ≤ c0) (hC0 : Kd.C k29 w A0 l0.length l0) (_ : (Lit.int .i64 a).wf = true) (_ : (Lit.int .i64 n).wf = true) :
    Calls Try.prog 5 #[.slice A0 l0.length c0, .agg #[.int .i64 a, .int .i64 n]] w fun e w' => e = .returned (.bool true) ∧ Below w.heap.size w w' := by
  have Al := alive_eq 2300 (by omega)
  by_cases h0 : 60 < l0.length
  · exact big 2300 A0 c0 l0 a n w hC0 hc0 h0 Al
  have hW := whole_eq a n
  by_cases hw : ¬ wh a n
  · rw [decide_eq_false hw] at hW
    exact nowhole 2300 A0 c0 l0 a n w hC0 hc0 h0 Al hW
  replace hw := Decidable.of_not_not hw
  rw [decide_eq_true hw] at hW
  have hw' := hw
  obtain ⟨w1, w2, w3⟩ := hw'
  have o0 := okM.of l0
  have eU := Cut_map o0 a n 2300 (by omega)
  have oU := cutM_ok o0 a n
  have gU : ∀ i : Nat, i < 64 → (cutM (ofM l0) a n).getD i 0 = if a ≤ (i : Int) ∧ (i : Int) < a + n then -1 else (ofM l0).getD i 0 := fun i hi => by
    rw [cutM_get _ _ _ i hi]
    unfold wh
    by_cases h : a ≤ (i : Int) ∧ (i : Int) < a + n
    · rw [if_pos h, if_pos (by omega)]
    · rw [if_neg h, if_neg (by omega)]
  have eW : wrap64 (a + n) = a + n := w_id (by omega) (by omega)
  have eX : wrap64 (wrap64 (64 - a) - n) = 64 - a - n := by unfold wrap64; omega
  have hS := same_eq (exM (ofM l0)) (by have := exM_length (ofM l0); omega) 2300 (by have := exM_length (ofM l0); omega)
  have hR : ∀ c : Int, 1 ≤ c → c ≤ 64 → extent_Cut.f 2300 (exM (cutM (ofM l0) 0 c)) 0 1 = some (exM (cutM (ofM l0) 0 c)) := fun c h1 h2 => by
    rw [Cut_map (cutM_ok o0 0 c) 0 1 2300 (by omega)]
    congr 2
    refine map_ext (mk_length _) (mk_length _) fun i hi => ?_
    rw [cutM_get _ _ _ i hi, cutM_get _ _ _ i hi]
    unfold wh
    split
    · rw [if_pos (by omega)]
    · rfl
  have hL : ∀ c : Int, ((exM (cutM (ofM l0) 0 c)).length : Int) ≤ wrap64 (((exM (ofM l0)).length : Int) + 1) := fun c => by
    have h1 := cut_length o0 c
    have h2 := exM_length (ofM l0)
    rw [w_id (by omega) (by omega)]
    omega
  have fin : ∀ (p : List Int), okM p → (∀ i : Nat, i < 64 → p.getD i 0 = if a ≤ (i : Int) ∧ (i : Int) < a + n then (ofM l0).getD i 0 else -1) →
      (∀ i : Nat, i < 64 → ∃ x b x' b', extent_Find.f 2300 (exM (cutM (ofM l0) a n)) (i : Int) = some (x, b) ∧ extent_Find.f 2300 (exM p) (i : Int) = some (x', b') ∧ ((a ≤ (i : Int) ∧ (i : Int) < wrap64 (a + n)) → b = false) ∧ (¬ (a ≤ (i : Int) ∧ (i : Int) < wrap64 (a + n)) → b' = false)) ∧
      extent_Over.f 2300 (exM (cutM (ofM l0) a n)) (exM p) = some (exM (ofM l0)) ∧ extent_Over.f 2300 (exM p) (exM (cutM (ofM l0) a n)) = some (exM (ofM l0)) := fun p op gp => by
    have h := overR (c := fun i => a ≤ (i : Int) ∧ (i : Int) < a + n) o0 gU gp
    refine ⟨finds a n hw oU op gU gp, ?_, ?_⟩
    · rw [Over_map oU op 2300 (by omega), h.1]
    · rw [Over_map op oU 2300 (by omega), h.2]
  by_cases hp : 0 < a
  · have eV := Cut_map o0 0 a 2300 (by omega)
    have oV := cutM_ok o0 0 a
    have gV : ∀ i : Nat, i < 64 → (cutM (ofM l0) 0 a).getD i 0 = if (i : Int) < a then -1 else (ofM l0).getD i 0 := fun i hi => by
      rw [cutM_get _ _ _ i hi]
      unfold wh
      by_cases h : (i : Int) < a
      · rw [if_pos h, if_pos (by omega)]
      · rw [if_neg h, if_neg (by omega)]
    by_cases hl : wrap64 (a + n) < 64
    · have eP := Cut_map oV (a + n) (64 - a - n) 2300 (by omega)
      obtain ⟨f1, f2, f3⟩ := fin _ (cutM_ok oV (a + n) (64 - a - n)) fun i hi => by
        rw [cutM_get _ _ _ i hi, gV i hi]
        unfold wh
        rw [eW] at hl
        by_cases h : a + n ≤ (i : Int)
        · rw [if_pos (by omega), if_neg (by omega)]
        · rw [if_neg (by omega)]
          by_cases h2 : (i : Int) < a
          · rw [if_pos h2, if_neg (by omega)]
          · rw [if_neg h2, if_pos (by omega)]
      rw [← eX] at eP f1 f2 f3
      have eP' : extent_Cut.f 2300 (exM (cutM (ofM l0) 0 a)) (wrap64 (a + n)) (wrap64 (wrap64 (64 - a) - n)) = some (exM (cutM (cutM (ofM l0) 0 a) (a + n) (wrap64 (wrap64 (64 - a) - n)))) := by rw [eW]; exact eP
      exact main11 2300 A0 c0 l0 a n w hC0 hc0 _ _ _ _ _ _ h0 hp hl Al hW rfl eU eV (hR a (by omega) (by omega)) eV eP' f1 f2 f3 hS (hL a)
    · obtain ⟨f1, f2, f3⟩ := fin _ oV fun i hi => by
        rw [gV i hi]
        rw [eW] at hl
        by_cases h2 : (i : Int) < a
        · rw [if_pos h2, if_neg (by omega)]
        · rw [if_neg h2, if_pos (by omega)]
      exact main10 2300 A0 c0 l0 a n w hC0 hc0 _ _ _ _ _ [] h0 hp hl Al hW rfl eU eV (hR a (by omega) (by omega)) eV f1 f2 f3 hS (hL a)
  · have ha : a = 0 := by omega
    have eQ := Cut_map o0 0 1 2300 (by omega)
    by_cases hl : wrap64 (a + n) < 64
    · have eP := Cut_map o0 (a + n) (64 - a - n) 2300 (by omega)
      obtain ⟨f1, f2, f3⟩ := fin _ (cutM_ok o0 (a + n) (64 - a - n)) fun i hi => by
        rw [cutM_get _ _ _ i hi]
        unfold wh
        rw [eW] at hl
        by_cases h : a + n ≤ (i : Int)
        · rw [if_pos (by omega), if_neg (by omega)]
        · rw [if_neg (by omega), if_pos (by omega)]
      rw [← eX] at eP f1 f2 f3
      have eP' : extent_Cut.f 2300 (exM (ofM l0)) (wrap64 (a + n)) (wrap64 (wrap64 (64 - a) - n)) = some (exM (cutM (ofM l0) (a + n) (wrap64 (wrap64 (64 - a) - n)))) := by rw [eW]; exact eP
      exact main01 2300 A0 c0 l0 a n w hC0 hc0 _ _ _ _ [] _ h0 hp hl Al hW rfl eU eQ (hR 1 (by omega) (by omega)) eP' f1 f2 f3 hS (hL 1)
    · obtain ⟨f1, f2, f3⟩ := fin _ o0 fun i hi => by
        rw [eW] at hl
        rw [if_pos (by omega)]
      exact main00 2300 A0 c0 l0 a n w hC0 hc0 _ _ _ _ [] [] h0 hp hl Al hW rfl eU eQ (hR 1 (by omega) (by omega)) f1 f2 f3 hS (hL 1)
end Go.Proofs.Ytmbigclkmclbdaa.WExtentCuts
