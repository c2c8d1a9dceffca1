/- Parts of the proof for LeafSlots: Ax35, BookL, BookT, BookN, BookP, BookR, BookW, BookA, BookAddI, BookAddE, Keep, LentI, Cx0. -/
import Derived.Test.YtacmfpkmcefcfaaProg
import Derived.Below
import Derived.Deep.Draws
import Derived.Deep.AppendLies
import Derived.Maps.AppendAt
import Derived.OwnWalk
import Derived.Laws.BytesArg
import Derived.Laws.MakeOwn
import Derived.Laws.OwnMore
import Derived.Deep.OwnRows
import Derived.Tactics
import Derived.Lib.ConvBytes
import Derived.Laws.Slices
import Derived.WalkKit
import Derived.KernelRfl
import Derived.RowKit3
import Derived.Deep.LoopGhost
import Derived.Deep.QuietTactic
import Derived.BigQuiet
import Derived.WideLaws
import Derived.Deep.DeepCutAuto
import Derived.Deep.CutBlock
import Derived.Deep.RegionHeld3
import Derived.Laws.Rows
import Derived.Lib.AppendStr
import Derived.ArgAppend
import Derived.Laws.IdiomCopy
import Derived.OrdersHeld
import Derived.Laws.BitsLemmas
import Derived.RowKit
import Derived.Test.YtacmfpkmcefcfaaJLeafSlots4
import Derived.Test.YtacmfpkmcefcfaaJLeafSlots7
import Derived.Test.YtacmfpkmcefcfaaJLeafSlots3
import Derived.Test.YtacmfpkmcefcfaaJLeafSlots2
import Derived.Test.YtacmfpkmcefcfaaJLeafSlots1
import Derived.Test.YtacmfpkmcefcfaaJLeafSlots0
section
namespace Go.Proofs.Ytacmfpkmcefcfaa.A
open Go.RowKit Go.Proofs.YtacmfpkmcefcfaaW.PrintWords Go.Proofs.YtacmfpkmcefcfaaW.PrintLast Go.Proofs.YtacmfpkmcefcfaaW.PrintMore
attribute [local go_sem] max2_int min2_int max_two min_two max_three min_three max_four min_four   -- for this text's walks alone
set_option linter.unusedVariables false
set_option linter.unusedSimpArgs false
def emulsionbook_markedExtents.l0 : Nat → List (List (S96)) → Int → Option (Bool)
  | 0, _, _ => none
  | k + 1, x0, x3 => if x3 < (x0.length : Int) then (if 0 ≤ x3 then ((emulsionbook_markExtents.f k x3 0 ((rd_L8 x0 x3).length : Int)).bind fun t289 => ((emulsionbook_SameExtents.f k (rd_L8 x0 x3) t289).bind fun t292 => (if t292 = true then (emulsionbook_markedExtents.l0 k x0 (wrap64 (x3 + 1))) else (some false)))) else (none)) else (some true)
def emulsionbook_markedExtents.f (k : Nat) (l0 : List (List (S96))) : Option (Bool) := emulsionbook_markedExtents.l0 k l0 0
theorem emulsionbook_markedExtents.mono_l : ∀ k, (∀ y0 y1, LeO (emulsionbook_markedExtents.l0 k y0 y1) (emulsionbook_markedExtents.l0 (k + 1) y0 y1))
  | 0 => fun _ _ r h => by simp [emulsionbook_markedExtents.l0] at h
  | k + 1 => by
    have ih0 := emulsionbook_markedExtents.mono_l k
    · intro y0 y1
      unfold emulsionbook_markedExtents.l0
      repeat' first
      | (with_reducible exact ih0 _ _)
      | (with_reducible exact emulsionbook_SameExtents.mono _ _ _)
      | (with_reducible exact emulsionbook_markExtents.mono _ _ _ _)
      | (with_reducible exact LeO.refl _)
      | (with_reducible exact LeO.none _)
      | (with_reducible refine LeO.ite ?_ ?_)
      | (with_reducible refine LeO.bind ?_ (fun _ => ?_))
      | exact ih0 _ _
      | exact emulsionbook_SameExtents.mono _ _ _
      | exact emulsionbook_markExtents.mono _ _ _ _
      | exact LeO.none _
      | refine LeO.ite ?_ ?_
      | refine LeO.bind ?_ (fun _ => ?_)
theorem emulsionbook_markedExtents.mono : ∀ a0 k, LeO (emulsionbook_markedExtents.f k a0) (emulsionbook_markedExtents.f (k + 1) a0) := by
  intro a0 k
  have ih0 := emulsionbook_markedExtents.mono_l k
  unfold emulsionbook_markedExtents.f
  repeat' first
      | (with_reducible exact ih0 _ _)
      | (with_reducible exact emulsionbook_SameExtents.mono _ _ _)
      | (with_reducible exact emulsionbook_markExtents.mono _ _ _ _)
      | (with_reducible exact LeO.refl _)
      | (with_reducible exact LeO.none _)
      | (with_reducible refine LeO.ite ?_ ?_)
      | (with_reducible refine LeO.bind ?_ (fun _ => ?_))
      | exact ih0 _ _
      | exact emulsionbook_SameExtents.mono _ _ _
      | exact emulsionbook_markExtents.mono _ _ _ _
      | exact LeO.none _
      | refine LeO.ite ?_ ?_
      | refine LeO.bind ?_ (fun _ => ?_)
def emulsionbook_markedExtents.T4 : Bool × List (List Nat × List Nat) := (true, [([], []), ([], []), ([0, 1], [0, 1]), ([2], [2]), ([], []), ([], []), ([], []), ([5, 6], [5, 6]), ([7], [7]), ([8], [8]), ([4, 9], [4, 9]), ([3, 10, 10], [3, 10]), ([11], [11])])
def emulsionbook_markedExtents.B4 : List Nat := [0, 0, 3, 7, 0, 0, 0, 96, 224, 480, 1008, 2047, 4095]
theorem emulsionbook_markedExtents.tab4 : rtab .any (opsOf Try.f89 4) = emulsionbook_markedExtents.T4 := by kernel_rfl
theorem emulsionbook_markedExtents.bits4 : waitsOk emulsionbook_markedExtents.T4.2 emulsionbook_markedExtents.B4 = true := by kernel_rfl
set_option maxHeartbeats 8000000 in
set_option maxRecDepth 100000 in
theorem emulsionbook_markedExtents.calls (k : Nat) (A0 : Option Addr) (c0 : Nat) (l0 : List (List (S96))) (r : Bool) (w : World) (hr0 : Kd.C (Kd.slice 96 k96) w A0 l0.length l0) (hc0 : l0.length ≤ c0) (h : emulsionbook_markedExtents.f k l0 = some r) :
    Calls Try.prog 89 #[.slice A0 l0.length c0] w fun e w' => e = .returned (.bool r) ∧ Below w.heap.size w w' := by
  have HR0 := Aside0.mk hr0
  have HC0 := Aside0.mk hc0
  clear hr0 hc0
  have HB := Aside0.mk (Below.refl w.heap.size w)
  have H : (emulsionbook_markedExtents.l0 k l0 0) = some r := h
  clear h
  have H' := Aside0.mk H
  clear H
  go_enter Try.func89, Try.ntmps89
  go_wp2
  go_loopg [3] k (fun kq v3 w' => ∃ (x3_1 : Int), v3 = .int .i64 x3_1 ∧ Aside0 (emulsionbook_markedExtents.l0 kq l0 x3_1 = some r) ∧ Aside0 (kq ≤ k) ∧ Aside0 (Below w.heap.size w w'))
  case atStart => exact ⟨(0), (by first | rfl | (simp; done) | (simp [*]; done)), H', ⟨Nat.le_refl _⟩, ⟨by repeat (first | (with_reducible first | exact HB.out | apply below_alloc | apply pw_below_drewN | apply below_drew1) | exact HB.out)⟩⟩
  case round =>
    clear H'
    obtain ⟨x3_1, rfl, HA, HK1, HB⟩ := hrel
    cases gk with
    | zero => exact absurd HA.out (by simp [emulsionbook_markedExtents.l0])
    | succ k1 =>
      have H := HA.out
      clear HA
      simp only [emulsionbook_markedExtents.l0] at H
      by_cases c2 : x3_1 < (l0.length : Int)
      · rw [if_pos c2] at H
        have c2b0 : decide (x3_1 < (l0.length : Int)) = true := decide_eq_true c2
        clear c2
        by_cases c3 : 0 ≤ x3_1
        · rw [if_pos c3] at H
          have c3b0 : decide (0 ≤ x3_1) = true := decide_eq_true c3
          clear c3
          replace H := Option.bind_eq_some_iff.mp H
          obtain ⟨t289, A40, H⟩ := H
          replace H : ((emulsionbook_SameExtents.f k1 (rd_L8 l0 x3_1) t289).bind fun t292 => (if t292 = true then (emulsionbook_markedExtents.l0 k1 l0 (wrap64 (x3_1 + 1))) else (some false))) = some r := H
          have A4 := Aside0.mk A40
          clear A40
          replace H := Option.bind_eq_some_iff.mp H
          obtain ⟨t292, A50, H⟩ := H
          replace H : (if t292 = true then (emulsionbook_markedExtents.l0 k1 l0 (wrap64 (x3_1 + 1))) else (some false)) = some r := H
          have A5 := Aside0.mk A50
          clear A50
          by_cases c6 : t292 = true
          · subst c6
            have H1 : (emulsionbook_markedExtents.l0 k1 l0 (wrap64 (x3_1 + 1))) = some r := by rw [if_pos rfl] at H; exact H
            clear H
            have H := H1
            clear H1
            have H' := Aside0.mk H
            clear H
            try go_wp2
            have n0_ := Aside0.mk (below_drew1 HB.out)
            clear HB
            have HB := n0_
            clear n0_
            have p287 : 0 ≤ (x3_1 : Int) := of_decide_eq_true (by first | (with_reducible assumption) | assumption)
            have q287 : x3_1 < (l0.length : Int) := of_decide_eq_true (by first | (with_reducible assumption) | assumption)
            obtain ⟨ad287, A287_0, c287_0, e287, hx287_0, hl287_0, hi287_0⟩ := at_L8 HR0.out x3_1 p287 q287
            have hw287_0 := hx287_0
            cases e287
            replace hx287_0 := (HB.out.cell (World.block_lt_of_cell? w _ hx287_0)).trans hx287_0
            have HR287_0 := Aside0.mk hi287_0
            have HC287_0 := Aside0.mk hl287_0
            clear hi287_0 hl287_0
            replace p287 := eq_true p287
            replace q287 := eq_true q287
            have p288 : 0 ≤ (x3_1 : Int) := of_decide_eq_true (by first | (with_reducible assumption) | assumption)
            have q288 : x3_1 < (l0.length : Int) := of_decide_eq_true (by first | (with_reducible assumption) | assumption)
            obtain ⟨ad288, A288_0, c288_0, e288, hx288_0, hl288_0, hi288_0⟩ := at_L8 HR0.out x3_1 p288 q288
            have hw288_0 := hx288_0
            obtain rfl : ad287 = ad288 := (by injection e288)
            replace hx288_0 := (HB.out.cell (World.block_lt_of_cell? w _ hx288_0)).trans hx288_0
            have HR288_0 := Aside0.mk hi288_0
            have HC288_0 := Aside0.mk hl288_0
            clear hi288_0 hl288_0
            replace p288 := eq_true p288
            replace q288 := eq_true q288
            have ea_ := Option.some.inj (hx287_0.symm.trans hx288_0)
            injection ea_ with ea_ en_ ec_
            subst ea_
            subst ec_
            clear en_
            refine start_ (n := 13) (S := fun w' => w'.cell? (ad287.add (x3_1).toNat) = some (.slice A287_0 (rd_L8 l0 x3_1).length c287_0) ∧ w'.cell? (ad287.add (x3_1).toNat) = some (.slice A287_0 (rd_L8 l0 x3_1).length c287_0)) (ds := []) #[false, false, false, false, false, false, false, false, false, false, false, false, false] (by kernel_rfl) rfl rfl ⟨((HB.out.cell (World.block_lt_of_cell? w _ hw287_0)).trans hw287_0), ((HB.out.cell (World.block_lt_of_cell? w _ hw288_0)).trans hw288_0)⟩ (fun hHeld => ?_); refine with_tabW emulsionbook_markedExtents.tab4 emulsionbook_markedExtents.bits4 (fun HT_ HW_ => ?_)
            generalize wr.drew = w7 at HB HR287_0 HR288_0 hx287_0 hx288_0 hHeld ⊢
            refine pure_ (i := 0) (N := some 10) (v := ?_) (a' := ?_) #[true, false, false, false, false, false, false, false, false, false, false, false, false] rfl rfl (any_of HT_.out (by kernel_rfl)) (fun _ _ _ h => h) (Or.inl ⟨by rfl, ?_⟩) ?_ ?_
            rotate_left
            · intro w'
              go_simp
              with_reducible rfl
            rotate_left
            · simp only [Act.put, List.setIfInBounds_toArray, List.set_cons_zero, List.set_cons_succ, i64_w, i32_w]
              rfl
            refine pure_ (i := 1) (N := some 11) (v := ?_) (a' := ?_) #[true, true, false, false, false, false, false, false, false, false, false, false, false] rfl rfl (any_of HT_.out (by kernel_rfl)) (fun _ _ _ h => h) (Or.inl ⟨by rfl, ?_⟩) ?_ ?_
            rotate_left
            · intro w'
              go_simp
              with_reducible rfl
            rotate_left
            · simp only [Act.put, List.setIfInBounds_toArray, List.set_cons_zero, List.set_cons_succ, i64_w, i32_w]
              rfl
            refine pure_ (i := 2) (N := some 12) (v := ?_) (a' := ?_) #[true, true, true, false, false, false, false, false, false, false, false, false, false] rfl rfl (any_of HT_.out (by kernel_rfl)) (fun _ _ _ h => h) (Or.inl ⟨by rfl, ?_⟩) ?_ ?_
            rotate_left
            · intro w'
              go_simp
              with_reducible rfl
            rotate_left
            · simp only [Act.put, List.setIfInBounds_toArray, List.set_cons_zero, List.set_cons_succ, i64_w, i32_w]
              rfl
            refine pure_ (i := 4) (N := some 14) (v := ?_) (a' := ?_) #[true, true, true, false, true, false, false, false, false, false, false, false, false] rfl rfl (any_of HT_.out (by kernel_rfl)) (fun _ _ _ h => h) (Or.inl ⟨by rfl, ?_⟩) ?_ ?_
            rotate_left
            · intro w'
              go_simp
              with_reducible rfl
            rotate_left
            · simp only [Act.put, List.setIfInBounds_toArray, List.set_cons_zero, List.set_cons_succ, i64_w, i32_w]
              rfl
            refine pure_ (i := 5) (N := some 15) (v := ?_) (a' := ?_) #[true, true, true, false, true, true, false, false, false, false, false, false, false] rfl rfl (any_of HT_.out (by kernel_rfl)) (fun _ _ _ h => h) (Or.inl ⟨by rfl, ?_⟩) ?_ ?_
            rotate_left
            · intro w'
              go_simp
              with_reducible rfl
            rotate_left
            · simp only [Act.put, List.setIfInBounds_toArray, List.set_cons_zero, List.set_cons_succ, i64_w, i32_w]
              rfl
            refine pure_ (i := 6) (N := some 16) (v := ?_) (a' := ?_) #[true, true, true, false, true, true, true, false, false, false, false, false, false] rfl rfl (any_of HT_.out (by kernel_rfl)) (fun _ _ _ h => h) (Or.inl ⟨by rfl, ?_⟩) ?_ ?_
            rotate_left
            · intro w'
              go_simp
              with_reducible rfl
            rotate_left
            · simp only [Act.put, List.setIfInBounds_toArray, List.set_cons_zero, List.set_cons_succ, i64_w, i32_w]
              rfl
            refine pure_ (i := 7) (N := some 17) (v := ?_) (a' := ?_) #[true, true, true, false, true, true, true, true, false, false, false, false, false] rfl rfl (any_of HT_.out (by kernel_rfl)) (fun _ _ _ h => h) (Or.inl ⟨by rfl, ?_⟩) ?_ ?_
            rotate_left
            · intro w'
              go_simp
              with_reducible rfl
            rotate_left
            · simp only [Act.put, List.setIfInBounds_toArray, List.set_cons_zero, List.set_cons_succ, i64_w, i32_w]
              rfl
            refine take_ (i := 3) (N := some 13) (v := ?_) (a' := ?_) #[true, true, true, true, true, true, true, true, false, false, false, false, false] rfl rfl (take_ofW HT_.out HW_.out (by kernel_rfl)) (fun _ _ _ h => h) (Or.inl ⟨by rfl, ?_⟩) hHeld ?_ ?_
            rotate_left
            · rintro w' ⟨s0, s1⟩
              go_simp
              with_reducible rfl
            rotate_left
            · simp only [Act.put, List.setIfInBounds_toArray, List.set_cons_zero, List.set_cons_succ, i64_w, i32_w]
              rfl
            refine take_ (i := 8) (N := some 18) (v := ?_) (a' := ?_) #[true, true, true, true, true, true, true, true, true, false, false, false, false] rfl rfl (take_ofW HT_.out HW_.out (by kernel_rfl)) (fun _ _ _ h => h) (Or.inl ⟨by rfl, ?_⟩) hHeld ?_ ?_
            rotate_left
            · rintro w' ⟨s0, s1⟩
              go_simp
              with_reducible rfl
            rotate_left
            · simp only [Act.put, List.setIfInBounds_toArray, List.set_cons_zero, List.set_cons_succ, i64_w, i32_w]
              rfl
            refine pure_ (i := 9) (N := some 19) (v := ?_) (a' := ?_) #[true, true, true, true, true, true, true, true, true, true, false, false, false] rfl rfl (any_of HT_.out (by kernel_rfl)) (fun _ _ _ h => h) (Or.inl ⟨by rfl, ?_⟩) ?_ ?_
            rotate_left
            · intro w'
              go_simp
              with_reducible rfl
            rotate_left
            · simp only [Act.put, List.setIfInBounds_toArray, List.set_cons_zero, List.set_cons_succ, i64_w, i32_w]
              rfl
            refine one_ (i := 10) (N := some 20) #[true, true, true, true, true, true, true, true, true, true, true, false, false] rfl rfl (one_of HT_.out (by kernel_rfl)) (by decide) (fun K hK => ?_)
            refine goes_ Try.func114 (by kernel_rfl) rfl #[.int .i64 x3_1, .int .i64 0, .int .i64 ((rd_L8 l0 x3_1).length : Int)] (by rfl) rfl rfl (by (try simp only [List.map_toArray, List.map_cons, List.map_nil]); first | done | rfl | (simp only [List.length_drop, List.length_take]; rfl)) ?_
            with_reducible refine (emulsionbook_markExtents.calls k1 x3_1 0 ((rd_L8 l0 x3_1).length : Int) t289 _ A4.out).mono ?_
            rintro e w8 ⟨v290, rfl, ho0, hb⟩
            refine ⟨_, rfl, ?_⟩
            have n0_ := Aside0.mk (Kd.R_lower ho0 (below_size (by repeat (first | (with_reducible first | exact HB.out | apply below_alloc | apply pw_below_drewN | apply below_drew1) | exact HB.out))))
            have n1_ := Aside0.mk (below_step (by repeat (first | (with_reducible first | exact HB.out | apply below_alloc | apply pw_below_drewN | apply below_drew1) | exact HB.out)) hb)
            clear HB
            have HO291 := n0_
            have HB := n1_
            clear n0_ n1_
            (try clear hb)
            (try clear hb2)
            (try clear hk)
            (try clear hi)
            (try clear ho0)
            obtain ⟨Ao9, co9, eo9⟩ := Kd.R_slice HO291.out
            (first | subst eo9 | (injection eo9 with f1_ f2_ f3_; have f4_ := f1_.symm; have f5_ := f3_.symm; clear f1_ f2_ f3_; subst f4_; subst f5_))
            refine hK.out _ _ ⟨((HB.out.cell (World.block_lt_of_cell? w _ hw287_0)).trans hw287_0), ((HB.out.cell (World.block_lt_of_cell? w _ hw288_0)).trans hw288_0)⟩ (fun hHeld => ?_)
            clear hK K
            refine norm_ (a' := ?_) ?_ ?_
            rotate_left
            · show Act.put _ (some 20) _ = _
              simp only [Act.put, List.setIfInBounds_toArray, List.set_cons_zero, List.set_cons_succ, i64_w, i32_w]
              rfl
            refine one_ (i := 11) (N := some 21) #[true, true, true, true, true, true, true, true, true, true, true, true, false] rfl rfl (one_of HT_.out (by kernel_rfl)) (by decide) (fun K hK => ?_)
            refine goes_ Try.func34 (by kernel_rfl) rfl #[.slice A287_0 (rd_L8 l0 x3_1).length c287_0, .slice Ao9 t289.length co9] (by rfl) rfl rfl (by (try simp only [List.map_toArray, List.map_cons, List.map_nil]); first | done | rfl | (simp only [List.length_drop, List.length_take]; rfl)) ?_
            with_reducible refine (emulsionbook_SameExtents.calls k1 _ _ (rd_L8 l0 x3_1) _ _ t289 true _ ?side1 ?side2 ?side3 ?side4 A5.out).mono ?_
            (case side1 => repeat (first | exact (Kd.C_below HR287_0.out HB.out) | (with_reducible refine Kd.C_alloc ?_ _) | (with_reducible refine Kd.C_drewN ?_ _) | (with_reducible refine Kd.C_drew ?_)))
            (case side2 => exact HC287_0.out)
            (case side3 => repeat (first | exact (Kd.R_reads' HO291.out).2.2 | (with_reducible refine Kd.C_alloc ?_ _) | (with_reducible refine Kd.C_drewN ?_ _) | (with_reducible refine Kd.C_drew ?_)))
            (case side4 => exact (Kd.R_reads' HO291.out).2.1)
            rintro e w' ⟨rfl, ⟨nd, rfl⟩⟩
            refine ⟨_, rfl, ?_⟩
            refine hK.out _ _ ⟨((HB.out.cell (World.block_lt_of_cell? w _ hw287_0)).trans hw287_0), ((HB.out.cell (World.block_lt_of_cell? w _ hw288_0)).trans hw288_0)⟩ (fun hHeld => ?_)
            clear hK K
            refine norm_ (a' := ?_) ?_ ?_
            rotate_left
            · show Act.put _ (some 21) _ = _
              simp only [Act.put, List.setIfInBounds_toArray, List.set_cons_zero, List.set_cons_succ, i64_w, i32_w]
              rfl
            refine pure_ (i := 12) (N := some 22) (v := ?_) (a' := ?_) #[true, true, true, true, true, true, true, true, true, true, true, true, true] rfl rfl (any_of HT_.out (by kernel_rfl)) (fun _ _ _ h => h) (Or.inl ⟨by rfl, ?_⟩) ?_ ?_
            rotate_left
            · intro w'
              go_simp
              with_reducible rfl
            rotate_left
            · simp only [Act.put, List.setIfInBounds_toArray, List.set_cons_zero, List.set_cons_succ, i64_w, i32_w]
              rfl
            refine done_ (done_of HT_.out (by kernel_rfl)) ?_
            try go_wp2
            go_roundg k1
            case measure => have := HK1.out; omega
            case rel => exact ⟨(wrap64 (x3_1 + 1)), (by first | rfl | (simp; done) | (simp [*]; done)), H', ⟨by have := HK1.out; omega⟩, ⟨by repeat (first | (with_reducible first | exact HB.out | apply below_alloc | apply pw_below_drewN | apply below_drew1) | exact HB.out)⟩⟩
          · replace c6 := Bool.eq_false_iff.mpr c6
            subst c6
            have H1 : (some false) = some r := by rw [if_neg (show ¬ (false = true) by decide)] at H; exact H
            clear H
            have H := H1
            clear H1
            obtain rfl := Option.some.inj H
            try go_wp2
            have n0_ := Aside0.mk (below_drew1 HB.out)
            clear HB
            have HB := n0_
            clear n0_
            have p287 : 0 ≤ (x3_1 : Int) := of_decide_eq_true (by first | (with_reducible assumption) | assumption)
            have q287 : x3_1 < (l0.length : Int) := of_decide_eq_true (by first | (with_reducible assumption) | assumption)
            obtain ⟨ad287, A287_0, c287_0, e287, hx287_0, hl287_0, hi287_0⟩ := at_L8 HR0.out x3_1 p287 q287
            have hw287_0 := hx287_0
            cases e287
            replace hx287_0 := (HB.out.cell (World.block_lt_of_cell? w _ hx287_0)).trans hx287_0
            have HR287_0 := Aside0.mk hi287_0
            have HC287_0 := Aside0.mk hl287_0
            clear hi287_0 hl287_0
            replace p287 := eq_true p287
            replace q287 := eq_true q287
            have p288 : 0 ≤ (x3_1 : Int) := of_decide_eq_true (by first | (with_reducible assumption) | assumption)
            have q288 : x3_1 < (l0.length : Int) := of_decide_eq_true (by first | (with_reducible assumption) | assumption)
            obtain ⟨ad288, A288_0, c288_0, e288, hx288_0, hl288_0, hi288_0⟩ := at_L8 HR0.out x3_1 p288 q288
            have hw288_0 := hx288_0
            obtain rfl : ad287 = ad288 := (by injection e288)
            replace hx288_0 := (HB.out.cell (World.block_lt_of_cell? w _ hx288_0)).trans hx288_0
            have HR288_0 := Aside0.mk hi288_0
            have HC288_0 := Aside0.mk hl288_0
            clear hi288_0 hl288_0
            replace p288 := eq_true p288
            replace q288 := eq_true q288
            have ea_ := Option.some.inj (hx287_0.symm.trans hx288_0)
            injection ea_ with ea_ en_ ec_
            subst ea_
            subst ec_
            clear en_
            refine start_ (n := 13) (S := fun w' => w'.cell? (ad287.add (x3_1).toNat) = some (.slice A287_0 (rd_L8 l0 x3_1).length c287_0) ∧ w'.cell? (ad287.add (x3_1).toNat) = some (.slice A287_0 (rd_L8 l0 x3_1).length c287_0)) (ds := []) #[false, false, false, false, false, false, false, false, false, false, false, false, false] (by kernel_rfl) rfl rfl ⟨((HB.out.cell (World.block_lt_of_cell? w _ hw287_0)).trans hw287_0), ((HB.out.cell (World.block_lt_of_cell? w _ hw288_0)).trans hw288_0)⟩ (fun hHeld => ?_); refine with_tabW emulsionbook_markedExtents.tab4 emulsionbook_markedExtents.bits4 (fun HT_ HW_ => ?_)
            generalize wr.drew = w10 at HB HR287_0 HR288_0 hx287_0 hx288_0 hHeld ⊢
            refine pure_ (i := 0) (N := some 10) (v := ?_) (a' := ?_) #[true, false, false, false, false, false, false, false, false, false, false, false, false] rfl rfl (any_of HT_.out (by kernel_rfl)) (fun _ _ _ h => h) (Or.inl ⟨by rfl, ?_⟩) ?_ ?_
            rotate_left
            · intro w'
              go_simp
              with_reducible rfl
            rotate_left
            · simp only [Act.put, List.setIfInBounds_toArray, List.set_cons_zero, List.set_cons_succ, i64_w, i32_w]
              rfl
            refine pure_ (i := 1) (N := some 11) (v := ?_) (a' := ?_) #[true, true, false, false, false, false, false, false, false, false, false, false, false] rfl rfl (any_of HT_.out (by kernel_rfl)) (fun _ _ _ h => h) (Or.inl ⟨by rfl, ?_⟩) ?_ ?_
            rotate_left
            · intro w'
              go_simp
              with_reducible rfl
            rotate_left
            · simp only [Act.put, List.setIfInBounds_toArray, List.set_cons_zero, List.set_cons_succ, i64_w, i32_w]
              rfl
            refine pure_ (i := 2) (N := some 12) (v := ?_) (a' := ?_) #[true, true, true, false, false, false, false, false, false, false, false, false, false] rfl rfl (any_of HT_.out (by kernel_rfl)) (fun _ _ _ h => h) (Or.inl ⟨by rfl, ?_⟩) ?_ ?_
            rotate_left
            · intro w'
              go_simp
              with_reducible rfl
            rotate_left
            · simp only [Act.put, List.setIfInBounds_toArray, List.set_cons_zero, List.set_cons_succ, i64_w, i32_w]
              rfl
            refine pure_ (i := 4) (N := some 14) (v := ?_) (a' := ?_) #[true, true, true, false, true, false, false, false, false, false, false, false, false] rfl rfl (any_of HT_.out (by kernel_rfl)) (fun _ _ _ h => h) (Or.inl ⟨by rfl, ?_⟩) ?_ ?_
            rotate_left
            · intro w'
              go_simp
              with_reducible rfl
            rotate_left
            · simp only [Act.put, List.setIfInBounds_toArray, List.set_cons_zero, List.set_cons_succ, i64_w, i32_w]
              rfl
            refine pure_ (i := 5) (N := some 15) (v := ?_) (a' := ?_) #[true, true, true, false, true, true, false, false, false, false, false, false, false] rfl rfl (any_of HT_.out (by kernel_rfl)) (fun _ _ _ h => h) (Or.inl ⟨by rfl, ?_⟩) ?_ ?_
            rotate_left
            · intro w'
              go_simp
              with_reducible rfl
            rotate_left
            · simp only [Act.put, List.setIfInBounds_toArray, List.set_cons_zero, List.set_cons_succ, i64_w, i32_w]
              rfl
            refine pure_ (i := 6) (N := some 16) (v := ?_) (a' := ?_) #[true, true, true, false, true, true, true, false, false, false, false, false, false] rfl rfl (any_of HT_.out (by kernel_rfl)) (fun _ _ _ h => h) (Or.inl ⟨by rfl, ?_⟩) ?_ ?_
            rotate_left
            · intro w'
              go_simp
              with_reducible rfl
            rotate_left
            · simp only [Act.put, List.setIfInBounds_toArray, List.set_cons_zero, List.set_cons_succ, i64_w, i32_w]
              rfl
            refine pure_ (i := 7) (N := some 17) (v := ?_) (a' := ?_) #[true, true, true, false, true, true, true, true, false, false, false, false, false] rfl rfl (any_of HT_.out (by kernel_rfl)) (fun _ _ _ h => h) (Or.inl ⟨by rfl, ?_⟩) ?_ ?_
            rotate_left
            · intro w'
              go_simp
              with_reducible rfl
            rotate_left
            · simp only [Act.put, List.setIfInBounds_toArray, List.set_cons_zero, List.set_cons_succ, i64_w, i32_w]
              rfl
            refine take_ (i := 3) (N := some 13) (v := ?_) (a' := ?_) #[true, true, true, true, true, true, true, true, false, false, false, false, false] rfl rfl (take_ofW HT_.out HW_.out (by kernel_rfl)) (fun _ _ _ h => h) (Or.inl ⟨by rfl, ?_⟩) hHeld ?_ ?_
            rotate_left
            · rintro w' ⟨s0, s1⟩
              go_simp
              with_reducible rfl
            rotate_left
            · simp only [Act.put, List.setIfInBounds_toArray, List.set_cons_zero, List.set_cons_succ, i64_w, i32_w]
              rfl
            refine take_ (i := 8) (N := some 18) (v := ?_) (a' := ?_) #[true, true, true, true, true, true, true, true, true, false, false, false, false] rfl rfl (take_ofW HT_.out HW_.out (by kernel_rfl)) (fun _ _ _ h => h) (Or.inl ⟨by rfl, ?_⟩) hHeld ?_ ?_
            rotate_left
            · rintro w' ⟨s0, s1⟩
              go_simp
              with_reducible rfl
            rotate_left
            · simp only [Act.put, List.setIfInBounds_toArray, List.set_cons_zero, List.set_cons_succ, i64_w, i32_w]
              rfl
            refine pure_ (i := 9) (N := some 19) (v := ?_) (a' := ?_) #[true, true, true, true, true, true, true, true, true, true, false, false, false] rfl rfl (any_of HT_.out (by kernel_rfl)) (fun _ _ _ h => h) (Or.inl ⟨by rfl, ?_⟩) ?_ ?_
            rotate_left
            · intro w'
              go_simp
              with_reducible rfl
            rotate_left
            · simp only [Act.put, List.setIfInBounds_toArray, List.set_cons_zero, List.set_cons_succ, i64_w, i32_w]
              rfl
            refine one_ (i := 10) (N := some 20) #[true, true, true, true, true, true, true, true, true, true, true, false, false] rfl rfl (one_of HT_.out (by kernel_rfl)) (by decide) (fun K hK => ?_)
            refine goes_ Try.func114 (by kernel_rfl) rfl #[.int .i64 x3_1, .int .i64 0, .int .i64 ((rd_L8 l0 x3_1).length : Int)] (by rfl) rfl rfl (by (try simp only [List.map_toArray, List.map_cons, List.map_nil]); first | done | rfl | (simp only [List.length_drop, List.length_take]; rfl)) ?_
            with_reducible refine (emulsionbook_markExtents.calls k1 x3_1 0 ((rd_L8 l0 x3_1).length : Int) t289 _ A4.out).mono ?_
            rintro e w11 ⟨v290, rfl, ho0, hb⟩
            refine ⟨_, rfl, ?_⟩
            have n0_ := Aside0.mk (Kd.R_lower ho0 (below_size (by repeat (first | (with_reducible first | exact HB.out | apply below_alloc | apply pw_below_drewN | apply below_drew1) | exact HB.out))))
            have n1_ := Aside0.mk (below_step (by repeat (first | (with_reducible first | exact HB.out | apply below_alloc | apply pw_below_drewN | apply below_drew1) | exact HB.out)) hb)
            clear HB
            have HO291 := n0_
            have HB := n1_
            clear n0_ n1_
            (try clear hb)
            (try clear hb2)
            (try clear hk)
            (try clear hi)
            (try clear ho0)
            obtain ⟨Ao12, co12, eo12⟩ := Kd.R_slice HO291.out
            (first | subst eo12 | (injection eo12 with f1_ f2_ f3_; have f4_ := f1_.symm; have f5_ := f3_.symm; clear f1_ f2_ f3_; subst f4_; subst f5_))
            refine hK.out _ _ ⟨((HB.out.cell (World.block_lt_of_cell? w _ hw287_0)).trans hw287_0), ((HB.out.cell (World.block_lt_of_cell? w _ hw288_0)).trans hw288_0)⟩ (fun hHeld => ?_)
            clear hK K
            refine norm_ (a' := ?_) ?_ ?_
            rotate_left
            · show Act.put _ (some 20) _ = _
              simp only [Act.put, List.setIfInBounds_toArray, List.set_cons_zero, List.set_cons_succ, i64_w, i32_w]
              rfl
            refine one_ (i := 11) (N := some 21) #[true, true, true, true, true, true, true, true, true, true, true, true, false] rfl rfl (one_of HT_.out (by kernel_rfl)) (by decide) (fun K hK => ?_)
            refine goes_ Try.func34 (by kernel_rfl) rfl #[.slice A287_0 (rd_L8 l0 x3_1).length c287_0, .slice Ao12 t289.length co12] (by rfl) rfl rfl (by (try simp only [List.map_toArray, List.map_cons, List.map_nil]); first | done | rfl | (simp only [List.length_drop, List.length_take]; rfl)) ?_
            with_reducible refine (emulsionbook_SameExtents.calls k1 _ _ (rd_L8 l0 x3_1) _ _ t289 false _ ?side1 ?side2 ?side3 ?side4 A5.out).mono ?_
            (case side1 => repeat (first | exact (Kd.C_below HR287_0.out HB.out) | (with_reducible refine Kd.C_alloc ?_ _) | (with_reducible refine Kd.C_drewN ?_ _) | (with_reducible refine Kd.C_drew ?_)))
            (case side2 => exact HC287_0.out)
            (case side3 => repeat (first | exact (Kd.R_reads' HO291.out).2.2 | (with_reducible refine Kd.C_alloc ?_ _) | (with_reducible refine Kd.C_drewN ?_ _) | (with_reducible refine Kd.C_drew ?_)))
            (case side4 => exact (Kd.R_reads' HO291.out).2.1)
            rintro e w' ⟨rfl, ⟨nd, rfl⟩⟩
            refine ⟨_, rfl, ?_⟩
            refine hK.out _ _ ⟨((HB.out.cell (World.block_lt_of_cell? w _ hw287_0)).trans hw287_0), ((HB.out.cell (World.block_lt_of_cell? w _ hw288_0)).trans hw288_0)⟩ (fun hHeld => ?_)
            clear hK K
            refine norm_ (a' := ?_) ?_ ?_
            rotate_left
            · show Act.put _ (some 21) _ = _
              simp only [Act.put, List.setIfInBounds_toArray, List.set_cons_zero, List.set_cons_succ, i64_w, i32_w]
              rfl
            refine pure_ (i := 12) (N := some 22) (v := ?_) (a' := ?_) #[true, true, true, true, true, true, true, true, true, true, true, true, true] rfl rfl (any_of HT_.out (by kernel_rfl)) (fun _ _ _ h => h) (Or.inl ⟨by rfl, ?_⟩) ?_ ?_
            rotate_left
            · intro w'
              go_simp
              with_reducible rfl
            rotate_left
            · simp only [Act.put, List.setIfInBounds_toArray, List.set_cons_zero, List.set_cons_succ, i64_w, i32_w]
              rfl
            refine done_ (done_of HT_.out (by kernel_rfl)) ?_
            try go_wp2
            go_ret
            exact ⟨by first | rfl | (simp [errW_none, errW_some] <;> rfl) | (simp [*, errW_none, errW_some] <;> rfl), by repeat (first | (with_reducible first | exact HB.out | apply below_alloc | apply pw_below_drewN | apply below_drew1) | exact HB.out)⟩
        · rw [if_neg c3] at H
          exact absurd H (by simp)
      · rw [if_neg c2] at H
        have c2b0 : decide (x3_1 < (l0.length : Int)) = false := decide_eq_false c2
        clear c2
        obtain rfl := Option.some.inj H
        go_wp2
        go_ret
        exact ⟨by first | rfl | (simp [errW_none, errW_some] <;> rfl) | (simp [*, errW_none, errW_some] <;> rfl), by repeat (first | (with_reducible first | exact HB.out | apply below_alloc | apply pw_below_drewN | apply below_drew1) | exact HB.out)⟩
end Go.Proofs.Ytacmfpkmcefcfaa.A
end
section
namespace Go.Proofs.Ytacmfpkmcefcfaa.Hand
open Go.RowKit Go.Proofs.YtacmfpkmcefcfaaW.PrintWords Go.Proofs.YtacmfpkmcefcfaaW.PrintLast Go.Proofs.YtacmfpkmcefcfaaW.PrintMore Go.Proofs.Ytacmfpkmcefcfaa.A
set_option linter.unusedVariables false
set_option linter.unusedSimpArgs false
/-- Marks: so many from one on. -/
def marks {α : Type} (mk : Nat → Nat → α) (i a : Nat) : Nat → List α
  | 0 => []
  | n + 1 => mk i a :: marks mk i (a + 1) n
section
variable {α : Type} (mk : Nat → Nat → α) (i : Nat)
theorem marks_length : ∀ n a, (marks mk i a n).length = n
  | 0, _ => rfl
  | n + 1, a => by unfold marks; rw [List.length_cons, marks_length]
theorem marks_app : ∀ n a m, marks mk i a (n + m) = marks mk i a n ++ marks mk i (a + n) m
  | 0, a, m => by rw [Nat.zero_add]; rfl
  | n + 1, a, m => by
    rw [show n + 1 + m = (n + m) + 1 by omega]
    show mk i a :: marks mk i (a + 1) (n + m) = mk i a :: (marks mk i (a + 1) n ++ _)
    rw [marks_app n (a + 1) m, show a + 1 + n = a + (n + 1) by omega]
theorem marks_snoc (n a : Nat) : marks mk i a (n + 1) = marks mk i a n ++ [mk i (a + n)] := marks_app mk i n a 1
theorem marks_get (n a k : Nat) (h : k < n) : (marks mk i a n)[k]? = some (mk i (a + k)) := by
  obtain ⟨m, rfl⟩ := Nat.exists_eq_add_of_lt h
  rw [show k + m + 1 = k + (1 + m) by omega, marks_app, List.getElem?_append_right (by rw [marks_length]; omega), marks_length, Nat.sub_self, marks_app]
  rfl
/-- One more mark is written over a list. -/
theorem marks_set (l : List α) (k : Nat) (h : k < l.length) : (marks mk i 0 k ++ l.drop k).set k (mk i k) = marks mk i 0 (k + 1) ++ l.drop (k + 1) := by
  rw [List.set_append_right _ _ (by rw [marks_length]; omega), marks_length, Nat.sub_self, marks_snoc, List.drop_eq_getElem_cons h, List.set_cons_zero, Nat.zero_add, List.append_assoc]
  rfl
end
/-- A mark. -/
def mkSpans (i k : Nat) : S119 := ⟨-1000 * (i : Int) - k - 1, 0⟩
theorem markSpans_l (i a n : Nat) (hi : i ≤ 1000) : ∀ (m j fuel : Nat) (acc : List S119), j + m = a + n → m < fuel → acc.length + m ≤ 4000000 → j + m ≤ 4000000 → emulsionbook_markSpans.l0 fuel (i : Int) (a : Int) (n : Int) acc (j : Int) = some (acc ++ marks mkSpans i j m)
  | 0, j, fuel, acc, hj, hf, ha, hb => by
    obtain ⟨f, rfl⟩ : ∃ f, fuel = f + 1 := ⟨fuel - 1, by omega⟩
    unfold emulsionbook_markSpans.l0
    rw [w_id (by omega) (by omega), if_neg (by omega)]
    unfold marks
    rw [List.append_nil]
  | m + 1, j, fuel, acc, hj, hf, ha, hb => by
    obtain ⟨f, rfl⟩ : ∃ f, fuel = f + 1 := ⟨fuel - 1, by omega⟩
    unfold emulsionbook_markSpans.l0
    rw [w_id (x := (a : Int) + (n : Int)) (by omega) (by omega), if_pos (by omega), if_pos (by omega), w_id (x := (j : Int) + 1) (by omega) (by omega), w_id (x := _ * (i : Int)) (by omega) (by omega), w_id (x := _ - (j : Int)) (by omega) (by omega), w_id (by omega) (by omega), show (j : Int) + 1 = ((j + 1 : Nat) : Int) by omega, markSpans_l i a n hi m (j + 1) f _ (by omega) (by omega) (by rw [List.length_append, List.length_singleton]; omega) (by omega), List.append_assoc]
    rfl
theorem markSpans_f (i a n fuel : Nat) (hi : i ≤ 1000) (hf : n < fuel) (ha : a + n ≤ 4000000) : emulsionbook_markSpans.f fuel (i : Int) (a : Int) (n : Int) = some (marks mkSpans i a n) := by
  unfold emulsionbook_markSpans.f
  rw [markSpans_l i a n hi n a fuel [] rfl hf (by rw [List.length_nil]; omega) ha, List.nil_append]
theorem sameSpans_l (l : List S119) (hl : l.length ≤ 4000000) : ∀ (m j fuel : Nat), j + m = l.length → m < fuel → emulsionbook_SameSpans.l0 fuel l l (j : Int) = some true
  | 0, j, fuel, hj, hf => by
    obtain ⟨f, rfl⟩ : ∃ f, fuel = f + 1 := ⟨fuel - 1, by omega⟩
    unfold emulsionbook_SameSpans.l0
    rw [if_neg (by omega)]
  | m + 1, j, fuel, hj, hf => by
    obtain ⟨f, rfl⟩ : ∃ f, fuel = f + 1 := ⟨fuel - 1, by omega⟩
    unfold emulsionbook_SameSpans.l0
    rw [if_pos (by omega), if_pos (by omega), if_pos (by omega), if_pos (by simp), w_id (x := (j : Int) + 1) (by omega) (by omega), show (j : Int) + 1 = ((j + 1 : Nat) : Int) by omega]
    exact sameSpans_l l hl m (j + 1) f (by omega) (by omega)
theorem sameSpans_f (l : List S119) (hl : l.length ≤ 4000000) (fuel : Nat) (hf : l.length < fuel) : emulsionbook_SameSpans.f fuel l l = some true := by
  unfold emulsionbook_SameSpans.f
  rw [if_pos rfl]
  exact sameSpans_l l hl l.length 0 fuel (by omega) hf
theorem markedSpans_step (k : Nat) (x0 : List (List S119)) (x3 : Int) : emulsionbook_markedSpans.l0 (k + 1) x0 x3 = if x3 < (x0.length : Int) then (if 0 ≤ x3 then ((emulsionbook_markSpans.f k x3 0 ((x0.getD x3.toNat []).length : Int)).bind fun a => ((emulsionbook_SameSpans.f k (x0.getD x3.toNat []) a).bind fun b => (if b = true then (emulsionbook_markedSpans.l0 k x0 (wrap64 (x3 + 1))) else (some false)))) else (none)) else (some true) := rfl
theorem markedSpans_l (L : List (List S119)) (hL : L.length ≤ 1000) (B : Nat) (hB : B ≤ 4000000) (h : ∀ (i : Nat) l, L[i]? = some l → l.length ≤ B ∧ l = marks mkSpans i 0 l.length) : ∀ (m j fuel : Nat), j + m = L.length → m + B + 1 < fuel → emulsionbook_markedSpans.l0 fuel L (j : Int) = some true
  | 0, j, fuel, hj, hf => by
    obtain ⟨f, rfl⟩ : ∃ f, fuel = f + 1 := ⟨fuel - 1, by omega⟩
    rw [markedSpans_step, if_neg (by omega)]
  | m + 1, j, fuel, hj, hf => by
    obtain ⟨f, rfl⟩ : ∃ f, fuel = f + 1 := ⟨fuel - 1, by omega⟩
    have hlt : j < L.length := by omega
    obtain ⟨h1, h2⟩ := h j _ (List.getElem?_eq_getElem hlt)
    have hg : L.getD ((j : Nat) : Int).toNat [] = L[j] := by rw [Int.toNat_natCast, List.getD_eq_getElem?_getD, List.getElem?_eq_getElem hlt]; rfl
    rw [markedSpans_step, if_pos (by omega), if_pos (by omega), hg, show (0 : Int) = ((0 : Nat) : Int) from rfl, markSpans_f j 0 _ f (by omega) (by omega) (by omega), Option.bind_some, ← h2, sameSpans_f _ (by omega) f (by omega), Option.bind_some, if_pos rfl, w_id (x := (j : Int) + 1) (by omega) (by omega), show (j : Int) + 1 = ((j + 1 : Nat) : Int) by omega]
    exact markedSpans_l L hL B hB h m (j + 1) f (by omega) (by omega)
theorem markedSpans_f (L : List (List S119)) (hL : L.length ≤ 1000) (B : Nat) (hB : B ≤ 4000000) (h : ∀ (i : Nat) l, L[i]? = some l → l.length ≤ B ∧ l = marks mkSpans i 0 l.length) (fuel : Nat) (hf : L.length + B + 1 < fuel) : emulsionbook_markedSpans.f fuel L = some true :=
  markedSpans_l L hL B hB h L.length 0 fuel (by omega) hf
/-- A mark. -/
def mkInts (i k : Nat) : Int := -1000000 * (i : Int) - k - 7
theorem markInts_l (i a n : Nat) (hi : i ≤ 1000) : ∀ (m j fuel : Nat) (acc : List Int), j + m = a + n → m < fuel → acc.length + m ≤ 4000000 → j + m ≤ 4000000 → emulsionbook_markInts.l0 fuel (i : Int) (a : Int) (n : Int) acc (j : Int) = some (acc ++ marks mkInts i j m)
  | 0, j, fuel, acc, hj, hf, ha, hb => by
    obtain ⟨f, rfl⟩ : ∃ f, fuel = f + 1 := ⟨fuel - 1, by omega⟩
    unfold emulsionbook_markInts.l0
    rw [w_id (by omega) (by omega), if_neg (by omega)]
    unfold marks
    rw [List.append_nil]
  | m + 1, j, fuel, acc, hj, hf, ha, hb => by
    obtain ⟨f, rfl⟩ : ∃ f, fuel = f + 1 := ⟨fuel - 1, by omega⟩
    unfold emulsionbook_markInts.l0
    rw [w_id (x := (a : Int) + (n : Int)) (by omega) (by omega), if_pos (by omega), if_pos (by omega), w_id (x := (j : Int) + 1) (by omega) (by omega), w_id (x := _ * (i : Int)) (by omega) (by omega), w_id (x := _ - (j : Int)) (by omega) (by omega), w_id (by omega) (by omega), show (j : Int) + 1 = ((j + 1 : Nat) : Int) by omega, markInts_l i a n hi m (j + 1) f _ (by omega) (by omega) (by rw [List.length_append, List.length_singleton]; omega) (by omega), List.append_assoc]
    rfl
theorem markInts_f (i a n fuel : Nat) (hi : i ≤ 1000) (hf : n < fuel) (ha : a + n ≤ 4000000) : emulsionbook_markInts.f fuel (i : Int) (a : Int) (n : Int) = some (marks mkInts i a n) := by
  unfold emulsionbook_markInts.f
  rw [markInts_l i a n hi n a fuel [] rfl hf (by rw [List.length_nil]; omega) ha, List.nil_append]
theorem sameInts_l (l : List Int) (hl : l.length ≤ 4000000) : ∀ (m j fuel : Nat), j + m = l.length → m < fuel → emulsionbook_SameInts.l0 fuel l l (j : Int) = some true
  | 0, j, fuel, hj, hf => by
    obtain ⟨f, rfl⟩ : ∃ f, fuel = f + 1 := ⟨fuel - 1, by omega⟩
    unfold emulsionbook_SameInts.l0
    rw [if_neg (by omega)]
  | m + 1, j, fuel, hj, hf => by
    obtain ⟨f, rfl⟩ : ∃ f, fuel = f + 1 := ⟨fuel - 1, by omega⟩
    unfold emulsionbook_SameInts.l0
    rw [if_pos (by omega), if_pos (by omega), if_pos (by omega), if_pos (by simp), w_id (x := (j : Int) + 1) (by omega) (by omega), show (j : Int) + 1 = ((j + 1 : Nat) : Int) by omega]
    exact sameInts_l l hl m (j + 1) f (by omega) (by omega)
theorem sameInts_f (l : List Int) (hl : l.length ≤ 4000000) (fuel : Nat) (hf : l.length < fuel) : emulsionbook_SameInts.f fuel l l = some true := by
  unfold emulsionbook_SameInts.f
  rw [if_pos rfl]
  exact sameInts_l l hl l.length 0 fuel (by omega) hf
theorem markedInts_step (k : Nat) (x0 : List (List Int)) (x3 : Int) : emulsionbook_markedInts.l0 (k + 1) x0 x3 = if x3 < (x0.length : Int) then (if 0 ≤ x3 then ((emulsionbook_markInts.f k x3 0 ((x0.getD x3.toNat []).length : Int)).bind fun a => ((emulsionbook_SameInts.f k (x0.getD x3.toNat []) a).bind fun b => (if b = true then (emulsionbook_markedInts.l0 k x0 (wrap64 (x3 + 1))) else (some false)))) else (none)) else (some true) := rfl
theorem markedInts_l (L : List (List Int)) (hL : L.length ≤ 1000) (B : Nat) (hB : B ≤ 4000000) (h : ∀ (i : Nat) l, L[i]? = some l → l.length ≤ B ∧ l = marks mkInts i 0 l.length) : ∀ (m j fuel : Nat), j + m = L.length → m + B + 1 < fuel → emulsionbook_markedInts.l0 fuel L (j : Int) = some true
  | 0, j, fuel, hj, hf => by
    obtain ⟨f, rfl⟩ : ∃ f, fuel = f + 1 := ⟨fuel - 1, by omega⟩
    rw [markedInts_step, if_neg (by omega)]
  | m + 1, j, fuel, hj, hf => by
    obtain ⟨f, rfl⟩ : ∃ f, fuel = f + 1 := ⟨fuel - 1, by omega⟩
    have hlt : j < L.length := by omega
    obtain ⟨h1, h2⟩ := h j _ (List.getElem?_eq_getElem hlt)
    have hg : L.getD ((j : Nat) : Int).toNat [] = L[j] := by rw [Int.toNat_natCast, List.getD_eq_getElem?_getD, List.getElem?_eq_getElem hlt]; rfl
    rw [markedInts_step, if_pos (by omega), if_pos (by omega), hg, show (0 : Int) = ((0 : Nat) : Int) from rfl, markInts_f j 0 _ f (by omega) (by omega) (by omega), Option.bind_some, ← h2, sameInts_f _ (by omega) f (by omega), Option.bind_some, if_pos rfl, w_id (x := (j : Int) + 1) (by omega) (by omega), show (j : Int) + 1 = ((j + 1 : Nat) : Int) by omega]
    exact markedInts_l L hL B hB h m (j + 1) f (by omega) (by omega)
theorem markedInts_f (L : List (List Int)) (hL : L.length ≤ 1000) (B : Nat) (hB : B ≤ 4000000) (h : ∀ (i : Nat) l, L[i]? = some l → l.length ≤ B ∧ l = marks mkInts i 0 l.length) (fuel : Nat) (hf : L.length + B + 1 < fuel) : emulsionbook_markedInts.f fuel L = some true :=
  markedInts_l L hL B hB h L.length 0 fuel (by omega) hf
/-- A mark. -/
def mkExtents (i k : Nat) : S96 := ⟨-1000 * (i : Int) - k - 1, 0, 0⟩
theorem markExtents_l (i a n : Nat) (hi : i ≤ 1000) : ∀ (m j fuel : Nat) (acc : List S96), j + m = a + n → m < fuel → acc.length + m ≤ 4000000 → j + m ≤ 4000000 → emulsionbook_markExtents.l0 fuel (i : Int) (a : Int) (n : Int) acc (j : Int) = some (acc ++ marks mkExtents i j m)
  | 0, j, fuel, acc, hj, hf, ha, hb => by
    obtain ⟨f, rfl⟩ : ∃ f, fuel = f + 1 := ⟨fuel - 1, by omega⟩
    unfold emulsionbook_markExtents.l0
    rw [w_id (by omega) (by omega), if_neg (by omega)]
    unfold marks
    rw [List.append_nil]
  | m + 1, j, fuel, acc, hj, hf, ha, hb => by
    obtain ⟨f, rfl⟩ : ∃ f, fuel = f + 1 := ⟨fuel - 1, by omega⟩
    unfold emulsionbook_markExtents.l0
    rw [w_id (x := (a : Int) + (n : Int)) (by omega) (by omega), if_pos (by omega), if_pos (by omega), w_id (x := (j : Int) + 1) (by omega) (by omega), w_id (x := _ * (i : Int)) (by omega) (by omega), w_id (x := _ - (j : Int)) (by omega) (by omega), w_id (by omega) (by omega), show (j : Int) + 1 = ((j + 1 : Nat) : Int) by omega, markExtents_l i a n hi m (j + 1) f _ (by omega) (by omega) (by rw [List.length_append, List.length_singleton]; omega) (by omega), List.append_assoc]
    rfl
theorem markExtents_f (i a n fuel : Nat) (hi : i ≤ 1000) (hf : n < fuel) (ha : a + n ≤ 4000000) : emulsionbook_markExtents.f fuel (i : Int) (a : Int) (n : Int) = some (marks mkExtents i a n) := by
  unfold emulsionbook_markExtents.f
  rw [markExtents_l i a n hi n a fuel [] rfl hf (by rw [List.length_nil]; omega) ha, List.nil_append]
theorem sameExtents_l (l : List S96) (hl : l.length ≤ 4000000) : ∀ (m j fuel : Nat), j + m = l.length → m < fuel → emulsionbook_SameExtents.l0 fuel l l (j : Int) = some true
  | 0, j, fuel, hj, hf => by
    obtain ⟨f, rfl⟩ : ∃ f, fuel = f + 1 := ⟨fuel - 1, by omega⟩
    unfold emulsionbook_SameExtents.l0
    rw [if_neg (by omega)]
  | m + 1, j, fuel, hj, hf => by
    obtain ⟨f, rfl⟩ : ∃ f, fuel = f + 1 := ⟨fuel - 1, by omega⟩
    unfold emulsionbook_SameExtents.l0
    rw [if_pos (by omega), if_pos (by omega), if_pos (by omega), if_pos (by simp), w_id (x := (j : Int) + 1) (by omega) (by omega), show (j : Int) + 1 = ((j + 1 : Nat) : Int) by omega]
    exact sameExtents_l l hl m (j + 1) f (by omega) (by omega)
theorem sameExtents_f (l : List S96) (hl : l.length ≤ 4000000) (fuel : Nat) (hf : l.length < fuel) : emulsionbook_SameExtents.f fuel l l = some true := by
  unfold emulsionbook_SameExtents.f
  rw [if_pos rfl]
  exact sameExtents_l l hl l.length 0 fuel (by omega) hf
theorem markedExtents_step (k : Nat) (x0 : List (List S96)) (x3 : Int) : emulsionbook_markedExtents.l0 (k + 1) x0 x3 = if x3 < (x0.length : Int) then (if 0 ≤ x3 then ((emulsionbook_markExtents.f k x3 0 ((x0.getD x3.toNat []).length : Int)).bind fun a => ((emulsionbook_SameExtents.f k (x0.getD x3.toNat []) a).bind fun b => (if b = true then (emulsionbook_markedExtents.l0 k x0 (wrap64 (x3 + 1))) else (some false)))) else (none)) else (some true) := rfl
theorem markedExtents_l (L : List (List S96)) (hL : L.length ≤ 1000) (B : Nat) (hB : B ≤ 4000000) (h : ∀ (i : Nat) l, L[i]? = some l → l.length ≤ B ∧ l = marks mkExtents i 0 l.length) : ∀ (m j fuel : Nat), j + m = L.length → m + B + 1 < fuel → emulsionbook_markedExtents.l0 fuel L (j : Int) = some true
  | 0, j, fuel, hj, hf => by
    obtain ⟨f, rfl⟩ : ∃ f, fuel = f + 1 := ⟨fuel - 1, by omega⟩
    rw [markedExtents_step, if_neg (by omega)]
  | m + 1, j, fuel, hj, hf => by
    obtain ⟨f, rfl⟩ : ∃ f, fuel = f + 1 := ⟨fuel - 1, by omega⟩
    have hlt : j < L.length := by omega
    obtain ⟨h1, h2⟩ := h j _ (List.getElem?_eq_getElem hlt)
    have hg : L.getD ((j : Nat) : Int).toNat [] = L[j] := by rw [Int.toNat_natCast, List.getD_eq_getElem?_getD, List.getElem?_eq_getElem hlt]; rfl
    rw [markedExtents_step, if_pos (by omega), if_pos (by omega), hg, show (0 : Int) = ((0 : Nat) : Int) from rfl, markExtents_f j 0 _ f (by omega) (by omega) (by omega), Option.bind_some, ← h2, sameExtents_f _ (by omega) f (by omega), Option.bind_some, if_pos rfl, w_id (x := (j : Int) + 1) (by omega) (by omega), show (j : Int) + 1 = ((j + 1 : Nat) : Int) by omega]
    exact markedExtents_l L hL B hB h m (j + 1) f (by omega) (by omega)
theorem markedExtents_f (L : List (List S96)) (hL : L.length ≤ 1000) (B : Nat) (hB : B ≤ 4000000) (h : ∀ (i : Nat) l, L[i]? = some l → l.length ≤ B ∧ l = marks mkExtents i 0 l.length) (fuel : Nat) (hf : L.length + B + 1 < fuel) : emulsionbook_markedExtents.f fuel L = some true :=
  markedExtents_l L hL B hB h L.length 0 fuel (by omega) hf
end Go.Proofs.Ytacmfpkmcefcfaa.Hand
end
section
namespace Go.Proofs.Ytacmfpkmcefcfaa.Hand
open Go.RowKit Go.Proofs.YtacmfpkmcefcfaaW.PrintWords Go.Proofs.YtacmfpkmcefcfaaW.PrintLast Go.Proofs.YtacmfpkmcefcfaaW.PrintMore Go.Proofs.Ytacmfpkmcefcfaa.A
set_option linter.unusedVariables false
set_option linter.unusedSimpArgs false
attribute [local go_sem] max2_int min2_int max_two min_two max_three min_three max_four min_four
theorem drawnB {w W : World} (h : Drawn0 w W) : Below w.heap.size w W := by
  obtain ⟨k, rfl⟩ := h
  exact pw_below_drewN (Below.refl _ _) _
/-- A book: its fourteen rows. -/
def bookC (VI UI VS US VE UE : Value) : Array Value := #[.slice none 0 0, .slice none 0 0, VI, UI, VS, US, VE, UE, .slice none 0 0, .slice none 0 0, .slice none 0 0, .slice none 0 0, .slice none 0 0, .slice none 0 0]
set_option maxRecDepth 100000 in
set_option maxHeartbeats 1600000 in
theorem still_Spans (g base : Nat) (VI UI VE UE : Value) (V U : Value) (vs us : List Value) (L : List (List S119)) (w : World) (hb : Blk w g 60 (bookC VI UI V U VE UE)) (hP : Pile k119 119 128 w base V U vs us L)
    (hL : L.length ≤ 250) (hB : ∀ (i : Nat) l, L[i]? = some l → l.length ≤ 1000000) :
    Calls Try.prog 67 #[.pointer (some ⟨g, 0, none⟩)] w fun e w' => e = .returned (.bool true) ∧ Below w.heap.size w w' := by
  obtain ⟨A, n, rfl⟩ := row_slice hP.hV
  obtain ⟨AU, nU, rfl⟩ := row_slice hP.hU
  have HB := Aside0.mk hb
  have HP := Aside0.mk hP
  have HBd := Aside0.mk hB
  have HL := Aside0.mk hL
  clear hb hP hB hL
  go_enter Try.func67, Try.ntmps67
  go_wp2_with fail
  go_loopg [3] L.length (fun kq v wq => ∃ k : Nat, k + kq = L.length ∧ v = .int .i64 (k : Int) ∧ Aside0 (Below w.heap.size w wq))
  case atStart => exact ⟨0, by omega, rfl, ⟨Below.refl _ _⟩⟩
  case round =>
    obtain ⟨k, hk, rfl, HW⟩ := hrel
    have hb1 := HB.out.keep HW.out
    have c4 := hb1.cell (i := 4) (v := .slice A L.length n) rfl
    have HB1 := Aside0.mk hb1
    clear hb1
    by_cases hlt : k < L.length
    · have hlt' : (k : Int) < (L.length : Int) := by omega
      have hk' : (k : Int) ≤ 250 := by have := HL.out; omega
      obtain ⟨kk, rfl⟩ : ∃ z, gk = z + 1 := ⟨gk - 1, by omega⟩
      obtain ⟨l, hl⟩ : ∃ l, L[k]? = some l := ⟨_, List.getElem?_eq_getElem hlt⟩
      have hbd := HBd.out k l hl
      obtain ⟨gv, cV, Av, cv, hVe, hcell, _, _, hle, hC⟩ := (HP.out.shelf.below HW.out).at hl
      obtain ⟨gu, cU, Au, cu, hUe, hcell2, _, _, hle2, hC2⟩ := (HP.out.shelfU.below HW.out).at hl
      injection hVe with q1 q2 q3
      injection hUe with q4 q5 q6
      subst q1; subst q3; subst q4; subst q6
      have HCa := Aside0.mk hC
      have HCb := Aside0.mk hC2
      have hcb : HB1.out.cell (i := 5) (v := .slice (some ⟨gu, 0, none⟩) L.length nU) rfl = HB1.out.cell (i := 5) rfl := rfl
      have c5 := HB1.out.cell (i := 5) (v := .slice (some ⟨gu, 0, none⟩) L.length nU) rfl
      have hsm := Aside0.mk (sameSpans_f l (by omega) (l.length + 1) (by omega))
      clear hC hC2 hcb
      go_wp2_with fail
      refine start_ (n := 16) (S := fun w' => w'.cell? ⟨g, 4, none⟩ = some (.slice (some ⟨gv, 0, none⟩) L.length n) ∧ w'.cell? ⟨g, 5, none⟩ = some (.slice (some ⟨gu, 0, none⟩) L.length nU) ∧ w'.cell? ⟨gv, k, none⟩ = some (.slice Av l.length cv) ∧ w'.cell? ⟨gu, k, none⟩ = some (.slice Au l.length cu) ∧ Below w.heap.size w w' ∧ Kd.C k119 w' Av l.length l ∧ Kd.C k119 w' Au l.length l) (ds := []) #[false, false, false, false, false, false, false, false, false, false, false, false, false, false, false, false] (by kernel_rfl) rfl rfl ⟨c4, c5, hcell, hcell2, (below_drew HW.out), (Kd.C_drew HCa.out), (Kd.C_drew HCb.out)⟩ (fun hHeld => ?_)
      refine pure_ (i := 0) (N := some 13) (v := ?_) (a' := ?_) #[true, false, false, false, false, false, false, false, false, false, false, false, false, false, false, false] rfl rfl (by kernel_rfl) (fun _ _ _ h => h) (Or.inl ⟨by rfl, ?_⟩) ?_ ?_
      rotate_left
      · intro w'
        go_simp
        with_reducible rfl
      rotate_left
      · simp only [Act.put, List.setIfInBounds_toArray, List.set_cons_zero, List.set_cons_succ, i64_w, i32_w]
        rfl
      refine pure_ (i := 1) (N := some 14) (v := ?_) (a' := ?_) #[true, true, false, false, false, false, false, false, false, false, false, false, false, false, false, false] rfl rfl (by kernel_rfl) (fun _ _ _ h => h) (Or.inl ⟨by rfl, ?_⟩) ?_ ?_
      rotate_left
      · intro w'
        go_simp
        with_reducible rfl
      rotate_left
      · simp only [Act.put, List.setIfInBounds_toArray, List.set_cons_zero, List.set_cons_succ, i64_w, i32_w]
        rfl
      refine pure_ (i := 2) (N := some 15) (v := ?_) (a' := ?_) #[true, true, true, false, false, false, false, false, false, false, false, false, false, false, false, false] rfl rfl (by kernel_rfl) (fun _ _ _ h => h) (Or.inl ⟨by rfl, ?_⟩) ?_ ?_
      rotate_left
      · intro w'
        go_simp
        with_reducible rfl
      rotate_left
      · simp only [Act.put, List.setIfInBounds_toArray, List.set_cons_zero, List.set_cons_succ, i64_w, i32_w]
        rfl
      refine pure_ (i := 4) (N := some 17) (v := ?_) (a' := ?_) #[true, true, true, false, true, false, false, false, false, false, false, false, false, false, false, false] rfl rfl (by kernel_rfl) (fun _ _ _ h => h) (Or.inl ⟨by rfl, ?_⟩) ?_ ?_
      rotate_left
      · intro w'
        go_simp
        with_reducible rfl
      rotate_left
      · simp only [Act.put, List.setIfInBounds_toArray, List.set_cons_zero, List.set_cons_succ, i64_w, i32_w]
        rfl
      refine pure_ (i := 7) (N := some 20) (v := ?_) (a' := ?_) #[true, true, true, false, true, false, false, true, false, false, false, false, false, false, false, false] rfl rfl (by kernel_rfl) (fun _ _ _ h => h) (Or.inl ⟨by rfl, ?_⟩) ?_ ?_
      rotate_left
      · intro w'
        go_simp
        with_reducible rfl
      rotate_left
      · simp only [Act.put, List.setIfInBounds_toArray, List.set_cons_zero, List.set_cons_succ, i64_w, i32_w]
        rfl
      refine pure_ (i := 8) (N := some 21) (v := ?_) (a' := ?_) #[true, true, true, false, true, false, false, true, true, false, false, false, false, false, false, false] rfl rfl (by kernel_rfl) (fun _ _ _ h => h) (Or.inl ⟨by rfl, ?_⟩) ?_ ?_
      rotate_left
      · intro w'
        go_simp
        with_reducible rfl
      rotate_left
      · simp only [Act.put, List.setIfInBounds_toArray, List.set_cons_zero, List.set_cons_succ, i64_w, i32_w]
        rfl
      refine pure_ (i := 9) (N := some 22) (v := ?_) (a' := ?_) #[true, true, true, false, true, false, false, true, true, true, false, false, false, false, false, false] rfl rfl (by kernel_rfl) (fun _ _ _ h => h) (Or.inl ⟨by rfl, ?_⟩) ?_ ?_
      rotate_left
      · intro w'
        go_simp
        with_reducible rfl
      rotate_left
      · simp only [Act.put, List.setIfInBounds_toArray, List.set_cons_zero, List.set_cons_succ, i64_w, i32_w]
        rfl
      refine pure_ (i := 11) (N := some 24) (v := ?_) (a' := ?_) #[true, true, true, false, true, false, false, true, true, true, false, true, false, false, false, false] rfl rfl (by kernel_rfl) (fun _ _ _ h => h) (Or.inl ⟨by rfl, ?_⟩) ?_ ?_
      rotate_left
      · intro w'
        go_simp
        with_reducible rfl
      rotate_left
      · simp only [Act.put, List.setIfInBounds_toArray, List.set_cons_zero, List.set_cons_succ, i64_w, i32_w]
        rfl
      refine take_ (i := 3) (N := some 16) (v := ?_) (a' := ?_) #[true, true, true, true, true, false, false, true, true, true, false, true, false, false, false, false] rfl rfl (by kernel_rfl) (fun _ _ _ h => h) (Or.inl ⟨by rfl, ?_⟩) hHeld ?_ ?_
      rotate_left
      · rintro w' ⟨s0, s1, s2, s3, s4, s5, s6⟩
        go_simp
        with_reducible rfl
      rotate_left
      · simp only [Act.put, List.setIfInBounds_toArray, List.set_cons_zero, List.set_cons_succ, i64_w, i32_w]
        rfl
      refine pure_ (i := 5) (N := some 18) (v := ?_) (a' := ?_) #[true, true, true, true, true, true, false, true, true, true, false, true, false, false, false, false] rfl rfl (by kernel_rfl) (fun _ _ _ h => h) (Or.inl ⟨by rfl, ?_⟩) ?_ ?_
      rotate_left
      · intro w'
        go_simp
        with_reducible rfl
      rotate_left
      · simp only [Act.put, List.setIfInBounds_toArray, List.set_cons_zero, List.set_cons_succ, i64_w, i32_w]
        rfl
      refine take_ (i := 6) (N := some 19) (v := ?_) (a' := ?_) #[true, true, true, true, true, true, true, true, true, true, false, true, false, false, false, false] rfl rfl (by kernel_rfl) (fun _ _ _ h => h) (Or.inl ⟨by rfl, ?_⟩) hHeld ?_ ?_
      rotate_left
      · rintro w' ⟨s0, s1, s2, s3, s4, s5, s6⟩
        go_simp
        with_reducible rfl
      rotate_left
      · simp only [Act.put, List.setIfInBounds_toArray, List.set_cons_zero, List.set_cons_succ, i64_w, i32_w]
        rfl
      refine take_ (i := 10) (N := some 23) (v := ?_) (a' := ?_) #[true, true, true, true, true, true, true, true, true, true, true, true, false, false, false, false] rfl rfl (by kernel_rfl) (fun _ _ _ h => h) (Or.inl ⟨by rfl, ?_⟩) hHeld ?_ ?_
      rotate_left
      · rintro w' ⟨s0, s1, s2, s3, s4, s5, s6⟩
        go_simp
        with_reducible rfl
      rotate_left
      · simp only [Act.put, List.setIfInBounds_toArray, List.set_cons_zero, List.set_cons_succ, i64_w, i32_w]
        rfl
      refine pure_ (i := 12) (N := some 25) (v := ?_) (a' := ?_) #[true, true, true, true, true, true, true, true, true, true, true, true, true, false, false, false] rfl rfl (by kernel_rfl) (fun _ _ _ h => h) (Or.inl ⟨by rfl, ?_⟩) ?_ ?_
      rotate_left
      · intro w'
        go_simp
        with_reducible rfl
      rotate_left
      · simp only [Act.put, List.setIfInBounds_toArray, List.set_cons_zero, List.set_cons_succ, i64_w, i32_w]
        rfl
      refine take_ (i := 13) (N := some 26) (v := ?_) (a' := ?_) #[true, true, true, true, true, true, true, true, true, true, true, true, true, true, false, false] rfl rfl (by kernel_rfl) (fun _ _ _ h => h) (Or.inl ⟨by rfl, ?_⟩) hHeld ?_ ?_
      rotate_left
      · rintro w' ⟨s0, s1, s2, s3, s4, s5, s6⟩
        go_simp
        with_reducible rfl
      rotate_left
      · simp only [Act.put, List.setIfInBounds_toArray, List.set_cons_zero, List.set_cons_succ, i64_w, i32_w]
        rfl
      refine one_ (i := 14) (N := some 27) #[true, true, true, true, true, true, true, true, true, true, true, true, true, true, true, false] rfl rfl (by kernel_rfl) (by decide) (fun K hK => ?_)
      refine goes_ Try.func106 (by kernel_rfl) rfl #[.slice Av l.length cv, .slice Au l.length cu] (by rfl) rfl rfl (by simp only [List.map_toArray, List.map_cons, List.map_nil]; rfl) ?_
      with_reducible refine (emulsionbook_SameSpans.calls (l.length + 1) Av cv l Au cu l true _ hHeld.2.2.2.2.2.1 hle hHeld.2.2.2.2.2.2 hle2 hsm.out).mono ?_
      rintro e w6 ⟨rfl, hd⟩
      refine ⟨_, rfl, ?_⟩
      refine hK.out _ _ ⟨(keepP (drawnB hd) hHeld.1), (keepP (drawnB hd) hHeld.2.1), (keepP (drawnB hd) hHeld.2.2.1), (keepP (drawnB hd) hHeld.2.2.2.1), (below_step hHeld.2.2.2.2.1 (drawnB hd)), (Kd.C_below hHeld.2.2.2.2.2.1 (drawnB hd)), (Kd.C_below hHeld.2.2.2.2.2.2 (drawnB hd))⟩ (fun hHeld => ?_)
      clear hK K
      refine norm_ (a' := ?_) ?_ ?_
      rotate_left
      · show Act.put _ (some 27) _ = _
        simp only [Act.put, List.setIfInBounds_toArray, List.set_cons_zero, List.set_cons_succ, i64_w, i32_w]
        rfl
      refine pure_ (i := 15) (N := some 28) (v := ?_) (a' := ?_) #[true, true, true, true, true, true, true, true, true, true, true, true, true, true, true, true] rfl rfl (by kernel_rfl) (fun _ _ _ h => h) (Or.inl ⟨by rfl, ?_⟩) ?_ ?_
      rotate_left
      · intro w'
        go_simp
        with_reducible rfl
      rotate_left
      · simp only [Act.put, List.setIfInBounds_toArray, List.set_cons_zero, List.set_cons_succ, i64_w, i32_w]
        rfl
      refine done_ (by kernel_rfl) ?_
      have HW5 := Aside0.mk hHeld.2.2.2.2.1
      clear hHeld
      go_wp2_with fail
      go_roundg kk
      case measure => omega
      case rel => exact ⟨k + 1, by omega, by go_num, HW5⟩
    · obtain rfl : k = L.length := by omega
      have hlt' : ¬ (L.length : Int) < (L.length : Int) := by omega
      go_wp2_with fail
      go_ret
      exact ⟨rfl, HW.out⟩
set_option maxRecDepth 100000 in
set_option maxHeartbeats 1600000 in
theorem still_Ints (g base : Nat) (VS US VE UE : Value) (V U : Value) (vs us : List Value) (L : List (List Int)) (w : World) (hb : Blk w g 60 (bookC V U VS US VE UE)) (hP : Pile (Kd.int .i64) 3 75 w base V U vs us L)
    (hL : L.length ≤ 250) (hB : ∀ (i : Nat) l, L[i]? = some l → l.length ≤ 1000000) :
    Calls Try.prog 66 #[.pointer (some ⟨g, 0, none⟩)] w fun e w' => e = .returned (.bool true) ∧ Below w.heap.size w w' := by
  obtain ⟨A, n, rfl⟩ := row_slice hP.hV
  obtain ⟨AU, nU, rfl⟩ := row_slice hP.hU
  have HB := Aside0.mk hb
  have HP := Aside0.mk hP
  have HBd := Aside0.mk hB
  have HL := Aside0.mk hL
  clear hb hP hB hL
  go_enter Try.func66, Try.ntmps66
  go_wp2_with fail
  go_loopg [3] L.length (fun kq v wq => ∃ k : Nat, k + kq = L.length ∧ v = .int .i64 (k : Int) ∧ Aside0 (Below w.heap.size w wq))
  case atStart => exact ⟨0, by omega, rfl, ⟨Below.refl _ _⟩⟩
  case round =>
    obtain ⟨k, hk, rfl, HW⟩ := hrel
    have hb1 := HB.out.keep HW.out
    have c4 := hb1.cell (i := 2) (v := .slice A L.length n) rfl
    have HB1 := Aside0.mk hb1
    clear hb1
    by_cases hlt : k < L.length
    · have hlt' : (k : Int) < (L.length : Int) := by omega
      have hk' : (k : Int) ≤ 250 := by have := HL.out; omega
      obtain ⟨kk, rfl⟩ : ∃ z, gk = z + 1 := ⟨gk - 1, by omega⟩
      obtain ⟨l, hl⟩ : ∃ l, L[k]? = some l := ⟨_, List.getElem?_eq_getElem hlt⟩
      have hbd := HBd.out k l hl
      obtain ⟨gv, cV, Av, cv, hVe, hcell, _, _, hle, hC⟩ := (HP.out.shelf.below HW.out).at hl
      obtain ⟨gu, cU, Au, cu, hUe, hcell2, _, _, hle2, hC2⟩ := (HP.out.shelfU.below HW.out).at hl
      injection hVe with q1 q2 q3
      injection hUe with q4 q5 q6
      subst q1; subst q3; subst q4; subst q6
      have HCa := Aside0.mk hC
      have HCb := Aside0.mk hC2
      have hcb : HB1.out.cell (i := 3) (v := .slice (some ⟨gu, 0, none⟩) L.length nU) rfl = HB1.out.cell (i := 3) rfl := rfl
      have c5 := HB1.out.cell (i := 3) (v := .slice (some ⟨gu, 0, none⟩) L.length nU) rfl
      have hsm := Aside0.mk (sameInts_f l (by omega) (l.length + 1) (by omega))
      clear hC hC2 hcb
      go_wp2_with fail
      refine start_ (n := 16) (S := fun w' => w'.cell? ⟨g, 2, none⟩ = some (.slice (some ⟨gv, 0, none⟩) L.length n) ∧ w'.cell? ⟨g, 3, none⟩ = some (.slice (some ⟨gu, 0, none⟩) L.length nU) ∧ w'.cell? ⟨gv, k, none⟩ = some (.slice Av l.length cv) ∧ w'.cell? ⟨gu, k, none⟩ = some (.slice Au l.length cu) ∧ Below w.heap.size w w' ∧ Kd.C (Kd.int .i64) w' Av l.length l ∧ Kd.C (Kd.int .i64) w' Au l.length l) (ds := []) #[false, false, false, false, false, false, false, false, false, false, false, false, false, false, false, false] (by kernel_rfl) rfl rfl ⟨c4, c5, hcell, hcell2, (below_drew HW.out), (Kd.C_drew HCa.out), (Kd.C_drew HCb.out)⟩ (fun hHeld => ?_)
      refine pure_ (i := 0) (N := some 13) (v := ?_) (a' := ?_) #[true, false, false, false, false, false, false, false, false, false, false, false, false, false, false, false] rfl rfl (by kernel_rfl) (fun _ _ _ h => h) (Or.inl ⟨by rfl, ?_⟩) ?_ ?_
      rotate_left
      · intro w'
        go_simp
        with_reducible rfl
      rotate_left
      · simp only [Act.put, List.setIfInBounds_toArray, List.set_cons_zero, List.set_cons_succ, i64_w, i32_w]
        rfl
      refine pure_ (i := 1) (N := some 14) (v := ?_) (a' := ?_) #[true, true, false, false, false, false, false, false, false, false, false, false, false, false, false, false] rfl rfl (by kernel_rfl) (fun _ _ _ h => h) (Or.inl ⟨by rfl, ?_⟩) ?_ ?_
      rotate_left
      · intro w'
        go_simp
        with_reducible rfl
      rotate_left
      · simp only [Act.put, List.setIfInBounds_toArray, List.set_cons_zero, List.set_cons_succ, i64_w, i32_w]
        rfl
      refine pure_ (i := 2) (N := some 15) (v := ?_) (a' := ?_) #[true, true, true, false, false, false, false, false, false, false, false, false, false, false, false, false] rfl rfl (by kernel_rfl) (fun _ _ _ h => h) (Or.inl ⟨by rfl, ?_⟩) ?_ ?_
      rotate_left
      · intro w'
        go_simp
        with_reducible rfl
      rotate_left
      · simp only [Act.put, List.setIfInBounds_toArray, List.set_cons_zero, List.set_cons_succ, i64_w, i32_w]
        rfl
      refine pure_ (i := 4) (N := some 17) (v := ?_) (a' := ?_) #[true, true, true, false, true, false, false, false, false, false, false, false, false, false, false, false] rfl rfl (by kernel_rfl) (fun _ _ _ h => h) (Or.inl ⟨by rfl, ?_⟩) ?_ ?_
      rotate_left
      · intro w'
        go_simp
        with_reducible rfl
      rotate_left
      · simp only [Act.put, List.setIfInBounds_toArray, List.set_cons_zero, List.set_cons_succ, i64_w, i32_w]
        rfl
      refine pure_ (i := 7) (N := some 20) (v := ?_) (a' := ?_) #[true, true, true, false, true, false, false, true, false, false, false, false, false, false, false, false] rfl rfl (by kernel_rfl) (fun _ _ _ h => h) (Or.inl ⟨by rfl, ?_⟩) ?_ ?_
      rotate_left
      · intro w'
        go_simp
        with_reducible rfl
      rotate_left
      · simp only [Act.put, List.setIfInBounds_toArray, List.set_cons_zero, List.set_cons_succ, i64_w, i32_w]
        rfl
      refine pure_ (i := 8) (N := some 21) (v := ?_) (a' := ?_) #[true, true, true, false, true, false, false, true, true, false, false, false, false, false, false, false] rfl rfl (by kernel_rfl) (fun _ _ _ h => h) (Or.inl ⟨by rfl, ?_⟩) ?_ ?_
      rotate_left
      · intro w'
        go_simp
        with_reducible rfl
      rotate_left
      · simp only [Act.put, List.setIfInBounds_toArray, List.set_cons_zero, List.set_cons_succ, i64_w, i32_w]
        rfl
      refine pure_ (i := 9) (N := some 22) (v := ?_) (a' := ?_) #[true, true, true, false, true, false, false, true, true, true, false, false, false, false, false, false] rfl rfl (by kernel_rfl) (fun _ _ _ h => h) (Or.inl ⟨by rfl, ?_⟩) ?_ ?_
      rotate_left
      · intro w'
        go_simp
        with_reducible rfl
      rotate_left
      · simp only [Act.put, List.setIfInBounds_toArray, List.set_cons_zero, List.set_cons_succ, i64_w, i32_w]
        rfl
      refine pure_ (i := 11) (N := some 24) (v := ?_) (a' := ?_) #[true, true, true, false, true, false, false, true, true, true, false, true, false, false, false, false] rfl rfl (by kernel_rfl) (fun _ _ _ h => h) (Or.inl ⟨by rfl, ?_⟩) ?_ ?_
      rotate_left
      · intro w'
        go_simp
        with_reducible rfl
      rotate_left
      · simp only [Act.put, List.setIfInBounds_toArray, List.set_cons_zero, List.set_cons_succ, i64_w, i32_w]
        rfl
      refine take_ (i := 3) (N := some 16) (v := ?_) (a' := ?_) #[true, true, true, true, true, false, false, true, true, true, false, true, false, false, false, false] rfl rfl (by kernel_rfl) (fun _ _ _ h => h) (Or.inl ⟨by rfl, ?_⟩) hHeld ?_ ?_
      rotate_left
      · rintro w' ⟨s0, s1, s2, s3, s4, s5, s6⟩
        go_simp
        with_reducible rfl
      rotate_left
      · simp only [Act.put, List.setIfInBounds_toArray, List.set_cons_zero, List.set_cons_succ, i64_w, i32_w]
        rfl
      refine pure_ (i := 5) (N := some 18) (v := ?_) (a' := ?_) #[true, true, true, true, true, true, false, true, true, true, false, true, false, false, false, false] rfl rfl (by kernel_rfl) (fun _ _ _ h => h) (Or.inl ⟨by rfl, ?_⟩) ?_ ?_
      rotate_left
      · intro w'
        go_simp
        with_reducible rfl
      rotate_left
      · simp only [Act.put, List.setIfInBounds_toArray, List.set_cons_zero, List.set_cons_succ, i64_w, i32_w]
        rfl
      refine take_ (i := 6) (N := some 19) (v := ?_) (a' := ?_) #[true, true, true, true, true, true, true, true, true, true, false, true, false, false, false, false] rfl rfl (by kernel_rfl) (fun _ _ _ h => h) (Or.inl ⟨by rfl, ?_⟩) hHeld ?_ ?_
      rotate_left
      · rintro w' ⟨s0, s1, s2, s3, s4, s5, s6⟩
        go_simp
        with_reducible rfl
      rotate_left
      · simp only [Act.put, List.setIfInBounds_toArray, List.set_cons_zero, List.set_cons_succ, i64_w, i32_w]
        rfl
      refine take_ (i := 10) (N := some 23) (v := ?_) (a' := ?_) #[true, true, true, true, true, true, true, true, true, true, true, true, false, false, false, false] rfl rfl (by kernel_rfl) (fun _ _ _ h => h) (Or.inl ⟨by rfl, ?_⟩) hHeld ?_ ?_
      rotate_left
      · rintro w' ⟨s0, s1, s2, s3, s4, s5, s6⟩
        go_simp
        with_reducible rfl
      rotate_left
      · simp only [Act.put, List.setIfInBounds_toArray, List.set_cons_zero, List.set_cons_succ, i64_w, i32_w]
        rfl
      refine pure_ (i := 12) (N := some 25) (v := ?_) (a' := ?_) #[true, true, true, true, true, true, true, true, true, true, true, true, true, false, false, false] rfl rfl (by kernel_rfl) (fun _ _ _ h => h) (Or.inl ⟨by rfl, ?_⟩) ?_ ?_
      rotate_left
      · intro w'
        go_simp
        with_reducible rfl
      rotate_left
      · simp only [Act.put, List.setIfInBounds_toArray, List.set_cons_zero, List.set_cons_succ, i64_w, i32_w]
        rfl
      refine take_ (i := 13) (N := some 26) (v := ?_) (a' := ?_) #[true, true, true, true, true, true, true, true, true, true, true, true, true, true, false, false] rfl rfl (by kernel_rfl) (fun _ _ _ h => h) (Or.inl ⟨by rfl, ?_⟩) hHeld ?_ ?_
      rotate_left
      · rintro w' ⟨s0, s1, s2, s3, s4, s5, s6⟩
        go_simp
        with_reducible rfl
      rotate_left
      · simp only [Act.put, List.setIfInBounds_toArray, List.set_cons_zero, List.set_cons_succ, i64_w, i32_w]
        rfl
      refine one_ (i := 14) (N := some 27) #[true, true, true, true, true, true, true, true, true, true, true, true, true, true, true, false] rfl rfl (by kernel_rfl) (by decide) (fun K hK => ?_)
      refine goes_ Try.func54 (by kernel_rfl) rfl #[.slice Av l.length cv, .slice Au l.length cu] (by rfl) rfl rfl (by simp only [List.map_toArray, List.map_cons, List.map_nil]; rfl) ?_
      with_reducible refine (emulsionbook_SameInts.calls (l.length + 1) Av cv l Au cu l true _ hHeld.2.2.2.2.2.1 hle hHeld.2.2.2.2.2.2 hle2 hsm.out).mono ?_
      rintro e w6 ⟨rfl, hd⟩
      refine ⟨_, rfl, ?_⟩
      refine hK.out _ _ ⟨(keepP (drawnB hd) hHeld.1), (keepP (drawnB hd) hHeld.2.1), (keepP (drawnB hd) hHeld.2.2.1), (keepP (drawnB hd) hHeld.2.2.2.1), (below_step hHeld.2.2.2.2.1 (drawnB hd)), (Kd.C_below hHeld.2.2.2.2.2.1 (drawnB hd)), (Kd.C_below hHeld.2.2.2.2.2.2 (drawnB hd))⟩ (fun hHeld => ?_)
      clear hK K
      refine norm_ (a' := ?_) ?_ ?_
      rotate_left
      · show Act.put _ (some 27) _ = _
        simp only [Act.put, List.setIfInBounds_toArray, List.set_cons_zero, List.set_cons_succ, i64_w, i32_w]
        rfl
      refine pure_ (i := 15) (N := some 28) (v := ?_) (a' := ?_) #[true, true, true, true, true, true, true, true, true, true, true, true, true, true, true, true] rfl rfl (by kernel_rfl) (fun _ _ _ h => h) (Or.inl ⟨by rfl, ?_⟩) ?_ ?_
      rotate_left
      · intro w'
        go_simp
        with_reducible rfl
      rotate_left
      · simp only [Act.put, List.setIfInBounds_toArray, List.set_cons_zero, List.set_cons_succ, i64_w, i32_w]
        rfl
      refine done_ (by kernel_rfl) ?_
      have HW5 := Aside0.mk hHeld.2.2.2.2.1
      clear hHeld
      go_wp2_with fail
      go_roundg kk
      case measure => omega
      case rel => exact ⟨k + 1, by omega, by go_num, HW5⟩
    · obtain rfl : k = L.length := by omega
      have hlt' : ¬ (L.length : Int) < (L.length : Int) := by omega
      go_wp2_with fail
      go_ret
      exact ⟨rfl, HW.out⟩
set_option maxRecDepth 100000 in
set_option maxHeartbeats 1600000 in
theorem still_Extents (g base : Nat) (VI UI VS US : Value) (V U : Value) (vs us : List Value) (L : List (List S96)) (w : World) (hb : Blk w g 60 (bookC VI UI VS US V U)) (hP : Pile k96 96 38 w base V U vs us L)
    (hL : L.length ≤ 250) (hB : ∀ (i : Nat) l, L[i]? = some l → l.length ≤ 1000000) :
    Calls Try.prog 68 #[.pointer (some ⟨g, 0, none⟩)] w fun e w' => e = .returned (.bool true) ∧ Below w.heap.size w w' := by
  obtain ⟨A, n, rfl⟩ := row_slice hP.hV
  obtain ⟨AU, nU, rfl⟩ := row_slice hP.hU
  have HB := Aside0.mk hb
  have HP := Aside0.mk hP
  have HBd := Aside0.mk hB
  have HL := Aside0.mk hL
  clear hb hP hB hL
  go_enter Try.func68, Try.ntmps68
  go_wp2_with fail
  go_loopg [3] L.length (fun kq v wq => ∃ k : Nat, k + kq = L.length ∧ v = .int .i64 (k : Int) ∧ Aside0 (Below w.heap.size w wq))
  case atStart => exact ⟨0, by omega, rfl, ⟨Below.refl _ _⟩⟩
  case round =>
    obtain ⟨k, hk, rfl, HW⟩ := hrel
    have hb1 := HB.out.keep HW.out
    have c4 := hb1.cell (i := 6) (v := .slice A L.length n) rfl
    have HB1 := Aside0.mk hb1
    clear hb1
    by_cases hlt : k < L.length
    · have hlt' : (k : Int) < (L.length : Int) := by omega
      have hk' : (k : Int) ≤ 250 := by have := HL.out; omega
      obtain ⟨kk, rfl⟩ : ∃ z, gk = z + 1 := ⟨gk - 1, by omega⟩
      obtain ⟨l, hl⟩ : ∃ l, L[k]? = some l := ⟨_, List.getElem?_eq_getElem hlt⟩
      have hbd := HBd.out k l hl
      obtain ⟨gv, cV, Av, cv, hVe, hcell, _, _, hle, hC⟩ := (HP.out.shelf.below HW.out).at hl
      obtain ⟨gu, cU, Au, cu, hUe, hcell2, _, _, hle2, hC2⟩ := (HP.out.shelfU.below HW.out).at hl
      injection hVe with q1 q2 q3
      injection hUe with q4 q5 q6
      subst q1; subst q3; subst q4; subst q6
      have HCa := Aside0.mk hC
      have HCb := Aside0.mk hC2
      have hcb : HB1.out.cell (i := 7) (v := .slice (some ⟨gu, 0, none⟩) L.length nU) rfl = HB1.out.cell (i := 7) rfl := rfl
      have c5 := HB1.out.cell (i := 7) (v := .slice (some ⟨gu, 0, none⟩) L.length nU) rfl
      have hsm := Aside0.mk (sameExtents_f l (by omega) (l.length + 1) (by omega))
      clear hC hC2 hcb
      go_wp2_with fail
      refine start_ (n := 16) (S := fun w' => w'.cell? ⟨g, 6, none⟩ = some (.slice (some ⟨gv, 0, none⟩) L.length n) ∧ w'.cell? ⟨g, 7, none⟩ = some (.slice (some ⟨gu, 0, none⟩) L.length nU) ∧ w'.cell? ⟨gv, k, none⟩ = some (.slice Av l.length cv) ∧ w'.cell? ⟨gu, k, none⟩ = some (.slice Au l.length cu) ∧ Below w.heap.size w w' ∧ Kd.C k96 w' Av l.length l ∧ Kd.C k96 w' Au l.length l) (ds := []) #[false, false, false, false, false, false, false, false, false, false, false, false, false, false, false, false] (by kernel_rfl) rfl rfl ⟨c4, c5, hcell, hcell2, (below_drew HW.out), (Kd.C_drew HCa.out), (Kd.C_drew HCb.out)⟩ (fun hHeld => ?_)
      refine pure_ (i := 0) (N := some 13) (v := ?_) (a' := ?_) #[true, false, false, false, false, false, false, false, false, false, false, false, false, false, false, false] rfl rfl (by kernel_rfl) (fun _ _ _ h => h) (Or.inl ⟨by rfl, ?_⟩) ?_ ?_
      rotate_left
      · intro w'
        go_simp
        with_reducible rfl
      rotate_left
      · simp only [Act.put, List.setIfInBounds_toArray, List.set_cons_zero, List.set_cons_succ, i64_w, i32_w]
        rfl
      refine pure_ (i := 1) (N := some 14) (v := ?_) (a' := ?_) #[true, true, false, false, false, false, false, false, false, false, false, false, false, false, false, false] rfl rfl (by kernel_rfl) (fun _ _ _ h => h) (Or.inl ⟨by rfl, ?_⟩) ?_ ?_
      rotate_left
      · intro w'
        go_simp
        with_reducible rfl
      rotate_left
      · simp only [Act.put, List.setIfInBounds_toArray, List.set_cons_zero, List.set_cons_succ, i64_w, i32_w]
        rfl
      refine pure_ (i := 2) (N := some 15) (v := ?_) (a' := ?_) #[true, true, true, false, false, false, false, false, false, false, false, false, false, false, false, false] rfl rfl (by kernel_rfl) (fun _ _ _ h => h) (Or.inl ⟨by rfl, ?_⟩) ?_ ?_
      rotate_left
      · intro w'
        go_simp
        with_reducible rfl
      rotate_left
      · simp only [Act.put, List.setIfInBounds_toArray, List.set_cons_zero, List.set_cons_succ, i64_w, i32_w]
        rfl
      refine pure_ (i := 4) (N := some 17) (v := ?_) (a' := ?_) #[true, true, true, false, true, false, false, false, false, false, false, false, false, false, false, false] rfl rfl (by kernel_rfl) (fun _ _ _ h => h) (Or.inl ⟨by rfl, ?_⟩) ?_ ?_
      rotate_left
      · intro w'
        go_simp
        with_reducible rfl
      rotate_left
      · simp only [Act.put, List.setIfInBounds_toArray, List.set_cons_zero, List.set_cons_succ, i64_w, i32_w]
        rfl
      refine pure_ (i := 7) (N := some 20) (v := ?_) (a' := ?_) #[true, true, true, false, true, false, false, true, false, false, false, false, false, false, false, false] rfl rfl (by kernel_rfl) (fun _ _ _ h => h) (Or.inl ⟨by rfl, ?_⟩) ?_ ?_
      rotate_left
      · intro w'
        go_simp
        with_reducible rfl
      rotate_left
      · simp only [Act.put, List.setIfInBounds_toArray, List.set_cons_zero, List.set_cons_succ, i64_w, i32_w]
        rfl
      refine pure_ (i := 8) (N := some 21) (v := ?_) (a' := ?_) #[true, true, true, false, true, false, false, true, true, false, false, false, false, false, false, false] rfl rfl (by kernel_rfl) (fun _ _ _ h => h) (Or.inl ⟨by rfl, ?_⟩) ?_ ?_
      rotate_left
      · intro w'
        go_simp
        with_reducible rfl
      rotate_left
      · simp only [Act.put, List.setIfInBounds_toArray, List.set_cons_zero, List.set_cons_succ, i64_w, i32_w]
        rfl
      refine pure_ (i := 9) (N := some 22) (v := ?_) (a' := ?_) #[true, true, true, false, true, false, false, true, true, true, false, false, false, false, false, false] rfl rfl (by kernel_rfl) (fun _ _ _ h => h) (Or.inl ⟨by rfl, ?_⟩) ?_ ?_
      rotate_left
      · intro w'
        go_simp
        with_reducible rfl
      rotate_left
      · simp only [Act.put, List.setIfInBounds_toArray, List.set_cons_zero, List.set_cons_succ, i64_w, i32_w]
        rfl
      refine pure_ (i := 11) (N := some 24) (v := ?_) (a' := ?_) #[true, true, true, false, true, false, false, true, true, true, false, true, false, false, false, false] rfl rfl (by kernel_rfl) (fun _ _ _ h => h) (Or.inl ⟨by rfl, ?_⟩) ?_ ?_
      rotate_left
      · intro w'
        go_simp
        with_reducible rfl
      rotate_left
      · simp only [Act.put, List.setIfInBounds_toArray, List.set_cons_zero, List.set_cons_succ, i64_w, i32_w]
        rfl
      refine take_ (i := 3) (N := some 16) (v := ?_) (a' := ?_) #[true, true, true, true, true, false, false, true, true, true, false, true, false, false, false, false] rfl rfl (by kernel_rfl) (fun _ _ _ h => h) (Or.inl ⟨by rfl, ?_⟩) hHeld ?_ ?_
      rotate_left
      · rintro w' ⟨s0, s1, s2, s3, s4, s5, s6⟩
        go_simp
        with_reducible rfl
      rotate_left
      · simp only [Act.put, List.setIfInBounds_toArray, List.set_cons_zero, List.set_cons_succ, i64_w, i32_w]
        rfl
      refine pure_ (i := 5) (N := some 18) (v := ?_) (a' := ?_) #[true, true, true, true, true, true, false, true, true, true, false, true, false, false, false, false] rfl rfl (by kernel_rfl) (fun _ _ _ h => h) (Or.inl ⟨by rfl, ?_⟩) ?_ ?_
      rotate_left
      · intro w'
        go_simp
        with_reducible rfl
      rotate_left
      · simp only [Act.put, List.setIfInBounds_toArray, List.set_cons_zero, List.set_cons_succ, i64_w, i32_w]
        rfl
      refine take_ (i := 6) (N := some 19) (v := ?_) (a' := ?_) #[true, true, true, true, true, true, true, true, true, true, false, true, false, false, false, false] rfl rfl (by kernel_rfl) (fun _ _ _ h => h) (Or.inl ⟨by rfl, ?_⟩) hHeld ?_ ?_
      rotate_left
      · rintro w' ⟨s0, s1, s2, s3, s4, s5, s6⟩
        go_simp
        with_reducible rfl
      rotate_left
      · simp only [Act.put, List.setIfInBounds_toArray, List.set_cons_zero, List.set_cons_succ, i64_w, i32_w]
        rfl
      refine take_ (i := 10) (N := some 23) (v := ?_) (a' := ?_) #[true, true, true, true, true, true, true, true, true, true, true, true, false, false, false, false] rfl rfl (by kernel_rfl) (fun _ _ _ h => h) (Or.inl ⟨by rfl, ?_⟩) hHeld ?_ ?_
      rotate_left
      · rintro w' ⟨s0, s1, s2, s3, s4, s5, s6⟩
        go_simp
        with_reducible rfl
      rotate_left
      · simp only [Act.put, List.setIfInBounds_toArray, List.set_cons_zero, List.set_cons_succ, i64_w, i32_w]
        rfl
      refine pure_ (i := 12) (N := some 25) (v := ?_) (a' := ?_) #[true, true, true, true, true, true, true, true, true, true, true, true, true, false, false, false] rfl rfl (by kernel_rfl) (fun _ _ _ h => h) (Or.inl ⟨by rfl, ?_⟩) ?_ ?_
      rotate_left
      · intro w'
        go_simp
        with_reducible rfl
      rotate_left
      · simp only [Act.put, List.setIfInBounds_toArray, List.set_cons_zero, List.set_cons_succ, i64_w, i32_w]
        rfl
      refine take_ (i := 13) (N := some 26) (v := ?_) (a' := ?_) #[true, true, true, true, true, true, true, true, true, true, true, true, true, true, false, false] rfl rfl (by kernel_rfl) (fun _ _ _ h => h) (Or.inl ⟨by rfl, ?_⟩) hHeld ?_ ?_
      rotate_left
      · rintro w' ⟨s0, s1, s2, s3, s4, s5, s6⟩
        go_simp
        with_reducible rfl
      rotate_left
      · simp only [Act.put, List.setIfInBounds_toArray, List.set_cons_zero, List.set_cons_succ, i64_w, i32_w]
        rfl
      refine one_ (i := 14) (N := some 27) #[true, true, true, true, true, true, true, true, true, true, true, true, true, true, true, false] rfl rfl (by kernel_rfl) (by decide) (fun K hK => ?_)
      refine goes_ Try.func34 (by kernel_rfl) rfl #[.slice Av l.length cv, .slice Au l.length cu] (by rfl) rfl rfl (by simp only [List.map_toArray, List.map_cons, List.map_nil]; rfl) ?_
      with_reducible refine (emulsionbook_SameExtents.calls (l.length + 1) Av cv l Au cu l true _ hHeld.2.2.2.2.2.1 hle hHeld.2.2.2.2.2.2 hle2 hsm.out).mono ?_
      rintro e w6 ⟨rfl, hd⟩
      refine ⟨_, rfl, ?_⟩
      refine hK.out _ _ ⟨(keepP (drawnB hd) hHeld.1), (keepP (drawnB hd) hHeld.2.1), (keepP (drawnB hd) hHeld.2.2.1), (keepP (drawnB hd) hHeld.2.2.2.1), (below_step hHeld.2.2.2.2.1 (drawnB hd)), (Kd.C_below hHeld.2.2.2.2.2.1 (drawnB hd)), (Kd.C_below hHeld.2.2.2.2.2.2 (drawnB hd))⟩ (fun hHeld => ?_)
      clear hK K
      refine norm_ (a' := ?_) ?_ ?_
      rotate_left
      · show Act.put _ (some 27) _ = _
        simp only [Act.put, List.setIfInBounds_toArray, List.set_cons_zero, List.set_cons_succ, i64_w, i32_w]
        rfl
      refine pure_ (i := 15) (N := some 28) (v := ?_) (a' := ?_) #[true, true, true, true, true, true, true, true, true, true, true, true, true, true, true, true] rfl rfl (by kernel_rfl) (fun _ _ _ h => h) (Or.inl ⟨by rfl, ?_⟩) ?_ ?_
      rotate_left
      · intro w'
        go_simp
        with_reducible rfl
      rotate_left
      · simp only [Act.put, List.setIfInBounds_toArray, List.set_cons_zero, List.set_cons_succ, i64_w, i32_w]
        rfl
      refine done_ (by kernel_rfl) ?_
      have HW5 := Aside0.mk hHeld.2.2.2.2.1
      clear hHeld
      go_wp2_with fail
      go_roundg kk
      case measure => omega
      case rel => exact ⟨k + 1, by omega, by go_num, HW5⟩
    · obtain rfl : k = L.length := by omega
      have hlt' : ¬ (L.length : Int) < (L.length : Int) := by omega
      go_wp2_with fail
      go_ret
      exact ⟨rfl, HW.out⟩
end Go.Proofs.Ytacmfpkmcefcfaa.Hand
end
section
namespace Go.Proofs.Ytacmfpkmcefcfaa.Hand
open Go.RowKit Go.Proofs.YtacmfpkmcefcfaaW.PrintWords Go.Proofs.YtacmfpkmcefcfaaW.PrintLast Go.Proofs.YtacmfpkmcefcfaaW.PrintMore Go.Proofs.Ytacmfpkmcefcfaa.A
set_option linter.unusedVariables false
set_option linter.unusedSimpArgs false
attribute [local go_sem] max2_int min2_int max_two min_two max_three min_three max_four min_four
set_option maxRecDepth 100000 in
set_option maxHeartbeats 800000 in
theorem still_nil_Texts (g : Nat) (cs : Array Value) (w : World) (hb : Blk w g 60 cs) (hc : cs[0]? = some (.slice none 0 0)) :
    Calls Try.prog 65 #[.pointer (some ⟨g, 0, none⟩)] w fun e w' => e = .returned (.bool true) ∧ w' = w := by
  have c4 := hb.cell (i := 0) (v := .slice none 0 0) hc
  clear hb
  go_enter Try.func65, Try.ntmps65
  go_wp2_with fail
  go_loopg [3] 0 (fun kq v wq => v = .int .i64 0 ∧ wq = w)
  case atStart => exact ⟨rfl, rfl⟩
  case round =>
    obtain ⟨rfl, rfl⟩ := hrel
    go_wp2_with fail
    go_ret
    exact ⟨rfl, rfl⟩
set_option maxRecDepth 100000 in
set_option maxHeartbeats 800000 in
theorem put_nil_Texts (g : Nat) (cs : Array Value) (w : World) (hb : Blk w g 60 cs) (hc : cs[0]? = some (.slice none 0 0)) :
    Calls Try.prog 73 #[.pointer (some ⟨g, 0, none⟩)] w fun e w' => e = .returned (.tuple #[]) ∧ w' = w := by
  have c4 := hb.cell (i := 0) (v := .slice none 0 0) hc
  clear hb
  go_enter Try.func73, Try.ntmps73
  go_wp2_with fail
  go_loopg [2] 0 (fun kq v wq => v = .int .i64 0 ∧ wq = w)
  case atStart => exact ⟨rfl, rfl⟩
  case round =>
    obtain ⟨rfl, rfl⟩ := hrel
    go_wp2_with fail
    go_end0
    exact ⟨rfl, rfl⟩
set_option maxRecDepth 100000 in
set_option maxHeartbeats 800000 in
theorem grow_nil_Texts (g : Nat) (cs : Array Value) (w : World) (hb : Blk w g 60 cs) (hc : cs[0]? = some (.slice none 0 0)) :
    Calls Try.prog 79 #[.pointer (some ⟨g, 0, none⟩)] w fun e w' => e = .returned (.slice none 0 0) ∧ w' = w := by
  have c4 := hb.cell (i := 0) (v := .slice none 0 0) hc
  clear hb
  go_enter Try.func79, Try.ntmps79
  go_wp2_with fail
  go_loopg [3, 4] 0 (fun kq o v wq => v = .int .i64 0 ∧ wq = w ∧ o = .slice none 0 0)
  case atStart => exact ⟨rfl, rfl, rfl⟩
  case round =>
    obtain ⟨rfl, rfl, rfl⟩ := hrel
    go_wp2_with fail
    go_ret
    exact ⟨rfl, rfl⟩
set_option maxRecDepth 100000 in
set_option maxHeartbeats 800000 in
theorem marked_nil_Texts (w : World) :
    Calls Try.prog 86 #[.slice none 0 0] w fun e w' => e = .returned (.bool true) ∧ w' = w := by
  go_enter Try.func86, Try.ntmps86
  go_wp2_with fail
  go_loopg [3] 0 (fun kq v wq => v = .int .i64 0 ∧ wq = w)
  case atStart => exact ⟨rfl, rfl⟩
  case round =>
    obtain ⟨rfl, rfl⟩ := hrel
    go_wp2_with fail
    go_ret
    exact ⟨rfl, rfl⟩
set_option maxRecDepth 100000 in
set_option maxHeartbeats 800000 in
theorem still_nil_Shelves (g : Nat) (cs : Array Value) (w : World) (hb : Blk w g 60 cs) (hc : cs[8]? = some (.slice none 0 0)) :
    Calls Try.prog 69 #[.pointer (some ⟨g, 0, none⟩)] w fun e w' => e = .returned (.bool true) ∧ w' = w := by
  have c4 := hb.cell (i := 8) (v := .slice none 0 0) hc
  clear hb
  go_enter Try.func69, Try.ntmps69
  go_wp2_with fail
  go_loopg [3] 0 (fun kq v wq => v = .int .i64 0 ∧ wq = w)
  case atStart => exact ⟨rfl, rfl⟩
  case round =>
    obtain ⟨rfl, rfl⟩ := hrel
    go_wp2_with fail
    go_ret
    exact ⟨rfl, rfl⟩
set_option maxRecDepth 100000 in
set_option maxHeartbeats 800000 in
theorem put_nil_Shelves (g : Nat) (cs : Array Value) (w : World) (hb : Blk w g 60 cs) (hc : cs[8]? = some (.slice none 0 0)) :
    Calls Try.prog 77 #[.pointer (some ⟨g, 0, none⟩)] w fun e w' => e = .returned (.tuple #[]) ∧ w' = w := by
  have c4 := hb.cell (i := 8) (v := .slice none 0 0) hc
  clear hb
  go_enter Try.func77, Try.ntmps77
  go_wp2_with fail
  go_loopg [2] 0 (fun kq v wq => v = .int .i64 0 ∧ wq = w)
  case atStart => exact ⟨rfl, rfl⟩
  case round =>
    obtain ⟨rfl, rfl⟩ := hrel
    go_wp2_with fail
    go_end0
    exact ⟨rfl, rfl⟩
set_option maxRecDepth 100000 in
set_option maxHeartbeats 800000 in
theorem grow_nil_Shelves (g : Nat) (cs : Array Value) (w : World) (hb : Blk w g 60 cs) (hc : cs[8]? = some (.slice none 0 0)) :
    Calls Try.prog 83 #[.pointer (some ⟨g, 0, none⟩)] w fun e w' => e = .returned (.slice none 0 0) ∧ w' = w := by
  have c4 := hb.cell (i := 8) (v := .slice none 0 0) hc
  clear hb
  go_enter Try.func83, Try.ntmps83
  go_wp2_with fail
  go_loopg [3, 4] 0 (fun kq o v wq => v = .int .i64 0 ∧ wq = w ∧ o = .slice none 0 0)
  case atStart => exact ⟨rfl, rfl, rfl⟩
  case round =>
    obtain ⟨rfl, rfl, rfl⟩ := hrel
    go_wp2_with fail
    go_ret
    exact ⟨rfl, rfl⟩
set_option maxRecDepth 100000 in
set_option maxHeartbeats 800000 in
theorem marked_nil_Shelves (w : World) :
    Calls Try.prog 90 #[.slice none 0 0] w fun e w' => e = .returned (.bool true) ∧ w' = w := by
  go_enter Try.func90, Try.ntmps90
  go_wp2_with fail
  go_loopg [3] 0 (fun kq v wq => v = .int .i64 0 ∧ wq = w)
  case atStart => exact ⟨rfl, rfl⟩
  case round =>
    obtain ⟨rfl, rfl⟩ := hrel
    go_wp2_with fail
    go_ret
    exact ⟨rfl, rfl⟩
set_option maxRecDepth 100000 in
set_option maxHeartbeats 800000 in
theorem still_nil_Pairs (g : Nat) (cs : Array Value) (w : World) (hb : Blk w g 60 cs) (hc : cs[10]? = some (.slice none 0 0)) :
    Calls Try.prog 70 #[.pointer (some ⟨g, 0, none⟩)] w fun e w' => e = .returned (.bool true) ∧ w' = w := by
  have c4 := hb.cell (i := 10) (v := .slice none 0 0) hc
  clear hb
  go_enter Try.func70, Try.ntmps70
  go_wp2_with fail
  go_loopg [3] 0 (fun kq v wq => v = .int .i64 0 ∧ wq = w)
  case atStart => exact ⟨rfl, rfl⟩
  case round =>
    obtain ⟨rfl, rfl⟩ := hrel
    go_wp2_with fail
    go_ret
    exact ⟨rfl, rfl⟩
set_option maxRecDepth 100000 in
set_option maxHeartbeats 800000 in
theorem put_nil_Pairs (g : Nat) (cs : Array Value) (w : World) (hb : Blk w g 60 cs) (hc : cs[10]? = some (.slice none 0 0)) :
    Calls Try.prog 78 #[.pointer (some ⟨g, 0, none⟩)] w fun e w' => e = .returned (.tuple #[]) ∧ w' = w := by
  have c4 := hb.cell (i := 10) (v := .slice none 0 0) hc
  clear hb
  go_enter Try.func78, Try.ntmps78
  go_wp2_with fail
  go_loopg [2] 0 (fun kq v wq => v = .int .i64 0 ∧ wq = w)
  case atStart => exact ⟨rfl, rfl⟩
  case round =>
    obtain ⟨rfl, rfl⟩ := hrel
    go_wp2_with fail
    go_end0
    exact ⟨rfl, rfl⟩
set_option maxRecDepth 100000 in
set_option maxHeartbeats 800000 in
theorem grow_nil_Pairs (g : Nat) (cs : Array Value) (w : World) (hb : Blk w g 60 cs) (hc : cs[10]? = some (.slice none 0 0)) :
    Calls Try.prog 84 #[.pointer (some ⟨g, 0, none⟩)] w fun e w' => e = .returned (.slice none 0 0) ∧ w' = w := by
  have c4 := hb.cell (i := 10) (v := .slice none 0 0) hc
  clear hb
  go_enter Try.func84, Try.ntmps84
  go_wp2_with fail
  go_loopg [3, 4] 0 (fun kq o v wq => v = .int .i64 0 ∧ wq = w ∧ o = .slice none 0 0)
  case atStart => exact ⟨rfl, rfl, rfl⟩
  case round =>
    obtain ⟨rfl, rfl, rfl⟩ := hrel
    go_wp2_with fail
    go_ret
    exact ⟨rfl, rfl⟩
set_option maxRecDepth 100000 in
set_option maxHeartbeats 800000 in
theorem marked_nil_Pairs (w : World) :
    Calls Try.prog 91 #[.slice none 0 0] w fun e w' => e = .returned (.bool true) ∧ w' = w := by
  go_enter Try.func91, Try.ntmps91
  go_wp2_with fail
  go_loopg [3] 0 (fun kq v wq => v = .int .i64 0 ∧ wq = w)
  case atStart => exact ⟨rfl, rfl⟩
  case round =>
    obtain ⟨rfl, rfl⟩ := hrel
    go_wp2_with fail
    go_ret
    exact ⟨rfl, rfl⟩
set_option maxRecDepth 100000 in
set_option maxHeartbeats 800000 in
theorem still_nil_Points (g : Nat) (cs : Array Value) (w : World) (hb : Blk w g 60 cs) (hc : cs[12]? = some (.slice none 0 0)) :
    Calls Try.prog 71 #[.pointer (some ⟨g, 0, none⟩)] w fun e w' => e = .returned (.bool true) ∧ w' = w := by
  have c4 := hb.cell (i := 12) (v := .slice none 0 0) hc
  clear hb
  go_enter Try.func71, Try.ntmps71
  go_wp2_with fail
  go_loopg [3] 0 (fun kq v wq => v = .int .i64 0 ∧ wq = w)
  case atStart => exact ⟨rfl, rfl⟩
  case round =>
    obtain ⟨rfl, rfl⟩ := hrel
    go_wp2_with fail
    go_ret
    exact ⟨rfl, rfl⟩
set_option maxRecDepth 100000 in
set_option maxHeartbeats 800000 in
theorem put_nil_Points (g : Nat) (cs : Array Value) (w : World) (hb : Blk w g 60 cs) (hc : cs[12]? = some (.slice none 0 0)) :
    Calls Try.prog 72 #[.pointer (some ⟨g, 0, none⟩)] w fun e w' => e = .returned (.tuple #[]) ∧ w' = w := by
  have c4 := hb.cell (i := 12) (v := .slice none 0 0) hc
  clear hb
  go_enter Try.func72, Try.ntmps72
  go_wp2_with fail
  go_loopg [2] 0 (fun kq v wq => v = .int .i64 0 ∧ wq = w)
  case atStart => exact ⟨rfl, rfl⟩
  case round =>
    obtain ⟨rfl, rfl⟩ := hrel
    go_wp2_with fail
    go_end0
    exact ⟨rfl, rfl⟩
set_option maxRecDepth 100000 in
set_option maxHeartbeats 800000 in
theorem grow_nil_Points (g : Nat) (cs : Array Value) (w : World) (hb : Blk w g 60 cs) (hc : cs[12]? = some (.slice none 0 0)) :
    Calls Try.prog 85 #[.pointer (some ⟨g, 0, none⟩)] w fun e w' => e = .returned (.slice none 0 0) ∧ w' = w := by
  have c4 := hb.cell (i := 12) (v := .slice none 0 0) hc
  clear hb
  go_enter Try.func85, Try.ntmps85
  go_wp2_with fail
  go_loopg [3, 4] 0 (fun kq o v wq => v = .int .i64 0 ∧ wq = w ∧ o = .slice none 0 0)
  case atStart => exact ⟨rfl, rfl, rfl⟩
  case round =>
    obtain ⟨rfl, rfl, rfl⟩ := hrel
    go_wp2_with fail
    go_ret
    exact ⟨rfl, rfl⟩
set_option maxRecDepth 100000 in
set_option maxHeartbeats 800000 in
theorem marked_nil_Points (w : World) :
    Calls Try.prog 92 #[.slice none 0 0] w fun e w' => e = .returned (.bool true) ∧ w' = w := by
  go_enter Try.func92, Try.ntmps92
  go_wp2_with fail
  go_loopg [3] 0 (fun kq v wq => v = .int .i64 0 ∧ wq = w)
  case atStart => exact ⟨rfl, rfl⟩
  case round =>
    obtain ⟨rfl, rfl⟩ := hrel
    go_wp2_with fail
    go_ret
    exact ⟨rfl, rfl⟩
end Go.Proofs.Ytacmfpkmcefcfaa.Hand
end
section
namespace Go.Proofs.Ytacmfpkmcefcfaa.Hand
open Go.RowKit Go.Proofs.YtacmfpkmcefcfaaW.PrintWords Go.Proofs.YtacmfpkmcefcfaaW.PrintLast Go.Proofs.YtacmfpkmcefcfaaW.PrintMore Go.Proofs.Ytacmfpkmcefcfaa.A
set_option linter.unusedVariables false
set_option linter.unusedSimpArgs false
attribute [local go_sem] max2_int min2_int max_two min_two max_three min_three max_four min_four
section
variable {α : Type} (mk : Nat → Nat → α)
/-- So many lists are marked; and so many elements of the next one. -/
def putF (i : Nat) : Nat → List α → List α := fun j l => if j < i then marks mk j 0 l.length else l
def putG (i k : Nat) : Nat → List α → List α := fun j l => if j < i then marks mk j 0 l.length else if j = i then marks mk i 0 k ++ l.drop k else l
theorem putF_zero (j : Nat) (l : List α) : putF mk 0 j l = l := if_neg (Nat.not_lt_zero _)
theorem putF_self (i : Nat) (l : List α) : putF mk i i l = l := if_neg (Nat.lt_irrefl _)
theorem putF_all (n j : Nat) (l : List α) (h : j < n) : putF mk n j l = marks mk j 0 l.length := if_pos h
theorem putG_zero (i j : Nat) (l : List α) : putG mk i 0 j l = putF mk i j l := by
  unfold putG putF
  split
  · rfl
  · split
    · rfl
    · rfl
theorem putG_self (i k : Nat) (l : List α) : putG mk i k i l = marks mk i 0 k ++ l.drop k := by unfold putG; rw [if_neg (Nat.lt_irrefl _), if_pos rfl]
theorem putG_len (i k : Nat) (l : List α) (h : k ≤ l.length) : (putG mk i k i l).length = l.length := by rw [putG_self, List.length_append, marks_length, List.length_drop]; omega
theorem putG_other (i k m j : Nat) (l : List α) (h : j ≠ i) : putG mk i k j l = putG mk i m j l := by unfold putG; rw [if_neg h, if_neg h]
theorem putG_next (i k : Nat) (l : List α) (h : k < l.length) : putG mk i (k + 1) i l = (putG mk i k i l).set k (mk i k) := by rw [putG_self, putG_self, marks_set mk i l k h]
theorem putG_full {L : List (List α)} {i : Nat} {l : List α} (hl : L[i]? = some l) (j : Nat) (x : List α) (hx : L[j]? = some x) : putF mk (i + 1) j x = putG mk i l.length j x := by
  unfold putF putG
  by_cases h1 : j < i
  · rw [if_pos (by omega), if_pos h1]
  · rw [if_neg h1]
    by_cases h2 : j = i
    · subst h2
      rw [hl] at hx; injection hx with hx; subst hx
      rw [if_pos (by omega), if_pos rfl, List.drop_length, List.append_nil]
    · rw [if_neg (by omega), if_neg h2]
end
theorem row_at0 {α : Type} {d : Kd α} {e base : Nat} {w : World} {ok : Nat → Prop} {A : Option Addr} {n c : Nat} {xs : List α} (h : d.R e w base ok (.slice A n c) xs) (hn : 0 < xs.length) : ∃ g, A = some ⟨g, 0, none⟩ ∧ base ≤ g ∧ g < w.heap.size ∧ d.C w (some ⟨g, 0, none⟩) xs.length xs := by
  obtain ⟨g, c', he, h1, h2, h3⟩ := row_at h hn
  injection he with q1 q2 q3
  exact ⟨g, q1, h1, h2, h3⟩
theorem C_at0 {α : Type} {d : Kd α} {w : World} {g n k : Nat} {xs : List α} {x : α} (h : d.C w (some ⟨g, 0, none⟩) n xs) (hx : xs[k]? = some x) : ∃ c, d.K w x c ∧ ∀ j u, c[j]? = some u → w.cell? ⟨g, k * d.sz + j, none⟩ = some u := by
  have hk : k < n := by have := (List.getElem?_eq_some_iff.1 hx).1; have := h.1; omega
  obtain ⟨ad, he, hp⟩ := h.2.2 (by omega)
  injection he with he
  subst he
  obtain ⟨c, _, hK, hc⟩ := hp k x hx
  exact ⟨c, hK, fun j u hu => by have := hc j u hu; rw [add_zero0] at this; exact this⟩
set_option maxRecDepth 100000 in
set_option maxHeartbeats 3200000 in
theorem put_Spans (g base : Nat) (VI UI VE UE : Value) (V U : Value) (vs : List Value) (L : List (List S119)) (w : World) (hb : Blk w g 60 (bookC VI UI V U VE UE)) (hS : Shelf k119 119 128 w base V vs L (fun _ l => l))
    (hL : L.length ≤ 250) (hB : ∀ (i : Nat) l, L[i]? = some l → l.length ≤ 1000000) (hbase : base ≤ w.heap.size) :
    Calls Try.prog 75 #[.pointer (some ⟨g, 0, none⟩)] w fun e w' => e = .returned (.tuple #[]) ∧ Shelf k119 119 128 w' base V vs L (fun i l => marks mkSpans i 0 l.length) ∧ FxT 119 base w w' := by
  obtain ⟨A, n, rfl⟩ := row_slice hS.hV
  have HB := Aside0.mk hb
  have HS := Aside0.mk (hS.congr (F' := putF mkSpans 0) (fun i l _ => putF_zero _ i l))
  have HBd := Aside0.mk hB
  have HL := Aside0.mk hL
  have Hbase := Aside0.mk hbase
  clear hb hS hB hL hbase
  go_enter Try.func75, Try.ntmps75
  go_wp2_with fail
  go_loopg [2] L.length (fun kq v wq => ∃ i : Nat, i + kq = L.length ∧ v = .int .i64 (i : Int) ∧ Aside0 (Shelf k119 119 128 wq base (.slice A L.length n) vs L (putF mkSpans i)) ∧ Aside0 (FxT 119 base w wq))
  case atStart => exact ⟨0, by omega, rfl, HS, ⟨FxT.refl _ _ _⟩⟩
  case round =>
    clear HS
    obtain ⟨i, hi, rfl, HS, HX⟩ := hrel
    have hb1 := HX.out.blk HB.out (by decide)
    have c4 := hb1.cell (i := 4) (v := .slice A L.length n) rfl
    clear hb1
    by_cases hlt : i < L.length
    · have hlt' : (i : Int) < (L.length : Int) := by omega
      have hi' : (i : Int) ≤ 250 := by have := HL.out; omega
      have hi2 : i ≤ 250 := by omega
      obtain ⟨kk, rfl⟩ : ∃ z, gk = z + 1 := ⟨gk - 1, by omega⟩
      obtain ⟨l, hl⟩ : ∃ l, L[i]? = some l := ⟨_, List.getElem?_eq_getElem hlt⟩
      have hbd := HBd.out i l hl
      obtain ⟨gv, cV, Av, cv, hVe, hcell, hvs, hR, hle, _⟩ := HS.out.at hl
      rw [putF_self] at hcell hvs hle hR
      have hvlt := Aside0.mk (Kd.R_lt hR)
      clear hR
      injection hVe with q1 q2 q3
      subst q1; subst q3
      have hmk := Aside0.mk (markSpans_f i 0 l.length (l.length + 1) (by omega) (by omega) (by omega))
      go_wp2_with fail
      refine (emulsionbook_markSpans.calls (l.length + 1) (i : Int) 0 (l.length : Int) _ _ hmk.out).mono ?_
      rintro e w2 ⟨vm, rfl, hrm, hbm⟩
      obtain ⟨Am, cm, hvm, hcm, _⟩ := Kd.R_reads hrm
      rw [marks_length] at hvm hcm
      subst hvm
      have HM := Aside0.mk hrm
      have HS2 := Aside0.mk ((HS.out.below hbm).congr (F' := putG mkSpans i 0) (fun j x _ => putG_zero _ i j x))
      have HX2 := Aside0.mk (HX.out.below hbm Hbase.out)
      clear hrm hcell hbm HS HX c4
      obtain ⟨B0, hB0⟩ : ∃ b, b = wr.heap.size := ⟨_, rfl⟩
      rw [← hB0] at HM hvlt
      clear hB0
      have hcmx := Aside0.mk hcm
      clear hcm
      go_wp2_with fail
      go_loopg [4] l.length (fun kq v wq => ∃ k : Nat, k + kq = l.length ∧ v = .int .i64 (k : Int) ∧ Aside0 (Shelf k119 119 128 wq base (.slice (some ⟨gv, 0, none⟩) L.length n) vs L (putG mkSpans i k)) ∧ Aside0 (FxT 119 base w wq) ∧ Aside0 (Kd.R k119 119 wq B0 (fun _ => True) (.slice Am l.length cm) (marks mkSpans i 0 l.length)))
      case atStart => exact ⟨0, by omega, rfl, HS2, HX2, HM⟩
      case round =>
        clear HS2 HX2 HM
        obtain ⟨k, hk, rfl, HS, HX, HM⟩ := hrel
        by_cases hk1 : k < l.length
        · have hk2 : (k : Int) < (l.length : Int) := by omega
          have hk3 : (k : Int) ≤ 1000000 := by omega
          obtain ⟨kz, rfl⟩ : ∃ z, gk = z + 1 := ⟨gk - 1, by omega⟩
          obtain ⟨gv', cV', Av', cv', hVe, hcell, hvs', hR, hle', _⟩ := HS.out.at hl
          rw [putG_len mkSpans i k l (by omega)] at hcell hvs' hle' hR
          rw [hvs] at hvs'
          injection hvs' with hvs'; injection hvs' with q1 q2 q3
          injection hVe with q4 q5 q6
          injection q4 with q4; injection q4 with q4
          subst q1; subst q3; subst q4; subst q6
          obtain ⟨gl, hAv, hgl1, hgl2, _⟩ := row_at0 hR (by rw [putG_len mkSpans i k l (by omega)]; omega)
          obtain ⟨gm, hAm, hgm1, hgm2, hCm⟩ := row_at0 HM.out (by rw [marks_length]; omega)
          subst hAv; subst hAm
          obtain ⟨cm_, hK, hcm⟩ := C_at0 hCm (marks_get mkSpans i l.length 0 k hk1)
          rw [Nat.zero_add] at hK
          obtain rfl := k119_open hK
          have hm0 := hcm 0 _ rfl
          rw [show k * k119.sz + 0 = k * 2 from by show k * 2 + 0 = k * 2; omega] at hm0
          have hm1 := hcm 1 _ rfl
          rw [show k * k119.sz + 1 = k * 2 + 1 from by show k * 2 + 1 = k * 2 + 1; omega] at hm1
          have hb1 := HX.out.blk HB.out (by decide)
          have c4 := hb1.cell (i := 4) (v := .slice (some ⟨gv, 0, none⟩) L.length n) rfl
          have HR := Aside0.mk hR
          clear hb1 hCm hcm hR
          try clear hK
          go_wp2_with fail
          refine start_ (n := 14) (S := fun w' => w'.cell? ⟨g, 4, none⟩ = some (.slice (some ⟨gv, 0, none⟩) L.length n) ∧ w'.cell? ⟨gv, i, none⟩ = some (.slice (some ⟨gl, 0, none⟩) l.length cv) ∧ w'.cell? ⟨gm, k * 2, none⟩ = some (.int .i64 (mkSpans i k).f0) ∧ w'.cell? ⟨gm, k * 2 + 1, none⟩ = some (.int .i64 (mkSpans i k).f1) ∧ Shelf k119 119 128 w' base (.slice (some ⟨gv, 0, none⟩) L.length n) vs L (putG mkSpans i k) ∧ FxT 119 base w w' ∧ Kd.R k119 119 w' B0 (fun _ => True) (.slice (some ⟨gm, 0, none⟩) l.length cm) (marks mkSpans i 0 l.length) ∧ Kd.R k119 119 w' base (fun _ => True) (.slice (some ⟨gl, 0, none⟩) l.length cv) (putG mkSpans i k i l)) (ds := [13]) #[false, false, false, false, false, false, false, false, false, false, false, false, false, false] (by kernel_rfl) rfl rfl ⟨c4, hcell, hm0, hm1, (HS.out.below (below_drew (Below.refl _ _))), HX.out.drew, (Kd.R_drew HM.out), (Kd.R_drew HR.out)⟩ (fun hHeld => ?_)
          refine pure_ (i := 0) (N := some 30) (v := ?_) (a' := ?_) #[true, false, false, false, false, false, false, false, false, false, false, false, false, false] rfl rfl (by kernel_rfl) (fun _ _ _ h => h) (Or.inl ⟨by rfl, ?_⟩) ?_ ?_
          rotate_left
          · intro w'
            go_simp
            with_reducible rfl
          rotate_left
          · simp only [Act.put, List.setIfInBounds_toArray, List.set_cons_zero, List.set_cons_succ, i64_w, i32_w]
            rfl
          refine pure_ (i := 1) (N := some 31) (v := ?_) (a' := ?_) #[true, true, false, false, false, false, false, false, false, false, false, false, false, false] rfl rfl (by kernel_rfl) (fun _ _ _ h => h) (Or.inl ⟨by rfl, ?_⟩) ?_ ?_
          rotate_left
          · intro w'
            go_simp
            with_reducible rfl
          rotate_left
          · simp only [Act.put, List.setIfInBounds_toArray, List.set_cons_zero, List.set_cons_succ, i64_w, i32_w]
            rfl
          refine pure_ (i := 2) (N := some 32) (v := ?_) (a' := ?_) #[true, true, true, false, false, false, false, false, false, false, false, false, false, false] rfl rfl (by kernel_rfl) (fun _ _ _ h => h) (Or.inl ⟨by rfl, ?_⟩) ?_ ?_
          rotate_left
          · intro w'
            go_simp
            with_reducible rfl
          rotate_left
          · simp only [Act.put, List.setIfInBounds_toArray, List.set_cons_zero, List.set_cons_succ, i64_w, i32_w]
            rfl
          refine pure_ (i := 4) (N := some 34) (v := ?_) (a' := ?_) #[true, true, true, false, true, false, false, false, false, false, false, false, false, false] rfl rfl (by kernel_rfl) (fun _ _ _ h => h) (Or.inl ⟨by rfl, ?_⟩) ?_ ?_
          rotate_left
          · intro w'
            go_simp
            with_reducible rfl
          rotate_left
          · simp only [Act.put, List.setIfInBounds_toArray, List.set_cons_zero, List.set_cons_succ, i64_w, i32_w]
            rfl
          refine pure_ (i := 7) (N := some 37) (v := ?_) (a' := ?_) #[true, true, true, false, true, false, false, true, false, false, false, false, false, false] rfl rfl (by kernel_rfl) (fun _ _ _ h => h) (Or.inl ⟨by rfl, ?_⟩) ?_ ?_
          rotate_left
          · intro w'
            go_simp
            with_reducible rfl
          rotate_left
          · simp only [Act.put, List.setIfInBounds_toArray, List.set_cons_zero, List.set_cons_succ, i64_w, i32_w]
            rfl
          refine pure_ (i := 8) (N := some 38) (v := ?_) (a' := ?_) #[true, true, true, false, true, false, false, true, true, false, false, false, false, false] rfl rfl (by kernel_rfl) (fun _ _ _ h => h) (Or.inl ⟨by rfl, ?_⟩) ?_ ?_
          rotate_left
          · intro w'
            go_simp
            with_reducible rfl
          rotate_left
          · simp only [Act.put, List.setIfInBounds_toArray, List.set_cons_zero, List.set_cons_succ, i64_w, i32_w]
            rfl
          refine pure_ (i := 9) (N := some 39) (v := ?_) (a' := ?_) #[true, true, true, false, true, false, false, true, true, true, false, false, false, false] rfl rfl (by kernel_rfl) (fun _ _ _ h => h) (Or.inl ⟨by rfl, ?_⟩) ?_ ?_
          rotate_left
          · intro w'
            go_simp
            with_reducible rfl
          rotate_left
          · simp only [Act.put, List.setIfInBounds_toArray, List.set_cons_zero, List.set_cons_succ, i64_w, i32_w]
            rfl
          refine pure_ (i := 10) (N := some 40) (v := ?_) (a' := ?_) #[true, true, true, false, true, false, false, true, true, true, true, false, false, false] rfl rfl (by kernel_rfl) (fun _ _ _ h => h) (Or.inl ⟨by rfl, ?_⟩) ?_ ?_
          rotate_left
          · intro w'
            go_simp
            with_reducible rfl
          rotate_left
          · simp only [Act.put, List.setIfInBounds_toArray, List.set_cons_zero, List.set_cons_succ, i64_w, i32_w]
            rfl
          refine take_ (i := 3) (N := some 33) (v := ?_) (a' := ?_) #[true, true, true, true, true, false, false, true, true, true, true, false, false, false] rfl rfl (by kernel_rfl) (fun _ _ _ h => h) (Or.inl ⟨by rfl, ?_⟩) hHeld ?_ ?_
          rotate_left
          · rintro w' ⟨s0, s1, s2, s3, s4, s5, s6, s7⟩
            go_simp
            with_reducible rfl
          rotate_left
          · simp only [Act.put, List.setIfInBounds_toArray, List.set_cons_zero, List.set_cons_succ, i64_w, i32_w]
            rfl
          refine pure_ (i := 5) (N := some 35) (v := ?_) (a' := ?_) #[true, true, true, true, true, true, false, true, true, true, true, false, false, false] rfl rfl (by kernel_rfl) (fun _ _ _ h => h) (Or.inl ⟨by rfl, ?_⟩) ?_ ?_
          rotate_left
          · intro w'
            go_simp
            with_reducible rfl
          rotate_left
          · simp only [Act.put, List.setIfInBounds_toArray, List.set_cons_zero, List.set_cons_succ, i64_w, i32_w]
            rfl
          refine take_ (i := 6) (N := some 36) (v := ?_) (a' := ?_) #[true, true, true, true, true, true, true, true, true, true, true, false, false, false] rfl rfl (by kernel_rfl) (fun _ _ _ h => h) (Or.inl ⟨by rfl, ?_⟩) hHeld ?_ ?_
          rotate_left
          · rintro w' ⟨s0, s1, s2, s3, s4, s5, s6, s7⟩
            go_simp
            with_reducible rfl
          rotate_left
          · simp only [Act.put, List.setIfInBounds_toArray, List.set_cons_zero, List.set_cons_succ, i64_w, i32_w]
            rfl
          refine take_ (i := 11) (N := some 41) (v := ?_) (a' := ?_) #[true, true, true, true, true, true, true, true, true, true, true, true, false, false] rfl rfl (by kernel_rfl) (fun _ _ _ h => h) (Or.inl ⟨by rfl, ?_⟩) hHeld ?_ ?_
          rotate_left
          · rintro w' ⟨s0, s1, s2, s3, s4, s5, s6, s7⟩
            go_simp
            with_reducible rfl
          rotate_left
          · simp only [Act.put, List.setIfInBounds_toArray, List.set_cons_zero, List.set_cons_succ, i64_w, i32_w]
            rfl
          refine pure_ (i := 12) (N := some 42) (v := ?_) (a' := ?_) #[true, true, true, true, true, true, true, true, true, true, true, true, true, false] rfl rfl (by kernel_rfl) (fun _ _ _ h => h) (Or.inl ⟨by rfl, ?_⟩) ?_ ?_
          rotate_left
          · intro w'
            go_simp
            with_reducible rfl
          rotate_left
          · simp only [Act.put, List.setIfInBounds_toArray, List.set_cons_zero, List.set_cons_succ, i64_w, i32_w]
            rfl
          refine last_ (i := 13) (N := none) #[true, true, true, true, true, true, true, true, true, true, true, true, true, true] rfl rfl (by kernel_rfl) (by decide) (fun K hK => ?_)
          refine Kd.R_store_step k119 (w0 := w) base (by rfl) 119 (.tmp 42) (.tmp 41) (by rfl) 119 k (putG mkSpans i k i l) (mkSpans i k) (.agg #[.int .i64 (mkSpans i k).f0, .int .i64 (mkSpans i k).f1]) [.int .i64 (mkSpans i k).f0, .int .i64 (mkSpans i k).f1] (fun _ => True) (fun _ => False) (by rfl) (by rfl) (by rfl) (by rfl) (by kernel_rfl) (by rfl) (by simp [Value.oneCell']) hHeld.2.2.2.2.2.2.2 hk1 (k119_mkM _ _ _ _) (fun _ h => h.elim) ?_ _
          intro w7 hR7 hG7
          refine hK.out _ _ ?_
          clear hK K
          refine done_ (by kernel_rfl) ?_
          have HS7 := Aside0.mk (hHeld.2.2.2.2.1.set (F' := putG mkSpans i (k + 1)) rfl (by decide) (hHeld.2.2.2.2.2.1.base_le Hbase.out) hl hvs (by rw [putG_next mkSpans i k l hk1]; exact hR7) hG7 (fun j x hj _ => putG_other mkSpans i (k + 1) k j x hj))
          have HX7 := Aside0.mk (hHeld.2.2.2.2.2.1.trans (hHeld.2.2.2.2.1.grownFx hvs hl (hHeld.2.2.2.2.2.1.base_le Hbase.out) hG7))
          have HM7 := Aside0.mk (R_moved rfl hHeld.2.2.2.2.2.2.1 (fun q hq => hG7.block q (Kd.R_lt hHeld.2.2.2.2.2.2.1 q hq) (fun e => by
            injection e with e
            subst e
            have h1 : q < B0 := hvlt.out _ rfl
            have h2 := Kd.R_base hHeld.2.2.2.2.2.2.1 _ hq
            omega)))
          clear hHeld hR7 hG7
          go_wp2_with fail
          go_roundg kz
          case measure => omega
          case rel => exact ⟨k + 1, by omega, by go_num, HS7, HX7, HM7⟩
        · obtain rfl : k = l.length := by omega
          have hk2 : ¬ (l.length : Int) < (l.length : Int) := by omega
          have HS8 := Aside0.mk (HS.out.congr (fun j x hx => putG_full mkSpans hl j x hx))
          go_wp2_with fail
          go_roundg kk
          case measure => omega
          case rel => exact ⟨i + 1, by omega, by go_num, HS8, HX⟩
    · obtain rfl : i = L.length := by omega
      have hlt' : ¬ (L.length : Int) < (L.length : Int) := by omega
      have HS9 := Aside0.mk (HS.out.congr (F' := fun i l => marks mkSpans i 0 l.length) (fun j x hx => (putF_all mkSpans _ j x (List.getElem?_eq_some_iff.1 hx).1).symm))
      go_wp2_with fail
      go_end0
      exact ⟨rfl, HS9.out, HX.out⟩
set_option maxRecDepth 100000 in
set_option maxHeartbeats 3200000 in
theorem put_Ints (g base : Nat) (VS US VE UE : Value) (V U : Value) (vs : List Value) (L : List (List Int)) (w : World) (hb : Blk w g 60 (bookC V U VS US VE UE)) (hS : Shelf (Kd.int .i64) 3 75 w base V vs L (fun _ l => l))
    (hL : L.length ≤ 250) (hB : ∀ (i : Nat) l, L[i]? = some l → l.length ≤ 1000000) (hbase : base ≤ w.heap.size) :
    Calls Try.prog 74 #[.pointer (some ⟨g, 0, none⟩)] w fun e w' => e = .returned (.tuple #[]) ∧ Shelf (Kd.int .i64) 3 75 w' base V vs L (fun i l => marks mkInts i 0 l.length) ∧ FxT 3 base w w' := by
  obtain ⟨A, n, rfl⟩ := row_slice hS.hV
  have HB := Aside0.mk hb
  have HS := Aside0.mk (hS.congr (F' := putF mkInts 0) (fun i l _ => putF_zero _ i l))
  have HBd := Aside0.mk hB
  have HL := Aside0.mk hL
  have Hbase := Aside0.mk hbase
  clear hb hS hB hL hbase
  go_enter Try.func74, Try.ntmps74
  go_wp2_with fail
  go_loopg [2] L.length (fun kq v wq => ∃ i : Nat, i + kq = L.length ∧ v = .int .i64 (i : Int) ∧ Aside0 (Shelf (Kd.int .i64) 3 75 wq base (.slice A L.length n) vs L (putF mkInts i)) ∧ Aside0 (FxT 3 base w wq))
  case atStart => exact ⟨0, by omega, rfl, HS, ⟨FxT.refl _ _ _⟩⟩
  case round =>
    clear HS
    obtain ⟨i, hi, rfl, HS, HX⟩ := hrel
    have hb1 := HX.out.blk HB.out (by decide)
    have c4 := hb1.cell (i := 2) (v := .slice A L.length n) rfl
    clear hb1
    by_cases hlt : i < L.length
    · have hlt' : (i : Int) < (L.length : Int) := by omega
      have hi' : (i : Int) ≤ 250 := by have := HL.out; omega
      have hi2 : i ≤ 250 := by omega
      obtain ⟨kk, rfl⟩ : ∃ z, gk = z + 1 := ⟨gk - 1, by omega⟩
      obtain ⟨l, hl⟩ : ∃ l, L[i]? = some l := ⟨_, List.getElem?_eq_getElem hlt⟩
      have hbd := HBd.out i l hl
      obtain ⟨gv, cV, Av, cv, hVe, hcell, hvs, hR, hle, _⟩ := HS.out.at hl
      rw [putF_self] at hcell hvs hle hR
      have hvlt := Aside0.mk (Kd.R_lt hR)
      clear hR
      injection hVe with q1 q2 q3
      subst q1; subst q3
      have hmk := Aside0.mk (markInts_f i 0 l.length (l.length + 1) (by omega) (by omega) (by omega))
      go_wp2_with fail
      refine (emulsionbook_markInts.calls (l.length + 1) (i : Int) 0 (l.length : Int) _ _ hmk.out).mono ?_
      rintro e w2 ⟨vm, rfl, hrm, hbm⟩
      obtain ⟨Am, cm, hvm, hcm, _⟩ := Kd.R_reads hrm
      rw [marks_length] at hvm hcm
      subst hvm
      have HM := Aside0.mk hrm
      have HS2 := Aside0.mk ((HS.out.below hbm).congr (F' := putG mkInts i 0) (fun j x _ => putG_zero _ i j x))
      have HX2 := Aside0.mk (HX.out.below hbm Hbase.out)
      clear hrm hcell hbm HS HX c4
      obtain ⟨B0, hB0⟩ : ∃ b, b = wr.heap.size := ⟨_, rfl⟩
      rw [← hB0] at HM hvlt
      clear hB0
      have hcmx := Aside0.mk hcm
      clear hcm
      go_wp2_with fail
      go_loopg [4] l.length (fun kq v wq => ∃ k : Nat, k + kq = l.length ∧ v = .int .i64 (k : Int) ∧ Aside0 (Shelf (Kd.int .i64) 3 75 wq base (.slice (some ⟨gv, 0, none⟩) L.length n) vs L (putG mkInts i k)) ∧ Aside0 (FxT 3 base w wq) ∧ Aside0 (Kd.R (Kd.int .i64) 3 wq B0 (fun _ => True) (.slice Am l.length cm) (marks mkInts i 0 l.length)))
      case atStart => exact ⟨0, by omega, rfl, HS2, HX2, HM⟩
      case round =>
        clear HS2 HX2 HM
        obtain ⟨k, hk, rfl, HS, HX, HM⟩ := hrel
        by_cases hk1 : k < l.length
        · have hk2 : (k : Int) < (l.length : Int) := by omega
          have hk3 : (k : Int) ≤ 1000000 := by omega
          obtain ⟨kz, rfl⟩ : ∃ z, gk = z + 1 := ⟨gk - 1, by omega⟩
          obtain ⟨gv', cV', Av', cv', hVe, hcell, hvs', hR, hle', _⟩ := HS.out.at hl
          rw [putG_len mkInts i k l (by omega)] at hcell hvs' hle' hR
          rw [hvs] at hvs'
          injection hvs' with hvs'; injection hvs' with q1 q2 q3
          injection hVe with q4 q5 q6
          injection q4 with q4; injection q4 with q4
          subst q1; subst q3; subst q4; subst q6
          obtain ⟨gl, hAv, hgl1, hgl2, _⟩ := row_at0 hR (by rw [putG_len mkInts i k l (by omega)]; omega)
          obtain ⟨gm, hAm, hgm1, hgm2, hCm⟩ := row_at0 HM.out (by rw [marks_length]; omega)
          subst hAv; subst hAm
          obtain ⟨cm_, hK, hcm⟩ := C_at0 hCm (marks_get mkInts i l.length 0 k hk1)
          rw [Nat.zero_add] at hK
          obtain rfl : cm_ = [.int .i64 (mkInts i k)] := hK
          have hm0 := hcm 0 _ rfl
          rw [show k * (Kd.int .i64).sz + 0 = k from by show k * 1 + 0 = k; omega] at hm0
          have hb1 := HX.out.blk HB.out (by decide)
          have c4 := hb1.cell (i := 2) (v := .slice (some ⟨gv, 0, none⟩) L.length n) rfl
          have HR := Aside0.mk hR
          clear hb1 hCm hcm hR
          try clear hK
          go_wp2_with fail
          refine start_ (n := 14) (S := fun w' => w'.cell? ⟨g, 2, none⟩ = some (.slice (some ⟨gv, 0, none⟩) L.length n) ∧ w'.cell? ⟨gv, i, none⟩ = some (.slice (some ⟨gl, 0, none⟩) l.length cv) ∧ w'.cell? ⟨gm, k, none⟩ = some (.int .i64 (mkInts i k)) ∧ Shelf (Kd.int .i64) 3 75 w' base (.slice (some ⟨gv, 0, none⟩) L.length n) vs L (putG mkInts i k) ∧ FxT 3 base w w' ∧ Kd.R (Kd.int .i64) 3 w' B0 (fun _ => True) (.slice (some ⟨gm, 0, none⟩) l.length cm) (marks mkInts i 0 l.length) ∧ Kd.R (Kd.int .i64) 3 w' base (fun _ => True) (.slice (some ⟨gl, 0, none⟩) l.length cv) (putG mkInts i k i l)) (ds := [13]) #[false, false, false, false, false, false, false, false, false, false, false, false, false, false] (by kernel_rfl) rfl rfl ⟨c4, hcell, hm0, (HS.out.below (below_drew (Below.refl _ _))), HX.out.drew, (Kd.R_drew HM.out), (Kd.R_drew HR.out)⟩ (fun hHeld => ?_)
          refine pure_ (i := 0) (N := some 30) (v := ?_) (a' := ?_) #[true, false, false, false, false, false, false, false, false, false, false, false, false, false] rfl rfl (by kernel_rfl) (fun _ _ _ h => h) (Or.inl ⟨by rfl, ?_⟩) ?_ ?_
          rotate_left
          · intro w'
            go_simp
            with_reducible rfl
          rotate_left
          · simp only [Act.put, List.setIfInBounds_toArray, List.set_cons_zero, List.set_cons_succ, i64_w, i32_w]
            rfl
          refine pure_ (i := 1) (N := some 31) (v := ?_) (a' := ?_) #[true, true, false, false, false, false, false, false, false, false, false, false, false, false] rfl rfl (by kernel_rfl) (fun _ _ _ h => h) (Or.inl ⟨by rfl, ?_⟩) ?_ ?_
          rotate_left
          · intro w'
            go_simp
            with_reducible rfl
          rotate_left
          · simp only [Act.put, List.setIfInBounds_toArray, List.set_cons_zero, List.set_cons_succ, i64_w, i32_w]
            rfl
          refine pure_ (i := 2) (N := some 32) (v := ?_) (a' := ?_) #[true, true, true, false, false, false, false, false, false, false, false, false, false, false] rfl rfl (by kernel_rfl) (fun _ _ _ h => h) (Or.inl ⟨by rfl, ?_⟩) ?_ ?_
          rotate_left
          · intro w'
            go_simp
            with_reducible rfl
          rotate_left
          · simp only [Act.put, List.setIfInBounds_toArray, List.set_cons_zero, List.set_cons_succ, i64_w, i32_w]
            rfl
          refine pure_ (i := 4) (N := some 34) (v := ?_) (a' := ?_) #[true, true, true, false, true, false, false, false, false, false, false, false, false, false] rfl rfl (by kernel_rfl) (fun _ _ _ h => h) (Or.inl ⟨by rfl, ?_⟩) ?_ ?_
          rotate_left
          · intro w'
            go_simp
            with_reducible rfl
          rotate_left
          · simp only [Act.put, List.setIfInBounds_toArray, List.set_cons_zero, List.set_cons_succ, i64_w, i32_w]
            rfl
          refine pure_ (i := 7) (N := some 37) (v := ?_) (a' := ?_) #[true, true, true, false, true, false, false, true, false, false, false, false, false, false] rfl rfl (by kernel_rfl) (fun _ _ _ h => h) (Or.inl ⟨by rfl, ?_⟩) ?_ ?_
          rotate_left
          · intro w'
            go_simp
            with_reducible rfl
          rotate_left
          · simp only [Act.put, List.setIfInBounds_toArray, List.set_cons_zero, List.set_cons_succ, i64_w, i32_w]
            rfl
          refine pure_ (i := 8) (N := some 38) (v := ?_) (a' := ?_) #[true, true, true, false, true, false, false, true, true, false, false, false, false, false] rfl rfl (by kernel_rfl) (fun _ _ _ h => h) (Or.inl ⟨by rfl, ?_⟩) ?_ ?_
          rotate_left
          · intro w'
            go_simp
            with_reducible rfl
          rotate_left
          · simp only [Act.put, List.setIfInBounds_toArray, List.set_cons_zero, List.set_cons_succ, i64_w, i32_w]
            rfl
          refine pure_ (i := 9) (N := some 39) (v := ?_) (a' := ?_) #[true, true, true, false, true, false, false, true, true, true, false, false, false, false] rfl rfl (by kernel_rfl) (fun _ _ _ h => h) (Or.inl ⟨by rfl, ?_⟩) ?_ ?_
          rotate_left
          · intro w'
            go_simp
            with_reducible rfl
          rotate_left
          · simp only [Act.put, List.setIfInBounds_toArray, List.set_cons_zero, List.set_cons_succ, i64_w, i32_w]
            rfl
          refine pure_ (i := 10) (N := some 40) (v := ?_) (a' := ?_) #[true, true, true, false, true, false, false, true, true, true, true, false, false, false] rfl rfl (by kernel_rfl) (fun _ _ _ h => h) (Or.inl ⟨by rfl, ?_⟩) ?_ ?_
          rotate_left
          · intro w'
            go_simp
            with_reducible rfl
          rotate_left
          · simp only [Act.put, List.setIfInBounds_toArray, List.set_cons_zero, List.set_cons_succ, i64_w, i32_w]
            rfl
          refine take_ (i := 3) (N := some 33) (v := ?_) (a' := ?_) #[true, true, true, true, true, false, false, true, true, true, true, false, false, false] rfl rfl (by kernel_rfl) (fun _ _ _ h => h) (Or.inl ⟨by rfl, ?_⟩) hHeld ?_ ?_
          rotate_left
          · rintro w' ⟨s0, s1, s2, s3, s4, s5, s6⟩
            go_simp
            with_reducible rfl
          rotate_left
          · simp only [Act.put, List.setIfInBounds_toArray, List.set_cons_zero, List.set_cons_succ, i64_w, i32_w]
            rfl
          refine pure_ (i := 5) (N := some 35) (v := ?_) (a' := ?_) #[true, true, true, true, true, true, false, true, true, true, true, false, false, false] rfl rfl (by kernel_rfl) (fun _ _ _ h => h) (Or.inl ⟨by rfl, ?_⟩) ?_ ?_
          rotate_left
          · intro w'
            go_simp
            with_reducible rfl
          rotate_left
          · simp only [Act.put, List.setIfInBounds_toArray, List.set_cons_zero, List.set_cons_succ, i64_w, i32_w]
            rfl
          refine take_ (i := 6) (N := some 36) (v := ?_) (a' := ?_) #[true, true, true, true, true, true, true, true, true, true, true, false, false, false] rfl rfl (by kernel_rfl) (fun _ _ _ h => h) (Or.inl ⟨by rfl, ?_⟩) hHeld ?_ ?_
          rotate_left
          · rintro w' ⟨s0, s1, s2, s3, s4, s5, s6⟩
            go_simp
            with_reducible rfl
          rotate_left
          · simp only [Act.put, List.setIfInBounds_toArray, List.set_cons_zero, List.set_cons_succ, i64_w, i32_w]
            rfl
          refine take_ (i := 11) (N := some 41) (v := ?_) (a' := ?_) #[true, true, true, true, true, true, true, true, true, true, true, true, false, false] rfl rfl (by kernel_rfl) (fun _ _ _ h => h) (Or.inl ⟨by rfl, ?_⟩) hHeld ?_ ?_
          rotate_left
          · rintro w' ⟨s0, s1, s2, s3, s4, s5, s6⟩
            go_simp
            with_reducible rfl
          rotate_left
          · simp only [Act.put, List.setIfInBounds_toArray, List.set_cons_zero, List.set_cons_succ, i64_w, i32_w]
            rfl
          refine pure_ (i := 12) (N := some 42) (v := ?_) (a' := ?_) #[true, true, true, true, true, true, true, true, true, true, true, true, true, false] rfl rfl (by kernel_rfl) (fun _ _ _ h => h) (Or.inl ⟨by rfl, ?_⟩) ?_ ?_
          rotate_left
          · intro w'
            go_simp
            with_reducible rfl
          rotate_left
          · simp only [Act.put, List.setIfInBounds_toArray, List.set_cons_zero, List.set_cons_succ, i64_w, i32_w]
            rfl
          refine last_ (i := 13) (N := none) #[true, true, true, true, true, true, true, true, true, true, true, true, true, true] rfl rfl (by kernel_rfl) (by decide) (fun K hK => ?_)
          refine Kd.R_store_step (Kd.int .i64) (w0 := w) base (by rfl) 3 (.tmp 42) (.tmp 41) (by rfl) 3 k (putG mkInts i k i l) (mkInts i k) (.int .i64 (mkInts i k)) [.int .i64 (mkInts i k)] (fun _ => True) (fun _ => False) (by rfl) (by show k = k * 1; omega) (by rfl) (by rfl) (by kernel_rfl) (by rfl) (by simp [Value.oneCell']) hHeld.2.2.2.2.2.2 hk1 rfl (fun _ h => h.elim) ?_ _
          intro w7 hR7 hG7
          refine hK.out _ _ ?_
          clear hK K
          refine done_ (by kernel_rfl) ?_
          have HS7 := Aside0.mk (hHeld.2.2.2.1.set (F' := putG mkInts i (k + 1)) rfl (by decide) (hHeld.2.2.2.2.1.base_le Hbase.out) hl hvs (by rw [putG_next mkInts i k l hk1]; exact hR7) hG7 (fun j x hj _ => putG_other mkInts i (k + 1) k j x hj))
          have HX7 := Aside0.mk (hHeld.2.2.2.2.1.trans (hHeld.2.2.2.1.grownFx hvs hl (hHeld.2.2.2.2.1.base_le Hbase.out) hG7))
          have HM7 := Aside0.mk (R_moved rfl hHeld.2.2.2.2.2.1 (fun q hq => hG7.block q (Kd.R_lt hHeld.2.2.2.2.2.1 q hq) (fun e => by
            injection e with e
            subst e
            have h1 : q < B0 := hvlt.out _ rfl
            have h2 := Kd.R_base hHeld.2.2.2.2.2.1 _ hq
            omega)))
          clear hHeld hR7 hG7
          go_wp2_with fail
          go_roundg kz
          case measure => omega
          case rel => exact ⟨k + 1, by omega, by go_num, HS7, HX7, HM7⟩
        · obtain rfl : k = l.length := by omega
          have hk2 : ¬ (l.length : Int) < (l.length : Int) := by omega
          have HS8 := Aside0.mk (HS.out.congr (fun j x hx => putG_full mkInts hl j x hx))
          go_wp2_with fail
          go_roundg kk
          case measure => omega
          case rel => exact ⟨i + 1, by omega, by go_num, HS8, HX⟩
    · obtain rfl : i = L.length := by omega
      have hlt' : ¬ (L.length : Int) < (L.length : Int) := by omega
      have HS9 := Aside0.mk (HS.out.congr (F' := fun i l => marks mkInts i 0 l.length) (fun j x hx => (putF_all mkInts _ j x (List.getElem?_eq_some_iff.1 hx).1).symm))
      go_wp2_with fail
      go_end0
      exact ⟨rfl, HS9.out, HX.out⟩
set_option maxRecDepth 100000 in
set_option maxHeartbeats 3200000 in
theorem put_Extents (g base : Nat) (VI UI VS US : Value) (V U : Value) (vs : List Value) (L : List (List S96)) (w : World) (hb : Blk w g 60 (bookC VI UI VS US V U)) (hS : Shelf k96 96 38 w base V vs L (fun _ l => l))
    (hL : L.length ≤ 250) (hB : ∀ (i : Nat) l, L[i]? = some l → l.length ≤ 1000000) (hbase : base ≤ w.heap.size) :
    Calls Try.prog 76 #[.pointer (some ⟨g, 0, none⟩)] w fun e w' => e = .returned (.tuple #[]) ∧ Shelf k96 96 38 w' base V vs L (fun i l => marks mkExtents i 0 l.length) ∧ FxT 96 base w w' := by
  obtain ⟨A, n, rfl⟩ := row_slice hS.hV
  have HB := Aside0.mk hb
  have HS := Aside0.mk (hS.congr (F' := putF mkExtents 0) (fun i l _ => putF_zero _ i l))
  have HBd := Aside0.mk hB
  have HL := Aside0.mk hL
  have Hbase := Aside0.mk hbase
  clear hb hS hB hL hbase
  go_enter Try.func76, Try.ntmps76
  go_wp2_with fail
  go_loopg [2] L.length (fun kq v wq => ∃ i : Nat, i + kq = L.length ∧ v = .int .i64 (i : Int) ∧ Aside0 (Shelf k96 96 38 wq base (.slice A L.length n) vs L (putF mkExtents i)) ∧ Aside0 (FxT 96 base w wq))
  case atStart => exact ⟨0, by omega, rfl, HS, ⟨FxT.refl _ _ _⟩⟩
  case round =>
    clear HS
    obtain ⟨i, hi, rfl, HS, HX⟩ := hrel
    have hb1 := HX.out.blk HB.out (by decide)
    have c4 := hb1.cell (i := 6) (v := .slice A L.length n) rfl
    clear hb1
    by_cases hlt : i < L.length
    · have hlt' : (i : Int) < (L.length : Int) := by omega
      have hi' : (i : Int) ≤ 250 := by have := HL.out; omega
      have hi2 : i ≤ 250 := by omega
      obtain ⟨kk, rfl⟩ : ∃ z, gk = z + 1 := ⟨gk - 1, by omega⟩
      obtain ⟨l, hl⟩ : ∃ l, L[i]? = some l := ⟨_, List.getElem?_eq_getElem hlt⟩
      have hbd := HBd.out i l hl
      obtain ⟨gv, cV, Av, cv, hVe, hcell, hvs, hR, hle, _⟩ := HS.out.at hl
      rw [putF_self] at hcell hvs hle hR
      have hvlt := Aside0.mk (Kd.R_lt hR)
      clear hR
      injection hVe with q1 q2 q3
      subst q1; subst q3
      have hmk := Aside0.mk (markExtents_f i 0 l.length (l.length + 1) (by omega) (by omega) (by omega))
      go_wp2_with fail
      refine (emulsionbook_markExtents.calls (l.length + 1) (i : Int) 0 (l.length : Int) _ _ hmk.out).mono ?_
      rintro e w2 ⟨vm, rfl, hrm, hbm⟩
      obtain ⟨Am, cm, hvm, hcm, _⟩ := Kd.R_reads hrm
      rw [marks_length] at hvm hcm
      subst hvm
      have HM := Aside0.mk hrm
      have HS2 := Aside0.mk ((HS.out.below hbm).congr (F' := putG mkExtents i 0) (fun j x _ => putG_zero _ i j x))
      have HX2 := Aside0.mk (HX.out.below hbm Hbase.out)
      clear hrm hcell hbm HS HX c4
      obtain ⟨B0, hB0⟩ : ∃ b, b = wr.heap.size := ⟨_, rfl⟩
      rw [← hB0] at HM hvlt
      clear hB0
      have hcmx := Aside0.mk hcm
      clear hcm
      go_wp2_with fail
      go_loopg [4] l.length (fun kq v wq => ∃ k : Nat, k + kq = l.length ∧ v = .int .i64 (k : Int) ∧ Aside0 (Shelf k96 96 38 wq base (.slice (some ⟨gv, 0, none⟩) L.length n) vs L (putG mkExtents i k)) ∧ Aside0 (FxT 96 base w wq) ∧ Aside0 (Kd.R k96 96 wq B0 (fun _ => True) (.slice Am l.length cm) (marks mkExtents i 0 l.length)))
      case atStart => exact ⟨0, by omega, rfl, HS2, HX2, HM⟩
      case round =>
        clear HS2 HX2 HM
        obtain ⟨k, hk, rfl, HS, HX, HM⟩ := hrel
        by_cases hk1 : k < l.length
        · have hk2 : (k : Int) < (l.length : Int) := by omega
          have hk3 : (k : Int) ≤ 1000000 := by omega
          obtain ⟨kz, rfl⟩ : ∃ z, gk = z + 1 := ⟨gk - 1, by omega⟩
          obtain ⟨gv', cV', Av', cv', hVe, hcell, hvs', hR, hle', _⟩ := HS.out.at hl
          rw [putG_len mkExtents i k l (by omega)] at hcell hvs' hle' hR
          rw [hvs] at hvs'
          injection hvs' with hvs'; injection hvs' with q1 q2 q3
          injection hVe with q4 q5 q6
          injection q4 with q4; injection q4 with q4
          subst q1; subst q3; subst q4; subst q6
          obtain ⟨gl, hAv, hgl1, hgl2, _⟩ := row_at0 hR (by rw [putG_len mkExtents i k l (by omega)]; omega)
          obtain ⟨gm, hAm, hgm1, hgm2, hCm⟩ := row_at0 HM.out (by rw [marks_length]; omega)
          subst hAv; subst hAm
          obtain ⟨cm_, hK, hcm⟩ := C_at0 hCm (marks_get mkExtents i l.length 0 k hk1)
          rw [Nat.zero_add] at hK
          obtain rfl := k96_open hK
          have hm0 := hcm 0 _ rfl
          rw [show k * k96.sz + 0 = k * 3 from by show k * 3 + 0 = k * 3; omega] at hm0
          have hm1 := hcm 1 _ rfl
          rw [show k * k96.sz + 1 = k * 3 + 1 from by show k * 3 + 1 = k * 3 + 1; omega] at hm1
          have hm2 := hcm 2 _ rfl
          rw [show k * k96.sz + 2 = k * 3 + 2 from by show k * 3 + 2 = k * 3 + 2; omega] at hm2
          have hb1 := HX.out.blk HB.out (by decide)
          have c4 := hb1.cell (i := 6) (v := .slice (some ⟨gv, 0, none⟩) L.length n) rfl
          have HR := Aside0.mk hR
          clear hb1 hCm hcm hR
          try clear hK
          go_wp2_with fail
          refine start_ (n := 14) (S := fun w' => w'.cell? ⟨g, 6, none⟩ = some (.slice (some ⟨gv, 0, none⟩) L.length n) ∧ w'.cell? ⟨gv, i, none⟩ = some (.slice (some ⟨gl, 0, none⟩) l.length cv) ∧ w'.cell? ⟨gm, k * 3, none⟩ = some (.int .i64 (mkExtents i k).f0) ∧ w'.cell? ⟨gm, k * 3 + 1, none⟩ = some (.int .i64 (mkExtents i k).f1) ∧ w'.cell? ⟨gm, k * 3 + 2, none⟩ = some (.int .i64 (mkExtents i k).f2) ∧ Shelf k96 96 38 w' base (.slice (some ⟨gv, 0, none⟩) L.length n) vs L (putG mkExtents i k) ∧ FxT 96 base w w' ∧ Kd.R k96 96 w' B0 (fun _ => True) (.slice (some ⟨gm, 0, none⟩) l.length cm) (marks mkExtents i 0 l.length) ∧ Kd.R k96 96 w' base (fun _ => True) (.slice (some ⟨gl, 0, none⟩) l.length cv) (putG mkExtents i k i l)) (ds := [13]) #[false, false, false, false, false, false, false, false, false, false, false, false, false, false] (by kernel_rfl) rfl rfl ⟨c4, hcell, hm0, hm1, hm2, (HS.out.below (below_drew (Below.refl _ _))), HX.out.drew, (Kd.R_drew HM.out), (Kd.R_drew HR.out)⟩ (fun hHeld => ?_)
          refine pure_ (i := 0) (N := some 30) (v := ?_) (a' := ?_) #[true, false, false, false, false, false, false, false, false, false, false, false, false, false] rfl rfl (by kernel_rfl) (fun _ _ _ h => h) (Or.inl ⟨by rfl, ?_⟩) ?_ ?_
          rotate_left
          · intro w'
            go_simp
            with_reducible rfl
          rotate_left
          · simp only [Act.put, List.setIfInBounds_toArray, List.set_cons_zero, List.set_cons_succ, i64_w, i32_w]
            rfl
          refine pure_ (i := 1) (N := some 31) (v := ?_) (a' := ?_) #[true, true, false, false, false, false, false, false, false, false, false, false, false, false] rfl rfl (by kernel_rfl) (fun _ _ _ h => h) (Or.inl ⟨by rfl, ?_⟩) ?_ ?_
          rotate_left
          · intro w'
            go_simp
            with_reducible rfl
          rotate_left
          · simp only [Act.put, List.setIfInBounds_toArray, List.set_cons_zero, List.set_cons_succ, i64_w, i32_w]
            rfl
          refine pure_ (i := 2) (N := some 32) (v := ?_) (a' := ?_) #[true, true, true, false, false, false, false, false, false, false, false, false, false, false] rfl rfl (by kernel_rfl) (fun _ _ _ h => h) (Or.inl ⟨by rfl, ?_⟩) ?_ ?_
          rotate_left
          · intro w'
            go_simp
            with_reducible rfl
          rotate_left
          · simp only [Act.put, List.setIfInBounds_toArray, List.set_cons_zero, List.set_cons_succ, i64_w, i32_w]
            rfl
          refine pure_ (i := 4) (N := some 34) (v := ?_) (a' := ?_) #[true, true, true, false, true, false, false, false, false, false, false, false, false, false] rfl rfl (by kernel_rfl) (fun _ _ _ h => h) (Or.inl ⟨by rfl, ?_⟩) ?_ ?_
          rotate_left
          · intro w'
            go_simp
            with_reducible rfl
          rotate_left
          · simp only [Act.put, List.setIfInBounds_toArray, List.set_cons_zero, List.set_cons_succ, i64_w, i32_w]
            rfl
          refine pure_ (i := 7) (N := some 37) (v := ?_) (a' := ?_) #[true, true, true, false, true, false, false, true, false, false, false, false, false, false] rfl rfl (by kernel_rfl) (fun _ _ _ h => h) (Or.inl ⟨by rfl, ?_⟩) ?_ ?_
          rotate_left
          · intro w'
            go_simp
            with_reducible rfl
          rotate_left
          · simp only [Act.put, List.setIfInBounds_toArray, List.set_cons_zero, List.set_cons_succ, i64_w, i32_w]
            rfl
          refine pure_ (i := 8) (N := some 38) (v := ?_) (a' := ?_) #[true, true, true, false, true, false, false, true, true, false, false, false, false, false] rfl rfl (by kernel_rfl) (fun _ _ _ h => h) (Or.inl ⟨by rfl, ?_⟩) ?_ ?_
          rotate_left
          · intro w'
            go_simp
            with_reducible rfl
          rotate_left
          · simp only [Act.put, List.setIfInBounds_toArray, List.set_cons_zero, List.set_cons_succ, i64_w, i32_w]
            rfl
          refine pure_ (i := 9) (N := some 39) (v := ?_) (a' := ?_) #[true, true, true, false, true, false, false, true, true, true, false, false, false, false] rfl rfl (by kernel_rfl) (fun _ _ _ h => h) (Or.inl ⟨by rfl, ?_⟩) ?_ ?_
          rotate_left
          · intro w'
            go_simp
            with_reducible rfl
          rotate_left
          · simp only [Act.put, List.setIfInBounds_toArray, List.set_cons_zero, List.set_cons_succ, i64_w, i32_w]
            rfl
          refine pure_ (i := 10) (N := some 40) (v := ?_) (a' := ?_) #[true, true, true, false, true, false, false, true, true, true, true, false, false, false] rfl rfl (by kernel_rfl) (fun _ _ _ h => h) (Or.inl ⟨by rfl, ?_⟩) ?_ ?_
          rotate_left
          · intro w'
            go_simp
            with_reducible rfl
          rotate_left
          · simp only [Act.put, List.setIfInBounds_toArray, List.set_cons_zero, List.set_cons_succ, i64_w, i32_w]
            rfl
          refine take_ (i := 3) (N := some 33) (v := ?_) (a' := ?_) #[true, true, true, true, true, false, false, true, true, true, true, false, false, false] rfl rfl (by kernel_rfl) (fun _ _ _ h => h) (Or.inl ⟨by rfl, ?_⟩) hHeld ?_ ?_
          rotate_left
          · rintro w' ⟨s0, s1, s2, s3, s4, s5, s6, s7, s8⟩
            go_simp
            with_reducible rfl
          rotate_left
          · simp only [Act.put, List.setIfInBounds_toArray, List.set_cons_zero, List.set_cons_succ, i64_w, i32_w]
            rfl
          refine pure_ (i := 5) (N := some 35) (v := ?_) (a' := ?_) #[true, true, true, true, true, true, false, true, true, true, true, false, false, false] rfl rfl (by kernel_rfl) (fun _ _ _ h => h) (Or.inl ⟨by rfl, ?_⟩) ?_ ?_
          rotate_left
          · intro w'
            go_simp
            with_reducible rfl
          rotate_left
          · simp only [Act.put, List.setIfInBounds_toArray, List.set_cons_zero, List.set_cons_succ, i64_w, i32_w]
            rfl
          refine take_ (i := 6) (N := some 36) (v := ?_) (a' := ?_) #[true, true, true, true, true, true, true, true, true, true, true, false, false, false] rfl rfl (by kernel_rfl) (fun _ _ _ h => h) (Or.inl ⟨by rfl, ?_⟩) hHeld ?_ ?_
          rotate_left
          · rintro w' ⟨s0, s1, s2, s3, s4, s5, s6, s7, s8⟩
            go_simp
            with_reducible rfl
          rotate_left
          · simp only [Act.put, List.setIfInBounds_toArray, List.set_cons_zero, List.set_cons_succ, i64_w, i32_w]
            rfl
          refine take_ (i := 11) (N := some 41) (v := ?_) (a' := ?_) #[true, true, true, true, true, true, true, true, true, true, true, true, false, false] rfl rfl (by kernel_rfl) (fun _ _ _ h => h) (Or.inl ⟨by rfl, ?_⟩) hHeld ?_ ?_
          rotate_left
          · rintro w' ⟨s0, s1, s2, s3, s4, s5, s6, s7, s8⟩
            go_simp
            with_reducible rfl
          rotate_left
          · simp only [Act.put, List.setIfInBounds_toArray, List.set_cons_zero, List.set_cons_succ, i64_w, i32_w]
            rfl
          refine pure_ (i := 12) (N := some 42) (v := ?_) (a' := ?_) #[true, true, true, true, true, true, true, true, true, true, true, true, true, false] rfl rfl (by kernel_rfl) (fun _ _ _ h => h) (Or.inl ⟨by rfl, ?_⟩) ?_ ?_
          rotate_left
          · intro w'
            go_simp
            with_reducible rfl
          rotate_left
          · simp only [Act.put, List.setIfInBounds_toArray, List.set_cons_zero, List.set_cons_succ, i64_w, i32_w]
            rfl
          refine last_ (i := 13) (N := none) #[true, true, true, true, true, true, true, true, true, true, true, true, true, true] rfl rfl (by kernel_rfl) (by decide) (fun K hK => ?_)
          refine Kd.R_store_step k96 (w0 := w) base (by rfl) 96 (.tmp 42) (.tmp 41) (by rfl) 96 k (putG mkExtents i k i l) (mkExtents i k) (.agg #[.int .i64 (mkExtents i k).f0, .int .i64 (mkExtents i k).f1, .int .i64 (mkExtents i k).f2]) [.int .i64 (mkExtents i k).f0, .int .i64 (mkExtents i k).f1, .int .i64 (mkExtents i k).f2] (fun _ => True) (fun _ => False) (by rfl) (by rfl) (by rfl) (by rfl) (by kernel_rfl) (by rfl) (by simp [Value.oneCell']) hHeld.2.2.2.2.2.2.2.2 hk1 (k96_mkM _ _ _ _) (fun _ h => h.elim) ?_ _
          intro w7 hR7 hG7
          refine hK.out _ _ ?_
          clear hK K
          refine done_ (by kernel_rfl) ?_
          have HS7 := Aside0.mk (hHeld.2.2.2.2.2.1.set (F' := putG mkExtents i (k + 1)) rfl (by decide) (hHeld.2.2.2.2.2.2.1.base_le Hbase.out) hl hvs (by rw [putG_next mkExtents i k l hk1]; exact hR7) hG7 (fun j x hj _ => putG_other mkExtents i (k + 1) k j x hj))
          have HX7 := Aside0.mk (hHeld.2.2.2.2.2.2.1.trans (hHeld.2.2.2.2.2.1.grownFx hvs hl (hHeld.2.2.2.2.2.2.1.base_le Hbase.out) hG7))
          have HM7 := Aside0.mk (R_moved rfl hHeld.2.2.2.2.2.2.2.1 (fun q hq => hG7.block q (Kd.R_lt hHeld.2.2.2.2.2.2.2.1 q hq) (fun e => by
            injection e with e
            subst e
            have h1 : q < B0 := hvlt.out _ rfl
            have h2 := Kd.R_base hHeld.2.2.2.2.2.2.2.1 _ hq
            omega)))
          clear hHeld hR7 hG7
          go_wp2_with fail
          go_roundg kz
          case measure => omega
          case rel => exact ⟨k + 1, by omega, by go_num, HS7, HX7, HM7⟩
        · obtain rfl : k = l.length := by omega
          have hk2 : ¬ (l.length : Int) < (l.length : Int) := by omega
          have HS8 := Aside0.mk (HS.out.congr (fun j x hx => putG_full mkExtents hl j x hx))
          go_wp2_with fail
          go_roundg kk
          case measure => omega
          case rel => exact ⟨i + 1, by omega, by go_num, HS8, HX⟩
    · obtain rfl : i = L.length := by omega
      have hlt' : ¬ (L.length : Int) < (L.length : Int) := by omega
      have HS9 := Aside0.mk (HS.out.congr (F' := fun i l => marks mkExtents i 0 l.length) (fun j x hx => (putF_all mkExtents _ j x (List.getElem?_eq_some_iff.1 hx).1).symm))
      go_wp2_with fail
      go_end0
      exact ⟨rfl, HS9.out, HX.out⟩
end Go.Proofs.Ytacmfpkmcefcfaa.Hand
end
section
namespace Go.Proofs.Ytacmfpkmcefcfaa.Hand
open Go.RowKit Go.Proofs.YtacmfpkmcefcfaaW.PrintWords Go.Proofs.YtacmfpkmcefcfaaW.PrintLast Go.Proofs.YtacmfpkmcefcfaaW.PrintMore Go.Proofs.Ytacmfpkmcefcfaa.A
set_option linter.unusedVariables false
set_option linter.unusedSimpArgs false
section
variable {α : Type} {d : Kd α} {e eL : Nat} {w0 w1 w w2 : World} {base i : Nat} {vs os : List Value} {L : List (List α)} {v cur cur2 O O2 V : Value} {l M ys : List α} {F G : Nat → List α → List α}
/-- What the lists show: for the law that looks at them. -/
def Shows (d : Kd α) (e eL : Nat) (w : World) (base : Nat) (V : Value) (vs : List Value) (L : List (List α)) (F : Nat → List α → List α) : Prop :=
  w.ownsRow base eL 1 V L.length vs ∧ ∀ (i : Nat) v l, vs[i]? = some v → L[i]? = some l → Sees d e w v (F i l)
theorem Shows.below (hK : Flat d) (h : Shows d e eL w base V vs L F) (hb : Below w.heap.size w w1) : Shows d e eL w1 base V vs L F :=
  ⟨own_move h.1 (fun k hk => hb.block k (own_lt h.1 k hk)), fun i v l hv hl => (h.2 i v l hv hl).below hK hb⟩
theorem Shows.fx {T B : Nat} (hK : Flat d) (h : Shows d e eL w base V vs L F) (hx : FxT T B w w1) (h1 : e ≠ T) (h2 : eL ≠ T) : Shows d e eL w1 base V vs L F :=
  ⟨hx.own h.1 h2, fun i v l hv hl => (h.2 i v l hv hl).fx hK hx h1⟩
theorem Shows.calls {n c : Nat} {A : Option Addr} (h : Shows d e eL w base (.slice A n c) vs L F) : n = (L.mapIdx F).length ∧ (L.mapIdx F).length ≤ c ∧ Kd.C (Kd.slice e d) w A (L.mapIdx F).length (L.mapIdx F) := by
  have hlen : (L.mapIdx F).length = L.length := List.length_mapIdx
  refine lists_C (eL := eL) (base := base) (vs := vs) (by rw [hlen]; exact h.1) (fun i v l hv hl => ?_)
  rw [List.getElem?_mapIdx] at hl
  obtain ⟨l0, hl0, rfl⟩ := Option.map_eq_some_iff.1 hl
  exact (h.2 i v l0 hv hl0).reads
/-- One list is being grown. -/
structure Cur (d : Kd α) (e : Nat) (w1 w : World) (base : Nat) (v cur : Value) (M l : List α) : Prop where
  r : d.R e w base (fun _ => True) cur l
  g : w1.grownBy w v.ownBlock
  at_ : cur.ownBlock = v.ownBlock ∨ ∀ k, cur.ownBlock = some k → w1.heap.size ≤ k
  s : Sees d e w v M
  len : M.length ≤ l.length
theorem Cur.start (h : d.R e w base (fun _ => True) v M) : Cur d e w w base v v M M := ⟨h, World.grownBy.refl w _, .inl rfl, Sees.of_R h, Nat.le_refl _⟩
theorem Cur.below (hK : Flat d) (h : Cur d e w1 w base v cur M l) (hb : Below w.heap.size w w2) : Cur d e w1 w2 base v cur M l :=
  ⟨Kd.R_below h.r hb, ⟨hb.os.trans h.g.os, hb.tape.trans h.g.tape, hb.output.trans h.g.output, Nat.le_trans h.g.size hb.size, fun k hk hn => (hb.block k (Nat.lt_of_lt_of_le hk h.g.size)).trans (h.g.block k hk hn)⟩, h.at_, h.s.below hK hb, h.len⟩
theorem Cur.more (hK : Flat d) (h : Cur d e w1 w base v cur M l) (hr : d.R e w2 base (fun _ => True) cur2 (l ++ ys)) (hg : w.grownBy w2 cur.ownBlock) (hat : cur2.ownBlock = cur.ownBlock ∨ ∃ b, cur2.ownBlock = some b ∧ w.heap.size ≤ b) (hk : Kept e w w2 cur (l.length * d.sz)) : Cur d e w1 w2 base v cur2 M (l ++ ys) := by
  refine ⟨hr, ⟨hg.os.trans h.g.os, hg.tape.trans h.g.tape, hg.output.trans h.g.output, Nat.le_trans h.g.size hg.size, fun k hk hn => (hg.block k (Nat.lt_of_lt_of_le hk h.g.size) (fun q => ?_)).trans (h.g.block k hk hn)⟩, ?_, h.s.kept hK hg hk (Nat.mul_le_mul_right _ h.len), by have := h.len; rw [List.length_append]; omega⟩
  · rcases h.at_ with ha | ha
    · exact hn (q.trans ha)
    · have := ha k q.symm; omega
  · rcases hat with hat | ⟨b, hb, hle⟩
    · rw [hat]; exact h.at_
    · right
      intro k hk'
      rw [hb] at hk'
      injection hk' with hk'
      have := h.g.size
      omega
/-- So many lists are grown. -/
structure Grown (d : Kd α) (e eL : Nat) (w0 w : World) (base : Nat) (O : Value) (vs os : List Value) (L : List (List α)) (F G : Nat → List α → List α) (i : Nat) : Prop where
  hO : w.ownsRow w0.heap.size eL 1 O i os
  fx : FxT e base w0 w
  lt : ∀ (j : Nat) v k, vs[j]? = some v → v.ownBlock = some k → k < w0.heap.size ∧ base ≤ k ∧ ∃ cs, w0.heap[k]? = some (.cells cs e (0, 0))
  sees : ∀ (j : Nat) v l, vs[j]? = some v → L[j]? = some l → Sees d e w v (F j l)
  rest : ∀ (j : Nat) v l, i ≤ j → vs[j]? = some v → L[j]? = some l → d.R e w base (fun _ => True) v (F j l)
  outs : ∀ (j : Nat) v l, os[j]? = some v → L[j]? = some l → d.R e w base (fun _ => True) v (G j l) ∧ ∀ k, v.ownBlock = some k → w0.heap.size ≤ k ∨ ∃ x, vs[j]? = some x ∧ x.ownBlock = some k
theorem Shelf.grown (h : Shelf d e eL w base V vs L F) : Grown d e eL w w base (.slice none 0 0) vs [] L F G 0 := by
  refine ⟨World.ownsRow_nil w _ _ 1, FxT.refl _ _ _, fun j v k hv hk => ?_, fun j v l hv hl => Sees.of_R (h.rv.2 j v l hv hl), fun j v l _ hv hl => h.rv.2 j v l hv hl, fun j v l hv => by simp at hv⟩
  have hj : j < L.length := by rw [← h.rv.1]; exact (List.getElem?_eq_some_iff.1 hv).1
  have hr := h.rv.2 j v _ hv (List.getElem?_eq_getElem hj)
  exact ⟨Kd.R_lt hr k hk, Kd.R_base hr k hk, Kd.R_typed hr k hk⟩
/-- The next list has grown, and is kept among the grown ones. -/
theorem Grown.next (hE : d.E = []) (hK : Flat d) (hne : eL ≠ e) (hp : vs.Pairwise NeRow) (hb : base ≤ w0.heap.size) (h : Grown d e eL w0 w1 base O vs os L F G i) (hv : vs[i]? = some v) (hl : L[i]? = some l) (c : Cur d e w1 w base v cur (F i l) (G i l))
    (hO2 : w2.ownsRow w0.heap.size eL 1 O2 (i + 1) (os ++ [cur])) (hg : w.grownBy w2 O.ownBlock) : Grown d e eL w0 w2 base O2 vs (os ++ [cur]) L F G (i + 1) := by
  have z0 : w0.heap.size ≤ w1.heap.size := h.fx.1.size
  have z1 : w1.heap.size ≤ w.heap.size := c.g.size
  have hlen : os.length = i := by have := h.hO.1; omega
  have hvb : ∀ k, v.ownBlock = some k → k < w0.heap.size ∧ base ≤ k ∧ ∃ cs, w0.heap[k]? = some (.cells cs e (0, 0)) := fun k hk => h.lt i v k hv hk
  have hOb : ∀ k, O.ownBlock = some k → w0.heap.size ≤ k := fun k hk => own_base h.hO k hk
  -- blocks below the first world's end, but v's
  have old : ∀ k, k < w0.heap.size → some k ≠ v.ownBlock → w2.heap[k]? = w1.heap[k]? := fun k hk hn => (hg.block k (by omega) (fun q => by have := hOb k q.symm; omega)).trans (c.g.block k (by omega) hn)
  have new : ∀ k, w0.heap.size ≤ k → k < w1.heap.size → some k ≠ O.ownBlock → w2.heap[k]? = w1.heap[k]? := fun k hk hk1 hn => (hg.block k (by omega) hn).trans (c.g.block k hk1 (fun q => by have := (hvb k q.symm).1; omega))
  have hOw : w.ownsRow w0.heap.size eL 1 O i os := own_move h.hO (fun k hk => c.g.block k (own_lt h.hO k hk) (fun q => by have := (hvb k q.symm).1; have := hOb k hk; omega))
  refine ⟨hO2, ?_, h.lt, fun j x y hx hy => ?_, fun j x y hj hx hy => ?_, fun j x y hx hy => ?_⟩
  · -- only blocks of the one type
    refine ⟨⟨hg.os.trans (c.g.os.trans h.fx.1.os), hg.tape.trans (c.g.tape.trans h.fx.1.tape), hg.output.trans (c.g.output.trans h.fx.1.output), by have := hg.size; omega, fun k hk => ?_⟩, fun k hk hc => ?_⟩
    · exact (old k (by omega) (fun q => by have := (hvb k q.symm).2.1; omega)).trans (h.fx.1.block k hk)
    · exact (old k hk (fun q => by obtain ⟨cs, hcs⟩ := (hvb k q.symm).2.2; exact hc cs hcs)).trans (h.fx.2 k hk hc)
  · by_cases hj : j = i
    · subst hj
      rw [hv] at hx; rw [hl] at hy
      injection hx with hx; injection hy with hy
      subst hx; subst hy
      exact c.s.move hK (fun k hk => hg.block k (c.s.lt hk) (fun q => by have := (hvb k hk).1; have := hOb k q.symm; omega))
    · refine (h.sees j x y hx hy).move hK (fun k hk => old k (h.lt j x k hx hk).1 (fun q => ne_of_pair hp hv hx hj k q.symm hk))
  · refine R_moved hE (h.rest j x y (by omega) hx hy) (fun k hk => old k (h.lt j x k hx hk).1 (fun q => ne_of_pair hp hv hx (by omega) k q.symm hk))
  · by_cases hj : j < os.length
    · rw [List.getElem?_append_left hj] at hx
      obtain ⟨hr, ho⟩ := h.outs j x y hx hy
      refine ⟨R_moved hE hr (fun k hk => ?_), ho⟩
      rcases ho k hk with hk0 | ⟨x', hx', hk'⟩
      · refine new k hk0 (Kd.R_lt hr k hk) (fun q => ?_)
        obtain ⟨cs, hcs⟩ := own_typed h.hO k q.symm
        obtain ⟨cs', hcs'⟩ := Kd.R_typed hr k hk
        rw [hcs] at hcs'; injection hcs' with hcs'; injection hcs' with _ hcs'; exact hne hcs'
      · exact old k (h.lt j x' k hx' hk').1 (fun q => ne_of_pair hp hv hx' (by omega) k q.symm hk')
    · rw [List.getElem?_append_right (by omega)] at hx
      have hji : j = i := by
        rcases Nat.eq_zero_or_pos (j - os.length) with h0 | h0
        · omega
        · rw [List.getElem?_eq_none (by simp; omega)] at hx; cases hx
      subst hji
      rw [hlen, Nat.sub_self] at hx
      rw [hl] at hy
      injection hx with hx; injection hy with hy
      subst hx; subst hy
      refine ⟨R_moved hE c.r (fun k hk => hg.block k (Kd.R_lt c.r k hk) (fun q => ?_)), fun k hk => ?_⟩
      · obtain ⟨cs, hcs⟩ := own_typed hOw k q.symm
        obtain ⟨cs', hcs'⟩ := Kd.R_typed c.r k hk
        rw [hcs] at hcs'; injection hcs' with hcs'; injection hcs' with _ hcs'; exact hne hcs'
      · rcases c.at_ with ha | ha
        · exact .inr ⟨v, hv, by rw [← ha]; exact hk⟩
        · have := ha k hk; exact .inl (by omega)
theorem Grown.O_at (h : Grown d e eL w0 w1 base O vs os L F G i) (hv : vs[i]? = some v) (c : Cur d e w1 w base v cur M l) : w.ownsRow w0.heap.size eL 1 O i os ∧ w0.heap.size ≤ w.heap.size :=
  ⟨own_move h.hO (fun k hk => c.g.block k (own_lt h.hO k hk) (fun q => by have := (h.lt i v k hv q.symm).1; have := own_base h.hO k hk; omega)), Nat.le_trans h.fx.1.size c.g.size⟩
theorem Grown.shows (hV : w0.ownsRow base eL 1 V L.length vs) (hne : eL ≠ e) (h : Grown d e eL w0 w base O vs os L F G L.length) : Shows d e eL w w0.heap.size O os L G ∧ Shows d e eL w base V vs L F ∧ FxT e base w0 w :=
  ⟨⟨h.hO, fun j v l hv hl => Sees.of_R (h.outs j v l hv hl).1⟩, ⟨h.fx.own hV hne, fun j v l hv hl => h.sees j v l hv hl⟩, h.fx⟩
end
end Go.Proofs.Ytacmfpkmcefcfaa.Hand
end
section
namespace Go.Proofs.Ytacmfpkmcefcfaa.Hand
open Go.RowKit Go.Proofs.YtacmfpkmcefcfaaW.PrintWords Go.Proofs.YtacmfpkmcefcfaaW.PrintLast Go.Proofs.YtacmfpkmcefcfaaW.PrintMore Go.Proofs.Ytacmfpkmcefcfaa.A
set_option linter.unusedVariables false
set_option linter.unusedSimpArgs false
attribute [local go_sem] max2_int min2_int max_two min_two max_three min_three max_four min_four
theorem marks_app0 {α : Type} (mk : Nat → Nat → α) (i n m : Nat) : marks mk i 0 n ++ marks mk i n m = marks mk i 0 (n + m) := by rw [marks_app, Nat.zero_add]
theorem ginfoSpans : (Try.prog.info? 119).map (fun i => (i.zero, i.size, i.bytes)) = some (some (.agg #[.int .i64 0, .int .i64 0]), k119.sz, 16) := by kernel_rfl
theorem ginfoLSpans : (Try.prog.info? 128).map (fun i => (i.zero, i.size, i.bytes)) = some (some (.slice none 0 0), 1, 24) := by kernel_rfl
theorem flatSpans : Flat k119 := fun w w1 x cs h => by obtain rfl := k119_open h; exact k119_mk _ _
set_option maxRecDepth 100000 in
set_option maxHeartbeats 3200000 in
theorem grow_Spans (g base : Nat) (VI UI VE UE : Value) (V U : Value) (vs : List Value) (L : List (List S119)) (w : World) (hb : Blk w g 60 (bookC VI UI V U VE UE)) (hS : Shelf k119 119 128 w base V vs L (fun i l => marks mkSpans i 0 l.length))
    (hL : L.length ≤ 250) (hB : ∀ (i : Nat) l, L[i]? = some l → l.length ≤ 1000000) (hbase : base ≤ w.heap.size) :
    Calls Try.prog 81 #[.pointer (some ⟨g, 0, none⟩)] w fun e w' => ∃ O, e = .returned O ∧ ∃ os, Shows k119 119 128 w' w.heap.size O os L (fun i l => marks mkSpans i 0 (l.length + 72)) ∧ Shows k119 119 128 w' base V vs L (fun i l => marks mkSpans i 0 l.length) ∧ FxT 119 base w w' := by
  obtain ⟨A, n, rfl⟩ := row_slice hS.hV
  have HB := Aside0.mk hb
  have HG := Aside0.mk (hS.grown (G := fun i l => marks mkSpans i 0 (l.length + 72)))
  have HV := Aside0.mk hS.hV
  have HP := Aside0.mk hS.ne
  have HBd := Aside0.mk hB
  have HL := Aside0.mk hL
  have Hbase := Aside0.mk hbase
  have hvl := Aside0.mk hS.rv.1
  clear hb hS hB hL hbase
  go_enter Try.func81, Try.ntmps81
  go_wp2_with fail
  go_loopg [3, 4] L.length (fun kq o v wq => ∃ (i : Nat) (os : List Value), i + kq = L.length ∧ v = .int .i64 (i : Int) ∧ Aside0 (Grown k119 119 128 w wq base o vs os L (fun i l => marks mkSpans i 0 l.length) (fun i l => marks mkSpans i 0 (l.length + 72)) i))
  case atStart => exact ⟨0, [], by omega, rfl, HG⟩
  case round =>
    clear HG
    obtain ⟨i, os, hi, rfl, HG⟩ := hrel
    obtain ⟨Ao, co, rfl⟩ := row_slice HG.out.hO
    have hb1 := HG.out.fx.blk HB.out (by decide)
    have c4 := hb1.cell (i := 4) (v := .slice A L.length n) rfl
    clear hb1
    by_cases hlt : i < L.length
    · have hlt' : (i : Int) < (L.length : Int) := by omega
      have hi' : (i : Int) ≤ 250 := by have := HL.out; omega
      have hi2 : i ≤ 250 := by omega
      obtain ⟨kk, rfl⟩ : ∃ z, gk = z + 1 := ⟨gk - 1, by omega⟩
      obtain ⟨l, hl⟩ : ∃ l, L[i]? = some l := ⟨_, List.getElem?_eq_getElem hlt⟩
      have hbd := Aside0.mk (HBd.out i l hl)
      obtain ⟨v, hv⟩ : ∃ v, vs[i]? = some v := ⟨_, List.getElem?_eq_getElem (by rw [hvl.out]; exact hlt)⟩
      have hr0 := HG.out.rest i v l (Nat.le_refl _) hv hl
      obtain ⟨gv, cV, hVe, _, _, _, hcells⟩ := row_cells (own_move HV.out (w1 := wr) (fun q hq => HG.out.fx.2 q (own_lt HV.out q hq) (fun cs hc => by
        obtain ⟨cs', hc'⟩ := own_typed HV.out q hq
        rw [hc'] at hc; injection hc with hc; injection hc with _ hc; exact absurd hc (by decide)))) (by omega)
      have hcell := hcells i v hv
      injection hVe with q1 q2 q3
      subst q1; subst q3
      have HC := Aside0.mk (Cur.start hr0)
      have Hbq : Aside0 (base ≤ wr.heap.size) := ⟨HG.out.fx.base_le Hbase.out⟩
      obtain ⟨Av, cv, hve, _, _⟩ := Kd.R_reads hr0
      rw [marks_length] at hve
      subst hve
      have HVi := Aside0.mk hv
      clear hr0 hcells hv
      go_wp2_with fail
      go_loopg [5, 6] 12 (fun kq c v wq => ∃ k N : Nat, k + kq = 12 ∧ Aside0 (N = l.length + k) ∧ v = .int .i64 (k : Int) ∧ Aside0 (Cur k119 119 wr wq base (.slice Av l.length cv) c (marks mkSpans i 0 l.length) (marks mkSpans i 0 N)) ∧ Aside0 (base ≤ wq.heap.size))
      case atStart => exact ⟨0, l.length, by omega, ⟨rfl⟩, rfl, HC, Hbq⟩
      case round =>
        clear HC Hbq
        obtain ⟨k, N, hk, hN, rfl, HC, Hbq⟩ := hrel
        obtain ⟨A5, c5, h5, _, _⟩ := Kd.R_reads HC.out.r
        rw [marks_length] at h5
        subst h5
        by_cases hk1 : k < 12
        · have hk2 : (k : Int) < 12 := by omega
          obtain ⟨kz, rfl⟩ : ∃ z, gk = z + 1 := ⟨gk - 1, by omega⟩
          go_wp2_with fail
          refine (emulsionbook_markSpans.calls 2 (i : Int) (N : Int) 1 _ _ (markSpans_f i N 1 2 (by omega) (by omega) (by have := hN.out; have := hbd.out; omega))).mono ?_
          rintro e w6 ⟨vm, rfl, hrm, hbm⟩
          obtain ⟨Am, cm, hvm, hcm, _⟩ := Kd.R_reads hrm
          rw [marks_length] at hvm hcm
          subst hvm
          obtain ⟨gm, hAm, _, _, hCm⟩ := row_at0 hrm (by rw [marks_length]; omega)
          subst hAm
          rw [marks_length] at hCm
          have HMc := Aside0.mk hCm
          replace HC := Aside0.mk (HC.out.below flatSpans hbm)
          replace Hbq := Aside0.mk (Nat.le_trans Hbq.out hbm.size)
          clear hrm hbm hcm hCm
          go_wp2_with (first | ((with_reducible refine gate_builtin (b := .append) (xs := #[.tmp 27, .tmp 31]) rfl ?_); at_builtin; refine Kd.R_append_kept k119 base rfl (.tmp 27) (.tmp 31) 128 119 (.agg #[.int .i64 0, .int .i64 0]) 16 rfl Try.underlying128 ginfoSpans rfl (by decide) (by decide) (.slice A5 N c5) (marks mkSpans i 0 N) (marks mkSpans i N 1) ⟨gm, 0, none⟩ 1 cm (fun _ => True) (fun _ => False) rfl rfl HC.out.r HMc.out (fun x cs h => by obtain rfl := k119_open h; exact k119_mkM _ _ _ _) (fun _ h => h.elim) (fun _ _ => trivial) (Below.refl _ _) Hbq.out (by rw [marks_length]; have := hN.out; have := hbd.out; omega) ?_; intro v7 w7 hr7 hb7 hg7 hat7 hk7; have HC7 := Aside0.mk (HC.out.more flatSpans hr7 hg7 hat7 hk7); have Hbq7 := Aside0.mk (Nat.le_trans Hbq.out hg7.size); clear hr7 hb7 hg7 hat7 hk7; rw [marks_app0] at HC7))
          go_roundg kz
          case measure => omega
          case rel => exact ⟨k + 1, N + 1, by omega, ⟨by have := hN.out; omega⟩, by go_num, HC7, Hbq7⟩
        · obtain rfl : k = 12 := by omega
          go_wp2_with fail
          refine (emulsionbook_markSpans.calls 61 (i : Int) (N : Int) 60 _ _ (markSpans_f i N 60 61 (by omega) (by omega) (by have := hN.out; have := hbd.out; omega))).mono ?_
          rintro e w6 ⟨vm, rfl, hrm, hbm⟩
          obtain ⟨Am, cm, hvm, hcm, _⟩ := Kd.R_reads hrm
          rw [marks_length] at hvm hcm
          subst hvm
          obtain ⟨gm, hAm, _, _, hCm⟩ := row_at0 hrm (by rw [marks_length]; omega)
          subst hAm
          rw [marks_length] at hCm
          have HMc := Aside0.mk hCm
          replace HC := Aside0.mk (HC.out.below flatSpans hbm)
          replace Hbq := Aside0.mk (Nat.le_trans Hbq.out hbm.size)
          clear hrm hbm hcm hCm
          go_wp2_with (first | ((with_reducible refine gate_builtin (b := .append) (xs := #[.tmp 34, .tmp 38]) rfl ?_); at_builtin; refine Kd.R_append_kept k119 base rfl (.tmp 34) (.tmp 38) 128 119 (.agg #[.int .i64 0, .int .i64 0]) 16 rfl Try.underlying128 ginfoSpans rfl (by decide) (by decide) (.slice A5 N c5) (marks mkSpans i 0 N) (marks mkSpans i N 60) ⟨gm, 0, none⟩ 60 cm (fun _ => True) (fun _ => False) rfl rfl HC.out.r HMc.out (fun x cs h => by obtain rfl := k119_open h; exact k119_mkM _ _ _ _) (fun _ h => h.elim) (fun _ _ => trivial) (Below.refl _ _) Hbq.out (by rw [marks_length]; have := hN.out; have := hbd.out; omega) ?_; intro v7 w7 hr7 hb7 hg7 hat7 hk7; have HC7 := Aside0.mk (HC.out.more flatSpans hr7 hg7 hat7 hk7); have Hbq7 := Aside0.mk (Nat.le_trans Hbq.out hg7.size); clear hr7 hb7 hg7 hat7 hk7; rw [marks_app0] at HC7; obtain ⟨A8, c8, h8, _, _⟩ := Kd.R_reads HC7.out.r; rw [marks_length] at h8; subst h8; have HO7 := Aside0.mk (HG.out.O_at HVi.out HC7.out)) | ((with_reducible refine gate_builtin (b := .append) (xs := #[.tmp 33, .tmp 40]) rfl ?_); at_builtin; refine print_append_cells (w0 := w7) w.heap.size rfl (.tmp 33) (.tmp 40) 54 128 (.slice none 0 0) 1 24 rfl Try.underlying54 ginfoLSpans rfl (by decide) (by decide) (.slice Ao i co) i os [.slice A8 (N + 60) c8] rfl rfl rfl (by intro u hu; rw [List.mem_singleton.1 hu]; rfl) HO7.out.1 (Below.refl _ _) HO7.out.2 (by omega) ?_; intro O9 w9 hO9 hb9 hg9 hat9; have hNe : N + 60 = l.length + 72 := (by have := hN.out; omega); rw [hNe] at HC7 hO9; have HG9 := Aside0.mk (HG.out.next rfl flatSpans (by decide) HP.out Hbase.out HVi.out hl HC7.out hO9 hg9); clear hNe hO9 hb9 hg9 hat9))
          go_roundg kk
          case measure => omega
          case rel => exact ⟨i + 1, _, by omega, by go_num, HG9⟩
    · obtain rfl : i = L.length := by omega
      have hlt' : ¬ (L.length : Int) < (L.length : Int) := by omega
      go_wp2_with fail
      go_ret
      have h := HG.out.shows HV.out (by decide)
      exact ⟨_, rfl, ⟨_, h.1⟩, h.2⟩
theorem ginfoInts : (Try.prog.info? 3).map (fun i => (i.zero, i.size, i.bytes)) = some (some (.int .i64 0), (Kd.int .i64).sz, 8) := by kernel_rfl
theorem ginfoLInts : (Try.prog.info? 75).map (fun i => (i.zero, i.size, i.bytes)) = some (some (.slice none 0 0), 1, 24) := by kernel_rfl
theorem flatInts : Flat (Kd.int .i64) := fun w w1 x cs h => h
set_option maxRecDepth 100000 in
set_option maxHeartbeats 3200000 in
theorem grow_Ints (g base : Nat) (VS US VE UE : Value) (V U : Value) (vs : List Value) (L : List (List Int)) (w : World) (hb : Blk w g 60 (bookC V U VS US VE UE)) (hS : Shelf (Kd.int .i64) 3 75 w base V vs L (fun i l => marks mkInts i 0 l.length))
    (hL : L.length ≤ 250) (hB : ∀ (i : Nat) l, L[i]? = some l → l.length ≤ 1000000) (hbase : base ≤ w.heap.size) :
    Calls Try.prog 80 #[.pointer (some ⟨g, 0, none⟩)] w fun e w' => ∃ O, e = .returned O ∧ ∃ os, Shows (Kd.int .i64) 3 75 w' w.heap.size O os L (fun i l => marks mkInts i 0 (l.length + 72)) ∧ Shows (Kd.int .i64) 3 75 w' base V vs L (fun i l => marks mkInts i 0 l.length) ∧ FxT 3 base w w' := by
  obtain ⟨A, n, rfl⟩ := row_slice hS.hV
  have HB := Aside0.mk hb
  have HG := Aside0.mk (hS.grown (G := fun i l => marks mkInts i 0 (l.length + 72)))
  have HV := Aside0.mk hS.hV
  have HP := Aside0.mk hS.ne
  have HBd := Aside0.mk hB
  have HL := Aside0.mk hL
  have Hbase := Aside0.mk hbase
  have hvl := Aside0.mk hS.rv.1
  clear hb hS hB hL hbase
  go_enter Try.func80, Try.ntmps80
  go_wp2_with fail
  go_loopg [3, 4] L.length (fun kq o v wq => ∃ (i : Nat) (os : List Value), i + kq = L.length ∧ v = .int .i64 (i : Int) ∧ Aside0 (Grown (Kd.int .i64) 3 75 w wq base o vs os L (fun i l => marks mkInts i 0 l.length) (fun i l => marks mkInts i 0 (l.length + 72)) i))
  case atStart => exact ⟨0, [], by omega, rfl, HG⟩
  case round =>
    clear HG
    obtain ⟨i, os, hi, rfl, HG⟩ := hrel
    obtain ⟨Ao, co, rfl⟩ := row_slice HG.out.hO
    have hb1 := HG.out.fx.blk HB.out (by decide)
    have c4 := hb1.cell (i := 2) (v := .slice A L.length n) rfl
    clear hb1
    by_cases hlt : i < L.length
    · have hlt' : (i : Int) < (L.length : Int) := by omega
      have hi' : (i : Int) ≤ 250 := by have := HL.out; omega
      have hi2 : i ≤ 250 := by omega
      obtain ⟨kk, rfl⟩ : ∃ z, gk = z + 1 := ⟨gk - 1, by omega⟩
      obtain ⟨l, hl⟩ : ∃ l, L[i]? = some l := ⟨_, List.getElem?_eq_getElem hlt⟩
      have hbd := Aside0.mk (HBd.out i l hl)
      obtain ⟨v, hv⟩ : ∃ v, vs[i]? = some v := ⟨_, List.getElem?_eq_getElem (by rw [hvl.out]; exact hlt)⟩
      have hr0 := HG.out.rest i v l (Nat.le_refl _) hv hl
      obtain ⟨gv, cV, hVe, _, _, _, hcells⟩ := row_cells (own_move HV.out (w1 := wr) (fun q hq => HG.out.fx.2 q (own_lt HV.out q hq) (fun cs hc => by
        obtain ⟨cs', hc'⟩ := own_typed HV.out q hq
        rw [hc'] at hc; injection hc with hc; injection hc with _ hc; exact absurd hc (by decide)))) (by omega)
      have hcell := hcells i v hv
      injection hVe with q1 q2 q3
      subst q1; subst q3
      have HC := Aside0.mk (Cur.start hr0)
      have Hbq : Aside0 (base ≤ wr.heap.size) := ⟨HG.out.fx.base_le Hbase.out⟩
      obtain ⟨Av, cv, hve, _, _⟩ := Kd.R_reads hr0
      rw [marks_length] at hve
      subst hve
      have HVi := Aside0.mk hv
      clear hr0 hcells hv
      go_wp2_with fail
      go_loopg [5, 6] 12 (fun kq c v wq => ∃ k N : Nat, k + kq = 12 ∧ Aside0 (N = l.length + k) ∧ v = .int .i64 (k : Int) ∧ Aside0 (Cur (Kd.int .i64) 3 wr wq base (.slice Av l.length cv) c (marks mkInts i 0 l.length) (marks mkInts i 0 N)) ∧ Aside0 (base ≤ wq.heap.size))
      case atStart => exact ⟨0, l.length, by omega, ⟨rfl⟩, rfl, HC, Hbq⟩
      case round =>
        clear HC Hbq
        obtain ⟨k, N, hk, hN, rfl, HC, Hbq⟩ := hrel
        obtain ⟨A5, c5, h5, _, _⟩ := Kd.R_reads HC.out.r
        rw [marks_length] at h5
        subst h5
        by_cases hk1 : k < 12
        · have hk2 : (k : Int) < 12 := by omega
          obtain ⟨kz, rfl⟩ : ∃ z, gk = z + 1 := ⟨gk - 1, by omega⟩
          go_wp2_with fail
          refine (emulsionbook_markInts.calls 2 (i : Int) (N : Int) 1 _ _ (markInts_f i N 1 2 (by omega) (by omega) (by have := hN.out; have := hbd.out; omega))).mono ?_
          rintro e w6 ⟨vm, rfl, hrm, hbm⟩
          obtain ⟨Am, cm, hvm, hcm, _⟩ := Kd.R_reads hrm
          rw [marks_length] at hvm hcm
          subst hvm
          obtain ⟨gm, hAm, _, _, hCm⟩ := row_at0 hrm (by rw [marks_length]; omega)
          subst hAm
          rw [marks_length] at hCm
          have HMc := Aside0.mk hCm
          replace HC := Aside0.mk (HC.out.below flatInts hbm)
          replace Hbq := Aside0.mk (Nat.le_trans Hbq.out hbm.size)
          clear hrm hbm hcm hCm
          go_wp2_with (first | ((with_reducible refine gate_builtin (b := .append) (xs := #[.tmp 27, .tmp 31]) rfl ?_); at_builtin; refine Kd.R_append_kept (Kd.int .i64) base rfl (.tmp 27) (.tmp 31) 75 3 (.int .i64 0) 8 rfl Try.underlying75 ginfoInts rfl (by decide) (by decide) (.slice A5 N c5) (marks mkInts i 0 N) (marks mkInts i N 1) ⟨gm, 0, none⟩ 1 cm (fun _ => True) (fun _ => False) rfl rfl HC.out.r HMc.out (fun x cs h => h) (fun _ h => h.elim) (fun _ _ => trivial) (Below.refl _ _) Hbq.out (by rw [marks_length]; have := hN.out; have := hbd.out; omega) ?_; intro v7 w7 hr7 hb7 hg7 hat7 hk7; have HC7 := Aside0.mk (HC.out.more flatInts hr7 hg7 hat7 hk7); have Hbq7 := Aside0.mk (Nat.le_trans Hbq.out hg7.size); clear hr7 hb7 hg7 hat7 hk7; rw [marks_app0] at HC7))
          go_roundg kz
          case measure => omega
          case rel => exact ⟨k + 1, N + 1, by omega, ⟨by have := hN.out; omega⟩, by go_num, HC7, Hbq7⟩
        · obtain rfl : k = 12 := by omega
          go_wp2_with fail
          refine (emulsionbook_markInts.calls 61 (i : Int) (N : Int) 60 _ _ (markInts_f i N 60 61 (by omega) (by omega) (by have := hN.out; have := hbd.out; omega))).mono ?_
          rintro e w6 ⟨vm, rfl, hrm, hbm⟩
          obtain ⟨Am, cm, hvm, hcm, _⟩ := Kd.R_reads hrm
          rw [marks_length] at hvm hcm
          subst hvm
          obtain ⟨gm, hAm, _, _, hCm⟩ := row_at0 hrm (by rw [marks_length]; omega)
          subst hAm
          rw [marks_length] at hCm
          have HMc := Aside0.mk hCm
          replace HC := Aside0.mk (HC.out.below flatInts hbm)
          replace Hbq := Aside0.mk (Nat.le_trans Hbq.out hbm.size)
          clear hrm hbm hcm hCm
          go_wp2_with (first | ((with_reducible refine gate_builtin (b := .append) (xs := #[.tmp 34, .tmp 38]) rfl ?_); at_builtin; refine Kd.R_append_kept (Kd.int .i64) base rfl (.tmp 34) (.tmp 38) 75 3 (.int .i64 0) 8 rfl Try.underlying75 ginfoInts rfl (by decide) (by decide) (.slice A5 N c5) (marks mkInts i 0 N) (marks mkInts i N 60) ⟨gm, 0, none⟩ 60 cm (fun _ => True) (fun _ => False) rfl rfl HC.out.r HMc.out (fun x cs h => h) (fun _ h => h.elim) (fun _ _ => trivial) (Below.refl _ _) Hbq.out (by rw [marks_length]; have := hN.out; have := hbd.out; omega) ?_; intro v7 w7 hr7 hb7 hg7 hat7 hk7; have HC7 := Aside0.mk (HC.out.more flatInts hr7 hg7 hat7 hk7); have Hbq7 := Aside0.mk (Nat.le_trans Hbq.out hg7.size); clear hr7 hb7 hg7 hat7 hk7; rw [marks_app0] at HC7; obtain ⟨A8, c8, h8, _, _⟩ := Kd.R_reads HC7.out.r; rw [marks_length] at h8; subst h8; have HO7 := Aside0.mk (HG.out.O_at HVi.out HC7.out)) | ((with_reducible refine gate_builtin (b := .append) (xs := #[.tmp 33, .tmp 40]) rfl ?_); at_builtin; refine print_append_cells (w0 := w7) w.heap.size rfl (.tmp 33) (.tmp 40) 53 75 (.slice none 0 0) 1 24 rfl Try.underlying53 ginfoLInts rfl (by decide) (by decide) (.slice Ao i co) i os [.slice A8 (N + 60) c8] rfl rfl rfl (by intro u hu; rw [List.mem_singleton.1 hu]; rfl) HO7.out.1 (Below.refl _ _) HO7.out.2 (by omega) ?_; intro O9 w9 hO9 hb9 hg9 hat9; have hNe : N + 60 = l.length + 72 := (by have := hN.out; omega); rw [hNe] at HC7 hO9; have HG9 := Aside0.mk (HG.out.next rfl flatInts (by decide) HP.out Hbase.out HVi.out hl HC7.out hO9 hg9); clear hNe hO9 hb9 hg9 hat9))
          go_roundg kk
          case measure => omega
          case rel => exact ⟨i + 1, _, by omega, by go_num, HG9⟩
    · obtain rfl : i = L.length := by omega
      have hlt' : ¬ (L.length : Int) < (L.length : Int) := by omega
      go_wp2_with fail
      go_ret
      have h := HG.out.shows HV.out (by decide)
      exact ⟨_, rfl, ⟨_, h.1⟩, h.2⟩
theorem ginfoExtents : (Try.prog.info? 96).map (fun i => (i.zero, i.size, i.bytes)) = some (some (.agg #[.int .i64 0, .int .i64 0, .int .i64 0]), k96.sz, 24) := by kernel_rfl
theorem ginfoLExtents : (Try.prog.info? 38).map (fun i => (i.zero, i.size, i.bytes)) = some (some (.slice none 0 0), 1, 24) := by kernel_rfl
theorem flatExtents : Flat k96 := fun w w1 x cs h => by obtain rfl := k96_open h; exact k96_mk _ _
set_option maxRecDepth 100000 in
set_option maxHeartbeats 3200000 in
theorem grow_Extents (g base : Nat) (VI UI VS US : Value) (V U : Value) (vs : List Value) (L : List (List S96)) (w : World) (hb : Blk w g 60 (bookC VI UI VS US V U)) (hS : Shelf k96 96 38 w base V vs L (fun i l => marks mkExtents i 0 l.length))
    (hL : L.length ≤ 250) (hB : ∀ (i : Nat) l, L[i]? = some l → l.length ≤ 1000000) (hbase : base ≤ w.heap.size) :
    Calls Try.prog 82 #[.pointer (some ⟨g, 0, none⟩)] w fun e w' => ∃ O, e = .returned O ∧ ∃ os, Shows k96 96 38 w' w.heap.size O os L (fun i l => marks mkExtents i 0 (l.length + 72)) ∧ Shows k96 96 38 w' base V vs L (fun i l => marks mkExtents i 0 l.length) ∧ FxT 96 base w w' := by
  obtain ⟨A, n, rfl⟩ := row_slice hS.hV
  have HB := Aside0.mk hb
  have HG := Aside0.mk (hS.grown (G := fun i l => marks mkExtents i 0 (l.length + 72)))
  have HV := Aside0.mk hS.hV
  have HP := Aside0.mk hS.ne
  have HBd := Aside0.mk hB
  have HL := Aside0.mk hL
  have Hbase := Aside0.mk hbase
  have hvl := Aside0.mk hS.rv.1
  clear hb hS hB hL hbase
  go_enter Try.func82, Try.ntmps82
  go_wp2_with fail
  go_loopg [3, 4] L.length (fun kq o v wq => ∃ (i : Nat) (os : List Value), i + kq = L.length ∧ v = .int .i64 (i : Int) ∧ Aside0 (Grown k96 96 38 w wq base o vs os L (fun i l => marks mkExtents i 0 l.length) (fun i l => marks mkExtents i 0 (l.length + 72)) i))
  case atStart => exact ⟨0, [], by omega, rfl, HG⟩
  case round =>
    clear HG
    obtain ⟨i, os, hi, rfl, HG⟩ := hrel
    obtain ⟨Ao, co, rfl⟩ := row_slice HG.out.hO
    have hb1 := HG.out.fx.blk HB.out (by decide)
    have c4 := hb1.cell (i := 6) (v := .slice A L.length n) rfl
    clear hb1
    by_cases hlt : i < L.length
    · have hlt' : (i : Int) < (L.length : Int) := by omega
      have hi' : (i : Int) ≤ 250 := by have := HL.out; omega
      have hi2 : i ≤ 250 := by omega
      obtain ⟨kk, rfl⟩ : ∃ z, gk = z + 1 := ⟨gk - 1, by omega⟩
      obtain ⟨l, hl⟩ : ∃ l, L[i]? = some l := ⟨_, List.getElem?_eq_getElem hlt⟩
      have hbd := Aside0.mk (HBd.out i l hl)
      obtain ⟨v, hv⟩ : ∃ v, vs[i]? = some v := ⟨_, List.getElem?_eq_getElem (by rw [hvl.out]; exact hlt)⟩
      have hr0 := HG.out.rest i v l (Nat.le_refl _) hv hl
      obtain ⟨gv, cV, hVe, _, _, _, hcells⟩ := row_cells (own_move HV.out (w1 := wr) (fun q hq => HG.out.fx.2 q (own_lt HV.out q hq) (fun cs hc => by
        obtain ⟨cs', hc'⟩ := own_typed HV.out q hq
        rw [hc'] at hc; injection hc with hc; injection hc with _ hc; exact absurd hc (by decide)))) (by omega)
      have hcell := hcells i v hv
      injection hVe with q1 q2 q3
      subst q1; subst q3
      have HC := Aside0.mk (Cur.start hr0)
      have Hbq : Aside0 (base ≤ wr.heap.size) := ⟨HG.out.fx.base_le Hbase.out⟩
      obtain ⟨Av, cv, hve, _, _⟩ := Kd.R_reads hr0
      rw [marks_length] at hve
      subst hve
      have HVi := Aside0.mk hv
      clear hr0 hcells hv
      go_wp2_with fail
      go_loopg [5, 6] 12 (fun kq c v wq => ∃ k N : Nat, k + kq = 12 ∧ Aside0 (N = l.length + k) ∧ v = .int .i64 (k : Int) ∧ Aside0 (Cur k96 96 wr wq base (.slice Av l.length cv) c (marks mkExtents i 0 l.length) (marks mkExtents i 0 N)) ∧ Aside0 (base ≤ wq.heap.size))
      case atStart => exact ⟨0, l.length, by omega, ⟨rfl⟩, rfl, HC, Hbq⟩
      case round =>
        clear HC Hbq
        obtain ⟨k, N, hk, hN, rfl, HC, Hbq⟩ := hrel
        obtain ⟨A5, c5, h5, _, _⟩ := Kd.R_reads HC.out.r
        rw [marks_length] at h5
        subst h5
        by_cases hk1 : k < 12
        · have hk2 : (k : Int) < 12 := by omega
          obtain ⟨kz, rfl⟩ : ∃ z, gk = z + 1 := ⟨gk - 1, by omega⟩
          go_wp2_with fail
          refine (emulsionbook_markExtents.calls 2 (i : Int) (N : Int) 1 _ _ (markExtents_f i N 1 2 (by omega) (by omega) (by have := hN.out; have := hbd.out; omega))).mono ?_
          rintro e w6 ⟨vm, rfl, hrm, hbm⟩
          obtain ⟨Am, cm, hvm, hcm, _⟩ := Kd.R_reads hrm
          rw [marks_length] at hvm hcm
          subst hvm
          obtain ⟨gm, hAm, _, _, hCm⟩ := row_at0 hrm (by rw [marks_length]; omega)
          subst hAm
          rw [marks_length] at hCm
          have HMc := Aside0.mk hCm
          replace HC := Aside0.mk (HC.out.below flatExtents hbm)
          replace Hbq := Aside0.mk (Nat.le_trans Hbq.out hbm.size)
          clear hrm hbm hcm hCm
          go_wp2_with (first | ((with_reducible refine gate_builtin (b := .append) (xs := #[.tmp 27, .tmp 31]) rfl ?_); at_builtin; refine Kd.R_append_kept k96 base rfl (.tmp 27) (.tmp 31) 38 96 (.agg #[.int .i64 0, .int .i64 0, .int .i64 0]) 24 rfl Try.underlying38 ginfoExtents rfl (by decide) (by decide) (.slice A5 N c5) (marks mkExtents i 0 N) (marks mkExtents i N 1) ⟨gm, 0, none⟩ 1 cm (fun _ => True) (fun _ => False) rfl rfl HC.out.r HMc.out (fun x cs h => by obtain rfl := k96_open h; exact k96_mkM _ _ _ _) (fun _ h => h.elim) (fun _ _ => trivial) (Below.refl _ _) Hbq.out (by rw [marks_length]; have := hN.out; have := hbd.out; omega) ?_; intro v7 w7 hr7 hb7 hg7 hat7 hk7; have HC7 := Aside0.mk (HC.out.more flatExtents hr7 hg7 hat7 hk7); have Hbq7 := Aside0.mk (Nat.le_trans Hbq.out hg7.size); clear hr7 hb7 hg7 hat7 hk7; rw [marks_app0] at HC7))
          go_roundg kz
          case measure => omega
          case rel => exact ⟨k + 1, N + 1, by omega, ⟨by have := hN.out; omega⟩, by go_num, HC7, Hbq7⟩
        · obtain rfl : k = 12 := by omega
          go_wp2_with fail
          refine (emulsionbook_markExtents.calls 61 (i : Int) (N : Int) 60 _ _ (markExtents_f i N 60 61 (by omega) (by omega) (by have := hN.out; have := hbd.out; omega))).mono ?_
          rintro e w6 ⟨vm, rfl, hrm, hbm⟩
          obtain ⟨Am, cm, hvm, hcm, _⟩ := Kd.R_reads hrm
          rw [marks_length] at hvm hcm
          subst hvm
          obtain ⟨gm, hAm, _, _, hCm⟩ := row_at0 hrm (by rw [marks_length]; omega)
          subst hAm
          rw [marks_length] at hCm
          have HMc := Aside0.mk hCm
          replace HC := Aside0.mk (HC.out.below flatExtents hbm)
          replace Hbq := Aside0.mk (Nat.le_trans Hbq.out hbm.size)
          clear hrm hbm hcm hCm
          go_wp2_with (first | ((with_reducible refine gate_builtin (b := .append) (xs := #[.tmp 34, .tmp 38]) rfl ?_); at_builtin; refine Kd.R_append_kept k96 base rfl (.tmp 34) (.tmp 38) 38 96 (.agg #[.int .i64 0, .int .i64 0, .int .i64 0]) 24 rfl Try.underlying38 ginfoExtents rfl (by decide) (by decide) (.slice A5 N c5) (marks mkExtents i 0 N) (marks mkExtents i N 60) ⟨gm, 0, none⟩ 60 cm (fun _ => True) (fun _ => False) rfl rfl HC.out.r HMc.out (fun x cs h => by obtain rfl := k96_open h; exact k96_mkM _ _ _ _) (fun _ h => h.elim) (fun _ _ => trivial) (Below.refl _ _) Hbq.out (by rw [marks_length]; have := hN.out; have := hbd.out; omega) ?_; intro v7 w7 hr7 hb7 hg7 hat7 hk7; have HC7 := Aside0.mk (HC.out.more flatExtents hr7 hg7 hat7 hk7); have Hbq7 := Aside0.mk (Nat.le_trans Hbq.out hg7.size); clear hr7 hb7 hg7 hat7 hk7; rw [marks_app0] at HC7; obtain ⟨A8, c8, h8, _, _⟩ := Kd.R_reads HC7.out.r; rw [marks_length] at h8; subst h8; have HO7 := Aside0.mk (HG.out.O_at HVi.out HC7.out)) | ((with_reducible refine gate_builtin (b := .append) (xs := #[.tmp 33, .tmp 40]) rfl ?_); at_builtin; refine print_append_cells (w0 := w7) w.heap.size rfl (.tmp 33) (.tmp 40) 55 38 (.slice none 0 0) 1 24 rfl Try.underlying55 ginfoLExtents rfl (by decide) (by decide) (.slice Ao i co) i os [.slice A8 (N + 60) c8] rfl rfl rfl (by intro u hu; rw [List.mem_singleton.1 hu]; rfl) HO7.out.1 (Below.refl _ _) HO7.out.2 (by omega) ?_; intro O9 w9 hO9 hb9 hg9 hat9; have hNe : N + 60 = l.length + 72 := (by have := hN.out; omega); rw [hNe] at HC7 hO9; have HG9 := Aside0.mk (HG.out.next rfl flatExtents (by decide) HP.out Hbase.out HVi.out hl HC7.out hO9 hg9); clear hNe hO9 hb9 hg9 hat9))
          go_roundg kk
          case measure => omega
          case rel => exact ⟨i + 1, _, by omega, by go_num, HG9⟩
    · obtain rfl : i = L.length := by omega
      have hlt' : ¬ (L.length : Int) < (L.length : Int) := by omega
      go_wp2_with fail
      go_ret
      have h := HG.out.shows HV.out (by decide)
      exact ⟨_, rfl, ⟨_, h.1⟩, h.2⟩
end Go.Proofs.Ytacmfpkmcefcfaa.Hand
end
section
namespace Go.Proofs.Ytacmfpkmcefcfaa.Hand
open Go.RowKit Go.Proofs.YtacmfpkmcefcfaaW.PrintWords Go.Proofs.YtacmfpkmcefcfaaW.PrintLast Go.Proofs.YtacmfpkmcefcfaaW.PrintMore Go.Proofs.Ytacmfpkmcefcfaa.A
set_option linter.unusedVariables false
set_option linter.unusedSimpArgs false
attribute [local go_sem] max2_int min2_int max_two min_two max_three min_three max_four min_four
theorem lowB {n base : Nat} {w w1 : World} (hb : Below n w w1) (h : base ≤ n) : Below base w w1 := ⟨hb.os, hb.tape, hb.output, hb.size, fun k hk => hb.block k (by omega)⟩
theorem marked_Spans (t base n c : Nat) (ht : t ≤ 100) (A : Option Addr) (vs : List Value) (L : List (List S119)) (hL : L.length ≤ 250) (hB : ∀ (i : Nat) l, L[i]? = some l → l.length ≤ 1000000) (w : World)
    (h : Shows k119 119 128 w base (.slice A n c) vs L (fun i l => marks mkSpans i 0 (l.length + t))) :
    Calls Try.prog 88 #[.slice A n c] w fun e w' => e = .returned (.bool true) ∧ Below w.heap.size w w' := by
  obtain ⟨hn, hc, hC⟩ := h.calls
  subst hn
  have hlen : (L.mapIdx (fun i l => marks mkSpans i 0 (l.length + t))).length = L.length := List.length_mapIdx
  refine emulsionbook_markedSpans.calls 2000000 A c _ true w hC hc (markedSpans_f _ (by rw [hlen]; omega) 1000100 (by omega) (fun i l hl => ?_) _ (by rw [hlen]; omega))
  rw [List.getElem?_mapIdx] at hl
  obtain ⟨l0, hl0, rfl⟩ := Option.map_eq_some_iff.1 hl
  have := hB i l0 hl0
  rw [marks_length]
  exact ⟨by omega, rfl⟩
theorem marked_Ints (t base n c : Nat) (ht : t ≤ 100) (A : Option Addr) (vs : List Value) (L : List (List Int)) (hL : L.length ≤ 250) (hB : ∀ (i : Nat) l, L[i]? = some l → l.length ≤ 1000000) (w : World)
    (h : Shows (Kd.int .i64) 3 75 w base (.slice A n c) vs L (fun i l => marks mkInts i 0 (l.length + t))) :
    Calls Try.prog 87 #[.slice A n c] w fun e w' => e = .returned (.bool true) ∧ Below w.heap.size w w' := by
  obtain ⟨hn, hc, hC⟩ := h.calls
  subst hn
  have hlen : (L.mapIdx (fun i l => marks mkInts i 0 (l.length + t))).length = L.length := List.length_mapIdx
  refine emulsionbook_markedInts.calls 2000000 A c _ true w hC hc (markedInts_f _ (by rw [hlen]; omega) 1000100 (by omega) (fun i l hl => ?_) _ (by rw [hlen]; omega))
  rw [List.getElem?_mapIdx] at hl
  obtain ⟨l0, hl0, rfl⟩ := Option.map_eq_some_iff.1 hl
  have := hB i l0 hl0
  rw [marks_length]
  exact ⟨by omega, rfl⟩
theorem marked_Extents (t base n c : Nat) (ht : t ≤ 100) (A : Option Addr) (vs : List Value) (L : List (List S96)) (hL : L.length ≤ 250) (hB : ∀ (i : Nat) l, L[i]? = some l → l.length ≤ 1000000) (w : World)
    (h : Shows k96 96 38 w base (.slice A n c) vs L (fun i l => marks mkExtents i 0 (l.length + t))) :
    Calls Try.prog 89 #[.slice A n c] w fun e w' => e = .returned (.bool true) ∧ Below w.heap.size w w' := by
  obtain ⟨hn, hc, hC⟩ := h.calls
  subst hn
  have hlen : (L.mapIdx (fun i l => marks mkExtents i 0 (l.length + t))).length = L.length := List.length_mapIdx
  refine emulsionbook_markedExtents.calls 2000000 A c _ true w hC hc (markedExtents_f _ (by rw [hlen]; omega) 1000100 (by omega) (fun i l hl => ?_) _ (by rw [hlen]; omega))
  rw [List.getElem?_mapIdx] at hl
  obtain ⟨l0, hl0, rfl⟩ := Option.map_eq_some_iff.1 hl
  have := hB i l0 hl0
  rw [marks_length]
  exact ⟨by omega, rfl⟩
set_option maxRecDepth 100000 in
set_option maxHeartbeats 6400000 in
theorem apart (g base : Nat) (VI UI VS US VE UE : Value) (vi ui vss us ve ue : List Value) (LI : List (List Int)) (LS : List (List S119)) (LE : List (List S96)) (w : World)
    (hb : Blk w g 60 (bookC VI UI VS US VE UE)) (hI : Pile (Kd.int .i64) 3 75 w base VI UI vi ui LI) (hS : Pile k119 119 128 w base VS US vss us LS) (hE : Pile k96 96 38 w base VE UE ve ue LE)
    (bI : LI.length ≤ 250 ∧ ∀ (i : Nat) l, LI[i]? = some l → l.length ≤ 1000000) (bS : LS.length ≤ 250 ∧ ∀ (i : Nat) l, LS[i]? = some l → l.length ≤ 1000000) (bE : LE.length ≤ 250 ∧ ∀ (i : Nat) l, LE[i]? = some l → l.length ≤ 1000000) (hbase : base ≤ w.heap.size) :
    Calls Try.prog 37 #[.pointer (some ⟨g, 0, none⟩)] w fun e w' => e = .returned (.bool true) ∧ Below base w w' := by
  have HF := Aside0.mk (Below.refl base w)
  obtain ⟨AI, nI, rfl⟩ := row_slice hI.hV
  obtain ⟨AS, nS, rfl⟩ := row_slice hS.hV
  obtain ⟨AE, nE, rfl⟩ := row_slice hE.hV
  have HB := Aside0.mk hb
  have HI := Aside0.mk hI
  have HS := Aside0.mk hS
  have HE := Aside0.mk hE
  have BHI := Aside0.mk bI
  have BHS := Aside0.mk bS
  have BHE := Aside0.mk bE
  have Hbase := Aside0.mk hbase
  clear hb hI hS hE bI bS bE hbase
  go_enter Try.func37, Try.ntmps37
  go_wp2_with fail
  refine (still_nil_Texts g _ _ HB.out rfl).mono ?_
  rintro e w1 ⟨rfl, rfl⟩
  go_wp2_with fail
  refine (still_Ints g base _ _ _ _ _ _ _ _ _ _ HB.out HI.out BHI.out.1 BHI.out.2).mono ?_
  rintro e w1 ⟨rfl, hb⟩
  replace HI := Aside0.mk (HI.out.below hb)
  replace HS := Aside0.mk (HS.out.below hb)
  replace HE := Aside0.mk (HE.out.below hb)
  replace HB := Aside0.mk (HB.out.keep hb)
  replace HF := Aside0.mk (HF.out.trans (lowB hb Hbase.out))
  replace Hbase := Aside0.mk (Nat.le_trans Hbase.out hb.size)
  clear hb
  go_wp2_with fail
  refine (still_Spans g base _ _ _ _ _ _ _ _ _ _ HB.out HS.out BHS.out.1 BHS.out.2).mono ?_
  rintro e w1 ⟨rfl, hb⟩
  replace HI := Aside0.mk (HI.out.below hb)
  replace HS := Aside0.mk (HS.out.below hb)
  replace HE := Aside0.mk (HE.out.below hb)
  replace HB := Aside0.mk (HB.out.keep hb)
  replace HF := Aside0.mk (HF.out.trans (lowB hb Hbase.out))
  replace Hbase := Aside0.mk (Nat.le_trans Hbase.out hb.size)
  clear hb
  go_wp2_with fail
  refine (still_Extents g base _ _ _ _ _ _ _ _ _ _ HB.out HE.out BHE.out.1 BHE.out.2).mono ?_
  rintro e w1 ⟨rfl, hb⟩
  replace HI := Aside0.mk (HI.out.below hb)
  replace HS := Aside0.mk (HS.out.below hb)
  replace HE := Aside0.mk (HE.out.below hb)
  replace HB := Aside0.mk (HB.out.keep hb)
  replace HF := Aside0.mk (HF.out.trans (lowB hb Hbase.out))
  replace Hbase := Aside0.mk (Nat.le_trans Hbase.out hb.size)
  clear hb
  go_wp2_with fail
  refine (still_nil_Shelves g _ _ HB.out rfl).mono ?_
  rintro e w1 ⟨rfl, rfl⟩
  go_wp2_with fail
  refine (still_nil_Pairs g _ _ HB.out rfl).mono ?_
  rintro e w1 ⟨rfl, rfl⟩
  go_wp2_with fail
  refine (still_nil_Points g _ _ HB.out rfl).mono ?_
  rintro e w1 ⟨rfl, rfl⟩
  go_wp2_with fail
  replace HI := Aside0.mk HI.out.shelf
  replace HS := Aside0.mk HS.out.shelf
  replace HE := Aside0.mk HE.out.shelf
  refine (put_nil_Points g _ _ HB.out rfl).mono ?_
  rintro e w1 ⟨rfl, rfl⟩
  go_wp2_with fail
  refine (put_nil_Texts g _ _ HB.out rfl).mono ?_
  rintro e w1 ⟨rfl, rfl⟩
  go_wp2_with fail
  refine (put_Ints g base _ _ _ _ _ _ _ _ _ HB.out HI.out BHI.out.1 BHI.out.2 Hbase.out).mono ?_
  rintro e w1 ⟨rfl, hs, hx⟩
  replace HI := Aside0.mk hs
  replace HS := Aside0.mk (HS.out.fx rfl hx (by decide) (by decide))
  replace HE := Aside0.mk (HE.out.fx rfl hx (by decide) (by decide))
  replace HB := Aside0.mk (hx.blk HB.out (by decide))
  replace HF := Aside0.mk (HF.out.trans hx.1)
  replace Hbase := Aside0.mk (hx.base_le Hbase.out)
  clear hs hx
  go_wp2_with fail
  refine (put_Spans g base _ _ _ _ _ _ _ _ _ HB.out HS.out BHS.out.1 BHS.out.2 Hbase.out).mono ?_
  rintro e w1 ⟨rfl, hs, hx⟩
  replace HS := Aside0.mk hs
  replace HI := Aside0.mk (HI.out.fx rfl hx (by decide) (by decide))
  replace HE := Aside0.mk (HE.out.fx rfl hx (by decide) (by decide))
  replace HB := Aside0.mk (hx.blk HB.out (by decide))
  replace HF := Aside0.mk (HF.out.trans hx.1)
  replace Hbase := Aside0.mk (hx.base_le Hbase.out)
  clear hs hx
  go_wp2_with fail
  refine (put_Extents g base _ _ _ _ _ _ _ _ _ HB.out HE.out BHE.out.1 BHE.out.2 Hbase.out).mono ?_
  rintro e w1 ⟨rfl, hs, hx⟩
  replace HE := Aside0.mk hs
  replace HI := Aside0.mk (HI.out.fx rfl hx (by decide) (by decide))
  replace HS := Aside0.mk (HS.out.fx rfl hx (by decide) (by decide))
  replace HB := Aside0.mk (hx.blk HB.out (by decide))
  replace HF := Aside0.mk (HF.out.trans hx.1)
  replace Hbase := Aside0.mk (hx.base_le Hbase.out)
  clear hs hx
  go_wp2_with fail
  refine (put_nil_Shelves g _ _ HB.out rfl).mono ?_
  rintro e w1 ⟨rfl, rfl⟩
  go_wp2_with fail
  refine (put_nil_Pairs g _ _ HB.out rfl).mono ?_
  rintro e w1 ⟨rfl, rfl⟩
  go_wp2_with fail
  refine (grow_nil_Texts g _ _ HB.out rfl).mono ?_
  rintro e w1 ⟨rfl, rfl⟩
  go_wp2_with fail
  refine (grow_Ints g base _ _ _ _ _ _ _ _ _ HB.out HI.out BHI.out.1 BHI.out.2 Hbase.out).mono ?_
  rintro e w1 ⟨OHI, rfl, osHI, hs1, hs2, hx⟩
  obtain ⟨AHI, cHI, hO⟩ := row_slice hs1.1
  subst hO
  have GHI := Aside0.mk hs1
  have KHI := Aside0.mk hs2
  replace HS := Aside0.mk (HS.out.fx rfl hx (by decide) (by decide))
  replace HE := Aside0.mk (HE.out.fx rfl hx (by decide) (by decide))
  replace HB := Aside0.mk (hx.blk HB.out (by decide))
  replace HF := Aside0.mk (HF.out.trans hx.1)
  replace Hbase := Aside0.mk (hx.base_le Hbase.out)
  clear hs1 hs2 hx HI
  go_wp2_with fail
  refine (grow_Spans g base _ _ _ _ _ _ _ _ _ HB.out HS.out BHS.out.1 BHS.out.2 Hbase.out).mono ?_
  rintro e w1 ⟨OHS, rfl, osHS, hs1, hs2, hx⟩
  obtain ⟨AHS, cHS, hO⟩ := row_slice hs1.1
  subst hO
  have GHS := Aside0.mk hs1
  have KHS := Aside0.mk hs2
  replace HE := Aside0.mk (HE.out.fx rfl hx (by decide) (by decide))
  replace GHI := Aside0.mk (GHI.out.fx flatInts hx (by decide) (by decide))
  replace KHI := Aside0.mk (KHI.out.fx flatInts hx (by decide) (by decide))
  replace HB := Aside0.mk (hx.blk HB.out (by decide))
  replace HF := Aside0.mk (HF.out.trans hx.1)
  replace Hbase := Aside0.mk (hx.base_le Hbase.out)
  clear hs1 hs2 hx HS
  go_wp2_with fail
  refine (grow_Extents g base _ _ _ _ _ _ _ _ _ HB.out HE.out BHE.out.1 BHE.out.2 Hbase.out).mono ?_
  rintro e w1 ⟨OHE, rfl, osHE, hs1, hs2, hx⟩
  obtain ⟨AHE, cHE, hO⟩ := row_slice hs1.1
  subst hO
  have GHE := Aside0.mk hs1
  have KHE := Aside0.mk hs2
  replace GHI := Aside0.mk (GHI.out.fx flatInts hx (by decide) (by decide))
  replace KHI := Aside0.mk (KHI.out.fx flatInts hx (by decide) (by decide))
  replace GHS := Aside0.mk (GHS.out.fx flatSpans hx (by decide) (by decide))
  replace KHS := Aside0.mk (KHS.out.fx flatSpans hx (by decide) (by decide))
  replace HB := Aside0.mk (hx.blk HB.out (by decide))
  replace HF := Aside0.mk (HF.out.trans hx.1)
  replace Hbase := Aside0.mk (hx.base_le Hbase.out)
  clear hs1 hs2 hx HE
  go_wp2_with fail
  refine (grow_nil_Shelves g _ _ HB.out rfl).mono ?_
  rintro e w1 ⟨rfl, rfl⟩
  go_wp2_with fail
  refine (grow_nil_Pairs g _ _ HB.out rfl).mono ?_
  rintro e w1 ⟨rfl, rfl⟩
  go_wp2_with fail
  refine (grow_nil_Points g _ _ HB.out rfl).mono ?_
  rintro e w1 ⟨rfl, rfl⟩
  have c0 := HB.out.cell (i := 0) (v := .slice none 0 0) rfl
  have c2 := HB.out.cell (i := 2) (v := .slice AI LI.length nI) rfl
  have c4 := HB.out.cell (i := 4) (v := .slice AS LS.length nS) rfl
  have c6 := HB.out.cell (i := 6) (v := .slice AE LE.length nE) rfl
  have c8 := HB.out.cell (i := 8) (v := .slice none 0 0) rfl
  have c10 := HB.out.cell (i := 10) (v := .slice none 0 0) rfl
  have c12 := HB.out.cell (i := 12) (v := .slice none 0 0) rfl
  go_wp2_with fail
  refine (marked_nil_Texts _).mono ?_
  rintro e w1 ⟨rfl, rfl⟩
  go_wp2_with fail
  refine (marked_nil_Texts _).mono ?_
  rintro e w1 ⟨rfl, rfl⟩
  go_wp2_with fail
  refine (marked_Ints 72 _ _ _ (by decide) _ _ _ BHI.out.1 BHI.out.2 _ GHI.out).mono ?_
  rintro e w1 ⟨rfl, hb⟩
  clear c0 c2 c4 c6 c8 c10 c12
  replace GHI := Aside0.mk (GHI.out.below flatInts hb)
  replace KHI := Aside0.mk (KHI.out.below flatInts hb)
  replace GHS := Aside0.mk (GHS.out.below flatSpans hb)
  replace KHS := Aside0.mk (KHS.out.below flatSpans hb)
  replace GHE := Aside0.mk (GHE.out.below flatExtents hb)
  replace KHE := Aside0.mk (KHE.out.below flatExtents hb)
  replace HB := Aside0.mk (HB.out.keep hb)
  replace HF := Aside0.mk (HF.out.trans (lowB hb Hbase.out))
  replace Hbase := Aside0.mk (Nat.le_trans Hbase.out hb.size)
  clear hb
  have c0 := HB.out.cell (i := 0) (v := .slice none 0 0) rfl
  have c2 := HB.out.cell (i := 2) (v := .slice AI LI.length nI) rfl
  have c4 := HB.out.cell (i := 4) (v := .slice AS LS.length nS) rfl
  have c6 := HB.out.cell (i := 6) (v := .slice AE LE.length nE) rfl
  have c8 := HB.out.cell (i := 8) (v := .slice none 0 0) rfl
  have c10 := HB.out.cell (i := 10) (v := .slice none 0 0) rfl
  have c12 := HB.out.cell (i := 12) (v := .slice none 0 0) rfl
  go_wp2_with fail
  refine (marked_Ints 0 _ _ _ (by decide) _ _ _ BHI.out.1 BHI.out.2 _ KHI.out).mono ?_
  rintro e w1 ⟨rfl, hb⟩
  clear c0 c2 c4 c6 c8 c10 c12
  replace GHI := Aside0.mk (GHI.out.below flatInts hb)
  replace KHI := Aside0.mk (KHI.out.below flatInts hb)
  replace GHS := Aside0.mk (GHS.out.below flatSpans hb)
  replace KHS := Aside0.mk (KHS.out.below flatSpans hb)
  replace GHE := Aside0.mk (GHE.out.below flatExtents hb)
  replace KHE := Aside0.mk (KHE.out.below flatExtents hb)
  replace HB := Aside0.mk (HB.out.keep hb)
  replace HF := Aside0.mk (HF.out.trans (lowB hb Hbase.out))
  replace Hbase := Aside0.mk (Nat.le_trans Hbase.out hb.size)
  clear hb
  have c0 := HB.out.cell (i := 0) (v := .slice none 0 0) rfl
  have c2 := HB.out.cell (i := 2) (v := .slice AI LI.length nI) rfl
  have c4 := HB.out.cell (i := 4) (v := .slice AS LS.length nS) rfl
  have c6 := HB.out.cell (i := 6) (v := .slice AE LE.length nE) rfl
  have c8 := HB.out.cell (i := 8) (v := .slice none 0 0) rfl
  have c10 := HB.out.cell (i := 10) (v := .slice none 0 0) rfl
  have c12 := HB.out.cell (i := 12) (v := .slice none 0 0) rfl
  go_wp2_with fail
  refine (marked_Spans 72 _ _ _ (by decide) _ _ _ BHS.out.1 BHS.out.2 _ GHS.out).mono ?_
  rintro e w1 ⟨rfl, hb⟩
  clear c0 c2 c4 c6 c8 c10 c12
  replace GHI := Aside0.mk (GHI.out.below flatInts hb)
  replace KHI := Aside0.mk (KHI.out.below flatInts hb)
  replace GHS := Aside0.mk (GHS.out.below flatSpans hb)
  replace KHS := Aside0.mk (KHS.out.below flatSpans hb)
  replace GHE := Aside0.mk (GHE.out.below flatExtents hb)
  replace KHE := Aside0.mk (KHE.out.below flatExtents hb)
  replace HB := Aside0.mk (HB.out.keep hb)
  replace HF := Aside0.mk (HF.out.trans (lowB hb Hbase.out))
  replace Hbase := Aside0.mk (Nat.le_trans Hbase.out hb.size)
  clear hb
  have c0 := HB.out.cell (i := 0) (v := .slice none 0 0) rfl
  have c2 := HB.out.cell (i := 2) (v := .slice AI LI.length nI) rfl
  have c4 := HB.out.cell (i := 4) (v := .slice AS LS.length nS) rfl
  have c6 := HB.out.cell (i := 6) (v := .slice AE LE.length nE) rfl
  have c8 := HB.out.cell (i := 8) (v := .slice none 0 0) rfl
  have c10 := HB.out.cell (i := 10) (v := .slice none 0 0) rfl
  have c12 := HB.out.cell (i := 12) (v := .slice none 0 0) rfl
  go_wp2_with fail
  refine (marked_Spans 0 _ _ _ (by decide) _ _ _ BHS.out.1 BHS.out.2 _ KHS.out).mono ?_
  rintro e w1 ⟨rfl, hb⟩
  clear c0 c2 c4 c6 c8 c10 c12
  replace GHI := Aside0.mk (GHI.out.below flatInts hb)
  replace KHI := Aside0.mk (KHI.out.below flatInts hb)
  replace GHS := Aside0.mk (GHS.out.below flatSpans hb)
  replace KHS := Aside0.mk (KHS.out.below flatSpans hb)
  replace GHE := Aside0.mk (GHE.out.below flatExtents hb)
  replace KHE := Aside0.mk (KHE.out.below flatExtents hb)
  replace HB := Aside0.mk (HB.out.keep hb)
  replace HF := Aside0.mk (HF.out.trans (lowB hb Hbase.out))
  replace Hbase := Aside0.mk (Nat.le_trans Hbase.out hb.size)
  clear hb
  have c0 := HB.out.cell (i := 0) (v := .slice none 0 0) rfl
  have c2 := HB.out.cell (i := 2) (v := .slice AI LI.length nI) rfl
  have c4 := HB.out.cell (i := 4) (v := .slice AS LS.length nS) rfl
  have c6 := HB.out.cell (i := 6) (v := .slice AE LE.length nE) rfl
  have c8 := HB.out.cell (i := 8) (v := .slice none 0 0) rfl
  have c10 := HB.out.cell (i := 10) (v := .slice none 0 0) rfl
  have c12 := HB.out.cell (i := 12) (v := .slice none 0 0) rfl
  go_wp2_with fail
  refine (marked_Extents 72 _ _ _ (by decide) _ _ _ BHE.out.1 BHE.out.2 _ GHE.out).mono ?_
  rintro e w1 ⟨rfl, hb⟩
  clear c0 c2 c4 c6 c8 c10 c12
  replace GHI := Aside0.mk (GHI.out.below flatInts hb)
  replace KHI := Aside0.mk (KHI.out.below flatInts hb)
  replace GHS := Aside0.mk (GHS.out.below flatSpans hb)
  replace KHS := Aside0.mk (KHS.out.below flatSpans hb)
  replace GHE := Aside0.mk (GHE.out.below flatExtents hb)
  replace KHE := Aside0.mk (KHE.out.below flatExtents hb)
  replace HB := Aside0.mk (HB.out.keep hb)
  replace HF := Aside0.mk (HF.out.trans (lowB hb Hbase.out))
  replace Hbase := Aside0.mk (Nat.le_trans Hbase.out hb.size)
  clear hb
  have c0 := HB.out.cell (i := 0) (v := .slice none 0 0) rfl
  have c2 := HB.out.cell (i := 2) (v := .slice AI LI.length nI) rfl
  have c4 := HB.out.cell (i := 4) (v := .slice AS LS.length nS) rfl
  have c6 := HB.out.cell (i := 6) (v := .slice AE LE.length nE) rfl
  have c8 := HB.out.cell (i := 8) (v := .slice none 0 0) rfl
  have c10 := HB.out.cell (i := 10) (v := .slice none 0 0) rfl
  have c12 := HB.out.cell (i := 12) (v := .slice none 0 0) rfl
  go_wp2_with fail
  refine (marked_Extents 0 _ _ _ (by decide) _ _ _ BHE.out.1 BHE.out.2 _ KHE.out).mono ?_
  rintro e w1 ⟨rfl, hb⟩
  clear c0 c2 c4 c6 c8 c10 c12
  replace GHI := Aside0.mk (GHI.out.below flatInts hb)
  replace KHI := Aside0.mk (KHI.out.below flatInts hb)
  replace GHS := Aside0.mk (GHS.out.below flatSpans hb)
  replace KHS := Aside0.mk (KHS.out.below flatSpans hb)
  replace GHE := Aside0.mk (GHE.out.below flatExtents hb)
  replace KHE := Aside0.mk (KHE.out.below flatExtents hb)
  replace HB := Aside0.mk (HB.out.keep hb)
  replace HF := Aside0.mk (HF.out.trans (lowB hb Hbase.out))
  replace Hbase := Aside0.mk (Nat.le_trans Hbase.out hb.size)
  clear hb
  have c0 := HB.out.cell (i := 0) (v := .slice none 0 0) rfl
  have c2 := HB.out.cell (i := 2) (v := .slice AI LI.length nI) rfl
  have c4 := HB.out.cell (i := 4) (v := .slice AS LS.length nS) rfl
  have c6 := HB.out.cell (i := 6) (v := .slice AE LE.length nE) rfl
  have c8 := HB.out.cell (i := 8) (v := .slice none 0 0) rfl
  have c10 := HB.out.cell (i := 10) (v := .slice none 0 0) rfl
  have c12 := HB.out.cell (i := 12) (v := .slice none 0 0) rfl
  go_wp2_with fail
  refine (marked_nil_Shelves _).mono ?_
  rintro e w1 ⟨rfl, rfl⟩
  go_wp2_with fail
  refine (marked_nil_Shelves _).mono ?_
  rintro e w1 ⟨rfl, rfl⟩
  go_wp2_with fail
  refine (marked_nil_Pairs _).mono ?_
  rintro e w1 ⟨rfl, rfl⟩
  go_wp2_with fail
  refine (marked_nil_Pairs _).mono ?_
  rintro e w1 ⟨rfl, rfl⟩
  go_wp2_with fail
  refine (marked_nil_Points _).mono ?_
  rintro e w1 ⟨rfl, rfl⟩
  go_wp2_with fail
  refine (marked_nil_Points _).mono ?_
  rintro e w1 ⟨rfl, rfl⟩
  go_wp2_with fail
  go_ret
  exact ⟨rfl, HF.out⟩
end Go.Proofs.Ytacmfpkmcefcfaa.Hand
end
section
namespace Go.Proofs.Ytacmfpkmcefcfaa.Hand
open Go.RowKit Go.Proofs.YtacmfpkmcefcfaaW.PrintWords Go.Proofs.YtacmfpkmcefcfaaW.PrintLast Go.Proofs.YtacmfpkmcefcfaaW.PrintMore Go.Proofs.Ytacmfpkmcefcfaa.A
set_option linter.unusedVariables false
set_option linter.unusedSimpArgs false
attribute [local go_sem] max2_int min2_int max_two min_two max_three min_three max_four min_four
set_option maxRecDepth 100000 in
theorem copy_Ints (A : Option Addr) (c : Nat) (l : List Int) (hl : l.length ≤ 1000000) (w : World) (hC : Kd.C (Kd.int .i64) w A l.length l) :
    Calls Try.prog 96 #[.slice A l.length c] w fun e w' => ∃ u, e = .returned u ∧ Kd.R (Kd.int .i64) 3 w' w.heap.size (fun _ => True) u l ∧ Below w.heap.size w w' := by
  have HC := Aside0.mk hC
  have Hl := Aside0.mk hl
  clear hC hl
  go_enter Try.func96, Try.ntmps96
  go_wp2_with (at_builtin; refine Kd.R_append_rows (Kd.int .i64) (w0 := w) w.heap.size rfl (.const (.slice none 0 0)) (.tmp 3) 75 3 (.int .i64 0) 8 rfl Try.underlying75 ginfoInts rfl (by decide) (by decide) (.slice none 0 0) [] l A l.length c (fun _ => True) (fun _ => False) rfl rfl (Kd.R_nil _ _ _ _ _) HC.out (fun x cs h => h) (fun _ h => h.elim) (fun _ _ => trivial) (Below.refl _ _) (Nat.le_refl _) (by have := Hl.out; rw [List.length_nil]; omega) ?_; intro v1 w1 hr hb hg hat)
  have HR := Aside0.mk hr
  have HB := Aside0.mk hb
  clear hr hb hg hat
  rw [List.nil_append] at HR
  obtain ⟨A1, c1, hv, _⟩ := Kd.R_reads HR.out
  subst hv
  go_ret
  exact ⟨_, rfl, HR.out, HB.out⟩
set_option maxRecDepth 100000 in
set_option maxHeartbeats 1600000 in
theorem add_Ints (g base : Nat) (VS US VE UE : Value) (V U : Value) (vs us : List Value) (L : List (List Int)) (v : Value) (l : List Int) (w : World) (hb : Blk w g 60 (bookC V U VS US VE UE)) (hP : Pile (Kd.int .i64) 3 75 w base V U vs us L)
    (hv : Kd.R (Kd.int .i64) 3 w base (fun _ => True) v l) (hl : l.length ≤ 1000000) (hL : L.length < 250) (hnv : ∀ x ∈ vs ++ us, NeRow x v) (hbase : base ≤ w.heap.size) (hg : base ≤ g) :
    Calls Try.prog 53 #[.pointer (some ⟨g, 0, none⟩), v] w fun e w' => e = .returned (.tuple #[]) ∧ ∃ V' U' u, Blk w' g 60 (bookC V' U' VS US VE UE) ∧ Pile (Kd.int .i64) 3 75 w' base V' U' (vs ++ [v]) (us ++ [u]) (L ++ [l]) ∧ (∀ k, u.ownBlock = some k → w.heap.size ≤ k) ∧ BookFx 75 g base w w' := by
  obtain ⟨A, n, rfl⟩ := row_slice hP.hV
  obtain ⟨AU, nU, rfl⟩ := row_slice hP.hU
  obtain ⟨Av, cv, rfl, hcv, hCv⟩ := Kd.R_reads hv
  have c4 : w.cell? ⟨g, 2, none⟩ = some (.slice A L.length n) := hb.cell (i := 2) rfl
  have f4 := hb.frozen 2
  have HB := Aside0.mk hb
  have HP := Aside0.mk hP
  have HV := Aside0.mk hv
  have HC := Aside0.mk hCv
  have Hl := Aside0.mk hl
  have Hn := Aside0.mk hnv
  have Hbase := Aside0.mk hbase
  have Hg := Aside0.mk hg
  have HLn := Aside0.mk hL
  have hLi : (L.length : Int) < 250 := by omega
  have hgl : g < w.heap.size := hb.lt
  clear hb hP hv hCv hl hnv hbase hg hcv hL
  go_enter Try.func53, Try.ntmps53
  go_wp2_with (first | ((with_reducible refine gate_builtin (b := .append) (xs := #[.tmp 14, .tmp 16]) rfl ?_); at_builtin; refine print_append_cells (w0 := w) base rfl (.tmp 14) (.tmp 16) 53 75 (.slice none 0 0) 1 24 rfl Try.underlying53 ginfoLInts rfl (by decide) (by decide) (.slice A L.length n) L.length vs [.slice Av l.length cv] rfl rfl rfl (by intro u hu; rw [List.mem_singleton.1 hu]; rfl) HP.out.hV (Below.refl _ _) Hbase.out (by have := HLn.out; omega) ?_; intro V1 w1 hV1 hb1 hg1 hat1; have HV1 := Aside0.mk hV1; have HW1 := Aside0.mk hb1; have HG1 := Aside0.mk hg1; have HA1 := Aside0.mk hat1; obtain ⟨A1, n1, hV1e⟩ := row_slice hV1; subst hV1e; have HB1 := Aside0.mk (HB.out.grownB hg1 (fun q => own_ne HP.out.hV HB.out.hd (by decide) q.symm)); have c4 : w1.cell? ⟨g, 2, none⟩ = some (.slice A L.length n) := HB1.out.cell (i := 2) rfl; have f4 := HB1.out.frozen 2; clear hV1 hb1 hg1 hat1))
  have hc2 : Kd.C (Kd.int .i64) (w1.setCell ⟨g, 2, none⟩ (.slice A1 (L.length + 1) n1)) Av l.length l := (C_of_R (add_R (j := 2) rfl (by decide) (by decide) HP.out.hV HV.out HB1.out HG1.out)).1
  have hb2 : Blk (w1.setCell ⟨g, 2, none⟩ (.slice A1 (L.length + 1) n1)) g 60 (bookC (.slice A1 (L.length + 1) n1) (.slice AU L.length nU) VS US VE UE) := HB1.out.set_ 2 _
  have c5 : (w1.setCell ⟨g, 2, none⟩ (.slice A1 (L.length + 1) n1)).cell? ⟨g, 3, none⟩ = some (.slice AU L.length nU) := hb2.cell (i := 3) rfl
  have HC2 := Aside0.mk hc2
  have HB2 := Aside0.mk hb2
  generalize hw2 : w1.setCell ⟨g, 2, none⟩ (.slice A1 (L.length + 1) n1) = w2 at c5 HC2 HB2 ⊢
  clear hc2 hb2 c4 f4
  refine start_ (n := 12) (S := fun w' => w'.cell? ⟨g, 3, none⟩ = some (.slice AU L.length nU) ∧ Below w2.heap.size w2 w' ∧ Kd.C (Kd.int .i64) w' Av l.length l ∧ Blk w' g 60 (bookC (.slice A1 (L.length + 1) n1) (.slice AU L.length nU) VS US VE UE)) (ds := [8, 11]) #[false, false, false, false, false, false, false, false, false, false, false, false] (by kernel_rfl) rfl rfl ⟨c5, (below_drew (Below.refl _ _)), (Kd.C_drew HC2.out), HB2.out.drew⟩ (fun hHeld => ?_)
  refine pure_ (i := 0) (N := some 20) (v := ?_) (a' := ?_) #[true, false, false, false, false, false, false, false, false, false, false, false] rfl rfl (by kernel_rfl) (fun _ _ _ h => h) (Or.inl ⟨by rfl, ?_⟩) ?_ ?_
  rotate_left
  · intro w'
    go_simp
    with_reducible rfl
  rotate_left
  · simp only [Act.put, List.setIfInBounds_toArray, List.set_cons_zero, List.set_cons_succ, i64_w, i32_w]
    rfl
  refine pure_ (i := 1) (N := some 21) (v := ?_) (a' := ?_) #[true, true, false, false, false, false, false, false, false, false, false, false] rfl rfl (by kernel_rfl) (fun _ _ _ h => h) (Or.inl ⟨by rfl, ?_⟩) ?_ ?_
  rotate_left
  · intro w'
    go_simp
    with_reducible rfl
  rotate_left
  · simp only [Act.put, List.setIfInBounds_toArray, List.set_cons_zero, List.set_cons_succ, i64_w, i32_w]
    rfl
  refine pure_ (i := 2) (N := some 22) (v := ?_) (a' := ?_) #[true, true, true, false, false, false, false, false, false, false, false, false] rfl rfl (by kernel_rfl) (fun _ _ _ h => h) (Or.inl ⟨by rfl, ?_⟩) ?_ ?_
  rotate_left
  · intro w'
    go_simp
    with_reducible rfl
  rotate_left
  · simp only [Act.put, List.setIfInBounds_toArray, List.set_cons_zero, List.set_cons_succ, i64_w, i32_w]
    rfl
  refine pure_ (i := 3) (N := some 23) (v := ?_) (a' := ?_) #[true, true, true, true, false, false, false, false, false, false, false, false] rfl rfl (by kernel_rfl) (fun _ _ _ h => h) (Or.inl ⟨by rfl, ?_⟩) ?_ ?_
  rotate_left
  · intro w'
    go_simp
    with_reducible rfl
  rotate_left
  · simp only [Act.put, List.setIfInBounds_toArray, List.set_cons_zero, List.set_cons_succ, i64_w, i32_w]
    rfl
  refine pure_ (i := 5) (N := some 25) (v := ?_) (a' := ?_) #[true, true, true, true, false, true, false, false, false, false, false, false] rfl rfl (by kernel_rfl) (fun _ _ _ h => h) (Or.inl ⟨by rfl, ?_⟩) ?_ ?_
  rotate_left
  · intro w'
    go_simp
    with_reducible rfl
  rotate_left
  · simp only [Act.put, List.setIfInBounds_toArray, List.set_cons_zero, List.set_cons_succ, i64_w, i32_w]
    rfl
  refine take_ (i := 4) (N := some 24) (v := ?_) (a' := ?_) #[true, true, true, true, true, true, false, false, false, false, false, false] rfl rfl (by kernel_rfl) (fun _ _ _ h => h) (Or.inl ⟨by rfl, ?_⟩) hHeld ?_ ?_
  rotate_left
  · rintro w' ⟨s0, s1, s2, s3⟩
    go_simp
    with_reducible rfl
  rotate_left
  · simp only [Act.put, List.setIfInBounds_toArray, List.set_cons_zero, List.set_cons_succ, i64_w, i32_w]
    rfl
  refine one_ (i := 6) (N := some 26) #[true, true, true, true, true, true, true, false, false, false, false, false] rfl rfl (by kernel_rfl) (by decide) (fun K hK => ?_)
  refine goes_ Try.func96 (by kernel_rfl) rfl #[.slice Av l.length cv] (by rfl) rfl rfl (by simp only [List.map_toArray, List.map_cons, List.map_nil]; rfl) ?_
  with_reducible refine (copy_Ints Av cv l Hl.out _ hHeld.2.2.1).mono ?_
  rintro e w3 ⟨u, rfl, hu, hb⟩
  refine ⟨_, rfl, ?_⟩
  have HU := Aside0.mk hu
  obtain ⟨A3, c3, hue, _⟩ := Kd.R_reads hu
  subst hue
  have hb3 := below_step hHeld.2.1 hb
  have hu3 := (by rw [← hw2] at hb3; exact add_mid (by decide) HP.out HB1.out HG1.out hb3 : w3.ownsRow base 75 1 (.slice AU L.length nU) L.length us)
  have HU3 := Aside0.mk hu3
  have HB3 := Aside0.mk hb3
  have HK3 := Aside0.mk (hHeld.2.2.2.keep hb)
  clear hu hu3 hb3
  refine hK.out _ _ ⟨(keepP hb hHeld.1), (below_step hHeld.2.1 hb), (Kd.C_below hHeld.2.2.1 hb), ((hHeld.2.2.2).keep hb)⟩ (fun hHeld => ?_)
  clear hK K
  refine norm_ (a' := ?_) ?_ ?_
  rotate_left
  · show Act.put _ (some 26) _ = _
    simp only [Act.put, List.setIfInBounds_toArray, List.set_cons_zero, List.set_cons_succ, i64_w, i32_w]
    rfl
  refine one_ (i := 7) (N := some 27) #[true, true, true, true, true, true, true, true, false, false, false, false] rfl rfl (by kernel_rfl) (by decide) (fun K hK => ?_)
  refine value_ (w1 := ?_) (v := ?_) (by rfl) rfl ?_ ?_
  rotate_left 2
  · go_simp
    constructor
    · rfl
    · rfl
  refine hK.out _ _ ⟨(keep (below_alloc (Below.refl _ _) _) hHeld.1), (below_alloc hHeld.2.1 _), (Kd.C_below hHeld.2.2.1 (below_alloc (Below.refl _ _) _)), ((hHeld.2.2.2).alloc _)⟩ (fun hHeld => ?_)
  clear hK K
  refine norm_ (a' := ?_) ?_ ?_
  rotate_left
  · show Act.put _ (some 27) _ = _
    simp only [Act.put, List.setIfInBounds_toArray, List.set_cons_zero, List.set_cons_succ, i64_w, i32_w]
    rfl
  refine last_ (i := 8) (N := some 28) #[true, true, true, true, true, true, true, true, true, false, false, false] rfl rfl (by kernel_rfl) (by decide) (fun K hK => ?_)
  refine step_append_cells (w0 := w3) base (by rfl) (.tmp 24) (.tmp 27) 53 75 (.slice none 0 0) 1 24 (by rfl) Try.underlying53 ginfoLInts (by rfl) (by decide) (by decide) (.slice AU L.length nU) L.length us [.slice A3 l.length c3] (by rfl) (by rfl) (by rfl) (by intro u hu; rw [List.mem_singleton.1 hu]; rfl) HU3.out (Below.refl _ _) (by have h1 := HB3.out.size; have h2 := HG1.out.size; have h3 := Hbase.out; have h4 : w2.heap.size = w1.heap.size := (by rw [← hw2]; simp [World.setCell]); omega) (by have := HLn.out; omega) ?_
  intro U1 w5 hU5 hW5 hG5 hA5
  obtain ⟨A5, n5, hU1e⟩ := row_slice hU5
  subst hU1e
  have HB5 := Aside0.mk (HK3.out.grownB hG5 (fun q => own_ne HU3.out HK3.out.hd (by decide) q.symm))
  have c5 : w5.cell? ⟨g, 3, none⟩ = some (.slice AU L.length nU) := HB5.out.cell (i := 3) rfl
  have f5 := HB5.out.frozen 3
  have HU5 := Aside0.mk hU5
  have HW5 := Aside0.mk hW5
  have HG5 := Aside0.mk hG5
  have HA5 := Aside0.mk hA5
  clear hU5 hW5 hG5 hA5
  refine hK.out _ _ ?_
  clear hK K
  refine norm_ (a' := ?_) ?_ ?_
  rotate_left
  · show Act.put _ (some 28) _ = _
    simp only [Act.put, List.setIfInBounds_toArray, List.set_cons_zero, List.set_cons_succ, i64_w, i32_w]
    rfl
  refine pure_ (i := 9) (N := some 29) (v := ?_) (a' := ?_) #[true, true, true, true, true, true, true, true, true, true, false, false] rfl rfl (by kernel_rfl) (fun _ _ _ h => h) (Or.inl ⟨by rfl, ?_⟩) ?_ ?_
  rotate_left
  · intro w'
    go_simp
    with_reducible rfl
  rotate_left
  · simp only [Act.put, List.setIfInBounds_toArray, List.set_cons_zero, List.set_cons_succ, i64_w, i32_w]
    rfl
  refine pure_ (i := 10) (N := some 30) (v := ?_) (a' := ?_) #[true, true, true, true, true, true, true, true, true, true, true, false] rfl rfl (by kernel_rfl) (fun _ _ _ h => h) (Or.inl ⟨by rfl, ?_⟩) ?_ ?_
  rotate_left
  · intro w'
    go_simp
    with_reducible rfl
  rotate_left
  · simp only [Act.put, List.setIfInBounds_toArray, List.set_cons_zero, List.set_cons_succ, i64_w, i32_w]
    rfl
  refine last_ (i := 11) (N := none) #[true, true, true, true, true, true, true, true, true, true, true, true] rfl rfl (by kernel_rfl) (by decide) (fun K hK => ?_)
  refine skip_ (w1 := ?_) (by rfl) rfl ?_ ?_
  rotate_left
  · go_simp
    rfl
  refine hK.out _ _ ?_
  clear hK K
  refine done_ (by kernel_rfl) ?_
  skip
  go_end0
  subst hw2
  obtain ⟨r1, r2, r3⟩ := add_done (tB := 60) (j1 := 2) (j2 := 3) rfl (by decide) (by decide) (by decide) HP.out HV.out Hn.out Hbase.out Hg.out hgl HB1.out HV1.out HW1.out HG1.out HA1.out HB3.out HU.out HB5.out HU5.out HW5.out HG5.out HA5.out
  exact ⟨rfl, _, _, _, HB5.out.set_ 3 _, r1, r2, r3⟩
end Go.Proofs.Ytacmfpkmcefcfaa.Hand
end
section
namespace Go.Proofs.Ytacmfpkmcefcfaa.Hand
open Go.RowKit Go.Proofs.YtacmfpkmcefcfaaW.PrintWords Go.Proofs.YtacmfpkmcefcfaaW.PrintLast Go.Proofs.YtacmfpkmcefcfaaW.PrintMore Go.Proofs.Ytacmfpkmcefcfaa.A
set_option linter.unusedVariables false
set_option linter.unusedSimpArgs false
/-- No block of a row is free. -/
def Taken (F : Nat → Prop) (x : Value) : Prop := ∀ k, x.ownBlock = some k → ¬ F k
/-- A book: its lists of ints, spans, extents. -/
def KeptAt (w : World) (base g : Nat) (F : Nat → Prop) (LI : List (List Int)) (LS : List (List S119)) (LE : List (List S96)) : Prop :=
  ∃ VI UI VS US VE UE vi ui vs us ve ue, Blk w g 60 (bookC VI UI VS US VE UE) ∧ base ≤ g ∧ Pile (Kd.int .i64) 3 75 w base VI UI vi ui LI ∧ Pile k119 119 128 w base VS US vs us LS ∧ Pile k96 96 38 w base VE UE ve ue LE ∧ (∀ x ∈ vi ++ ui, Taken F x) ∧ (∀ x ∈ vs ++ us, Taken F x) ∧ (∀ x ∈ ve ++ ue, Taken F x)
section
variable {w w1 : World} {base g : Nat} {F F' : Nat → Prop} {LI : List (List Int)} {LS : List (List S119)} {LE : List (List S96)}
theorem Taken.mono {x : Value} (h : Taken F x) (hF : ∀ k, F' k → F k) : Taken F' x := fun k hk hf => h k hk (hF k hf)
theorem KeptAt.mono (h : KeptAt w base g F LI LS LE) (hF : ∀ k, F' k → F k) : KeptAt w base g F' LI LS LE := by
  obtain ⟨VI, UI, VS, US, VE, UE, vi, ui, vs, us, ve, ue, hb, hg, h1, h2, h3, f1, f2, f3⟩ := h
  exact ⟨VI, UI, VS, US, VE, UE, vi, ui, vs, us, ve, ue, hb, hg, h1, h2, h3, fun x hx => (f1 x hx).mono hF, fun x hx => (f2 x hx).mono hF, fun x hx => (f3 x hx).mono hF⟩
theorem KeptAt.below (h : KeptAt w base g F LI LS LE) (hB : Below w.heap.size w w1) : KeptAt w1 base g F LI LS LE := by
  obtain ⟨VI, UI, VS, US, VE, UE, vi, ui, vs, us, ve, ue, hb, hg, h1, h2, h3, f⟩ := h
  exact ⟨VI, UI, VS, US, VE, UE, vi, ui, vs, us, ve, ue, hb.keep hB, hg, h1.below hB, h2.below hB, h3.below hB, f⟩
theorem KeptAt.keep (h : KeptAt w base g F LI LS LE) (hB : Below w.heap.size w w1) : KeptAt w1 base g F LI LS LE := h.below hB
theorem KeptAt.book (h : KeptAt w base g F LI LS LE) : ∃ cs, Blk w g 60 cs := by
  obtain ⟨VI, UI, VS, US, VE, UE, vi, ui, vs, us, ve, ue, hb, _⟩ := h
  exact ⟨_, hb⟩
theorem KeptAt.lt (h : KeptAt w base g F LI LS LE) : g < w.heap.size := by
  obtain ⟨cs, hb⟩ := h.book
  exact hb.lt
theorem KeptAt.ge (h : KeptAt w base g F LI LS LE) : base ≤ g := by
  obtain ⟨VI, UI, VS, US, VE, UE, vi, ui, vs, us, ve, ue, hb, hg, _⟩ := h
  exact hg
theorem pile_lt {α : Type} {d : Kd α} {e eL : Nat} {V U : Value} {vs us : List Value} {L : List (List α)} (h : Pile d e eL w base V U vs us L) : ∀ x ∈ vs ++ us, ∀ k, x.ownBlock = some k → base ≤ k ∧ k < w.heap.size := by
  intro x hx k hk
  rcases List.mem_append.1 hx with hx | hx
  · exact h.rv.lt hx hk
  · exact h.ru.lt hx hk
theorem KeptAt.top (h : KeptAt w base g F LI LS LE) : KeptAt w base g (fun k => w.heap.size ≤ k) LI LS LE := by
  obtain ⟨VI, UI, VS, US, VE, UE, vi, ui, vs, us, ve, ue, hb, hg, h1, h2, h3, f1, f2, f3⟩ := h
  exact ⟨VI, UI, VS, US, VE, UE, vi, ui, vs, us, ve, ue, hb, hg, h1, h2, h3, fun x hx k hk hf => by have := (pile_lt h1 x hx k hk).2; omega, fun x hx k hk hf => by have := (pile_lt h2 x hx k hk).2; omega, fun x hx k hk hf => by have := (pile_lt h3 x hx k hk).2; omega⟩
/-- Blocks of other types have turned. -/
theorem KeptAt.types (h : KeptAt w base g F LI LS LE) (hm : ∀ k cs t, (t = 3 ∨ t = 75 ∨ t = 119 ∨ t = 128 ∨ t = 96 ∨ t = 38 ∨ t = 60) → base ≤ k → Blk w k t cs → Blk w1 k t cs) : KeptAt w1 base g F LI LS LE := by
  obtain ⟨VI, UI, VS, US, VE, UE, vi, ui, vs, us, ve, ue, hb, hg, h1, h2, h3, f⟩ := h
  refine ⟨VI, UI, VS, US, VE, UE, vi, ui, vs, us, ve, ue, hm _ _ _ (by simp) hg hb, hg, h1.keepT rfl (fun k cs t hk ht hbk => ?_), h2.keepT rfl (fun k cs t hk ht hbk => ?_), h3.keepT rfl (fun k cs t hk ht hbk => ?_), f⟩
  · exact (hm k cs t (by rcases ht with rfl | rfl <;> simp) hbk hk).trans hk.symm
  · exact (hm k cs t (by rcases ht with rfl | rfl <;> simp) hbk hk).trans hk.symm
  · exact (hm k cs t (by rcases ht with rfl | rfl <;> simp) hbk hk).trans hk.symm
theorem KeptAt.only {g' t : Nat} {cs : Array Value} (h : KeptAt w base g F LI LS LE) (ho : Only w w1 g') (hb : Blk w g' t cs) (ht : t ≠ 3 ∧ t ≠ 75 ∧ t ≠ 119 ∧ t ≠ 128 ∧ t ≠ 96 ∧ t ≠ 38 ∧ t ≠ 60) : KeptAt w1 base g F LI LS LE := by
  refine h.types (fun k cs' t' ht' _ hk => hk.only ho (fun e => ?_))
  subst e
  have hq := hb.hd.symm.trans hk.hd
  injection hq with hq; injection hq with _ hq
  subst hq
  rcases ht' with h | h | h | h | h | h | h
  · exact ht.1 h
  · exact ht.2.1 h
  · exact ht.2.2.1 h
  · exact ht.2.2.2.1 h
  · exact ht.2.2.2.2.1 h
  · exact ht.2.2.2.2.2.1 h
  · exact ht.2.2.2.2.2.2 h
theorem KeptAt.new' (w : World) (base n : Nat) (hn : w.heap.size = n) (hb : base ≤ w.heap.size) : KeptAt (w.alloc (.cells (bookC (.slice none 0 0) (.slice none 0 0) (.slice none 0 0) (.slice none 0 0) (.slice none 0 0) (.slice none 0 0)) 60)) base n (fun k => (w.alloc (.cells (bookC (.slice none 0 0) (.slice none 0 0) (.slice none 0 0) (.slice none 0 0) (.slice none 0 0) (.slice none 0 0)) 60)).heap.size ≤ k) [] [] [] := by
  subst hn
  exact KeptAt.top (F := fun _ => True) ⟨_, _, _, _, _, _, [], [], [], [], [], [], Blk.new _ _ _, hb, Pile.nil _ _ _ _ _, Pile.nil _ _ _ _ _, Pile.nil _ _ _ _ _, by simp, by simp, by simp⟩
theorem KeptAt.new (w : World) (base : Nat) (hb : base ≤ w.heap.size) : KeptAt (w.alloc (.cells (bookC (.slice none 0 0) (.slice none 0 0) (.slice none 0 0) (.slice none 0 0) (.slice none 0 0) (.slice none 0 0)) 60)) base w.heap.size (fun _ => True) [] [] [] :=
  ⟨_, _, _, _, _, _, [], [], [], [], [], [], Blk.new _ _ _, hb, Pile.nil _ _ _ _ _, Pile.nil _ _ _ _ _, Pile.nil _ _ _ _ _, by simp, by simp, by simp⟩
/-- What a book's method leaves of the rest. -/
theorem BookFx.blkT {LT k t t' : Nat} {cs cs' : Array Value} (h : BookFx LT g base w w1) (hg : Blk w g t cs) (hb : Blk w k t' cs') (h1 : t' ≠ LT) (h2 : t' ≠ t) : Blk w1 k t' cs' :=
  h.blk hb h1 (fun e => by
    subst e
    have hq := hg.hd.symm.trans hb.hd
    injection hq with hq; injection hq with _ hq
    exact h2 hq.symm)
theorem BookFx.own {LT b e n m t : Nat} {v : Value} {xs : List Value} {cs : Array Value} (h : BookFx LT g base w w1) (hg : Blk w g t cs) (hv : w.ownsRow b e m v n xs) (h1 : e ≠ LT) (h2 : e ≠ t) : w1.ownsRow b e m v n xs :=
  own_move hv (fun k hk => by
    obtain ⟨cs', hc⟩ := own_typed hv k hk
    exact (h.blkT hg (show Blk w k e cs' from hc) h1 h2).trans hc.symm)
end
theorem BookFx.Rr {α : Type} {d : Kd α} {e LT g base B t : Nat} {w w1 : World} {v : Value} {l : List α} {cs : Array Value} (hE : d.E = []) (h : BookFx LT g base w w1) (hg : Blk w g t cs) (hv : Kd.R d e w B (fun _ => True) v l) (h1 : e ≠ LT) (h2 : e ≠ t) : Kd.R d e w1 B (fun _ => True) v l :=
  R_moved hE hv (fun k hk => by
    obtain ⟨cs', hc⟩ := Kd.R_typed hv k hk
    exact (h.blkT hg (show Blk w k e cs' from hc) h1 h2).trans hc.symm)
theorem taken_ne {F : Nat → Prop} {x v : Value} (h : Taken F x) (hv : ∀ k, v.ownBlock = some k → F k) : NeRow x v := fun k hk hk' => h k hk (hv k hk')
theorem kept_apart (g base : Nat) (F : Nat → Prop) (LI : List (List Int)) (LS : List (List S119)) (LE : List (List S96)) (w : World) (hk : KeptAt w base g F LI LS LE)
    (bI : LI.length ≤ 250 ∧ ∀ l ∈ LI, l.length ≤ 1000000) (bS : LS.length ≤ 250 ∧ ∀ l ∈ LS, l.length ≤ 1000000) (bE : LE.length ≤ 250 ∧ ∀ l ∈ LE, l.length ≤ 1000000) (hbase : base ≤ w.heap.size) :
    Calls Try.prog 37 #[.pointer (some ⟨g, 0, none⟩)] w fun e w' => e = .returned (.bool true) ∧ Below base w w' := by
  obtain ⟨VI, UI, VS, US, VE, UE, vi, ui, vs, us, ve, ue, hb, hg, h1, h2, h3, f1, f2, f3⟩ := hk
  exact apart g base VI UI VS US VE UE vi ui vs us ve ue LI LS LE w hb h1 h2 h3 ⟨bI.1, fun i l hl => bI.2 l (List.mem_of_getElem? hl)⟩ ⟨bS.1, fun i l hl => bS.2 l (List.mem_of_getElem? hl)⟩ ⟨bE.1, fun i l hl => bE.2 l (List.mem_of_getElem? hl)⟩ hbase
theorem kept_I (g base : Nat) (F : Nat → Prop) (LI : List (List Int)) (LS : List (List S119)) (LE : List (List S96)) (v : Value) (l : List Int) (w : World) (hk : KeptAt w base g F LI LS LE)
    (hv : Kd.R (Kd.int .i64) 3 w base (fun _ => True) v l) (hl : l.length ≤ 1000000) (hL : LI.length < 250) (hnv : ∀ k, v.ownBlock = some k → F k) (hbase : base ≤ w.heap.size) :
    Calls Try.prog 53 #[.pointer (some ⟨g, 0, none⟩), v] w fun e w' => e = .returned (.tuple #[]) ∧ KeptAt w' base g (fun k => (F k ∧ k < w.heap.size ∧ v.ownBlock ≠ some k) ∨ w'.heap.size ≤ k) (LI ++ [l]) LS LE ∧ BookFx 75 g base w w' := by
  obtain ⟨VI, UI, VS, US, VE, UE, vi, ui, vs, us, ve, ue, hb, hg, h1, h2, h3, f1, f2, f3⟩ := hk
  refine (add_Ints g base VS US VE UE VI UI vi ui LI v l w hb h1 hv hl hL (fun x hx => taken_ne (f1 x hx) hnv) hbase hg).mono ?_
  rintro e w' ⟨rfl, V', U', u, hb', hP', hu, hfx⟩
  have k2 : Pile k119 119 128 w' base VS US vs us LS := h2.keepT rfl (fun k cs t hk ht hbk => by
    refine hfx.2 k (Array.getElem?_eq_some_iff.1 hk).1 (fun e => ?_) (fun cs' hc => ?_)
    · subst e; rw [hb.hd] at hk; injection hk with hk; injection hk with _ hk; rcases ht with rfl | rfl <;> exact absurd hk (by decide)
    · rw [hk] at hc; injection hc with hc; injection hc with _ hc; rcases ht with rfl | rfl <;> exact absurd hc (by decide))
  have k3 : Pile k96 96 38 w' base VE UE ve ue LE := h3.keepT rfl (fun k cs t hk ht hbk => by
    refine hfx.2 k (Array.getElem?_eq_some_iff.1 hk).1 (fun e => ?_) (fun cs' hc => ?_)
    · subst e; rw [hb.hd] at hk; injection hk with hk; injection hk with _ hk; rcases ht with rfl | rfl <;> exact absurd hk (by decide)
    · rw [hk] at hc; injection hc with hc; injection hc with _ hc; rcases ht with rfl | rfl <;> exact absurd hc (by decide))
  have z : w.heap.size ≤ w'.heap.size := hfx.1.size
  refine ⟨rfl, ⟨V', U', VS, US, VE, UE, vi ++ [v], ui ++ [u], vs, us, ve, ue, hb', hg, hP', k2, k3, fun x hx k hk hf => ?_, fun x hx k hk hf => ?_, fun x hx k hk hf => ?_⟩, hfx⟩
  · rcases hf with hf | hf
    · have hx' : x ∈ vi ++ ui ∨ x = v ∨ x = u := by
        simp only [List.mem_append, List.mem_singleton] at hx ⊢
        rcases hx with (h | h) | (h | h)
        · exact .inl (.inl h)
        · exact .inr (.inl h)
        · exact .inl (.inr h)
        · exact .inr (.inr h)
      rcases hx' with hx' | rfl | rfl
      · exact f1 x hx' k hk hf.1
      · exact hf.2.2 hk
      · have := hu k hk; omega
    · have := (pile_lt hP' x hx k hk).2; omega
  · rcases hf with hf | hf
    · exact f2 x hx k hk hf.1
    · have := (pile_lt k2 x hx k hk).2; omega
  · rcases hf with hf | hf
    · exact f3 x hx k hk hf.1
    · have := (pile_lt k3 x hx k hk).2; omega
theorem same_I {B B' : Nat} (u v : Value) (T : List Int) (w : World) (hu : Kd.R (Kd.int .i64) 3 w B (fun _ => True) u T) (hv : Kd.R (Kd.int .i64) 3 w B' (fun _ => True) v T) (hT : T.length ≤ 1000000) :
    Calls Try.prog 54 #[u, v] w fun e w' => e = .returned (.bool true) ∧ Below w.heap.size w w' := by
  obtain ⟨A, c, rfl, hc, hC⟩ := Kd.R_reads hu
  obtain ⟨A', c', rfl, hc', hC'⟩ := Kd.R_reads hv
  refine (emulsionbook_SameInts.calls (T.length + 1) A c T A' c' T true w hC hc hC' hc' (sameInts_f T (by omega) _ (by omega))).mono ?_
  rintro e w' ⟨rfl, hd⟩
  exact ⟨rfl, drawnB hd⟩
end Go.Proofs.Ytacmfpkmcefcfaa.Hand
end
section
namespace Go.Proofs.Ytacmfpkmcefcfaa.Hand
open Go.RowKit Go.Proofs.YtacmfpkmcefcfaaW.PrintWords Go.Proofs.YtacmfpkmcefcfaaW.PrintLast Go.Proofs.YtacmfpkmcefcfaaW.PrintMore Go.Proofs.Ytacmfpkmcefcfaa.A
set_option linter.unusedVariables false
set_option linter.unusedSimpArgs false
attribute [local go_sem] max2_int min2_int max_two min_two max_three min_three max_four min_four
theorem cut_up {P : Program} (t e : TypeId) (kh : IntKind) {i : TypeInfo} (ht : P.underlying t = some (.slice e)) (hi : P.info? e = some i) (A : Option Addr) (n c : Nat) (j : Int) (m : Nat) (hj : j = (m : Int)) (hm : m ≤ c) :
    ∀ W : World, (Instr.slice t (.slice A n c) none (some (.int kh j)) none).run P W = .ok (.slice A m c) W := by
  intro W
  subst hj
  have hel : P.elem t = e := by simp [Program.elem, ht]
  have hu : P.underlying t = some (.slice (P.elem t)) := by rw [hel]; exact ht
  have ha : (A.map fun x => x.add 0) = A := by cases A <;> simp [Addr.add]
  rw [run_slice_h W t A n c hu kh (m : Int) (by omega) (by omega), hel]
  simp [sizeOf, typeInfo, hi, sliced, Result.andThen, ha]
theorem R_len {α : Type} {d : Kd α} {e : Nat} {w : World} {B n c : Nat} {A : Option Addr} {ok : Nat → Prop} {xs : List α} (h : Kd.R d e w B ok (.slice A n c) xs) : n = xs.length ∧ n ≤ c := ⟨(Kd.R_reads' h).1, (Kd.R_reads' h).2.1⟩
set_option maxRecDepth 100000 in
theorem lent_Ints (A : Option Addr) (c : Nat) (l : List Int) (hl : l.length ≤ 1000000) (w : World) (hC : Kd.C (Kd.int .i64) w A l.length l) :
    Calls Try.prog 47 #[.slice A l.length c] w fun e w' => ∃ A' c', e = .returned (.slice A' l.length c') ∧ Kd.R (Kd.int .i64) 3 w' w.heap.size (fun _ => True) (.slice A' (l.length + 1) c') (l ++ [(-77 : Int)]) ∧ Below w.heap.size w w' := by
  have HC := Aside0.mk hC
  have Hl := Aside0.mk hl
  have hi : (l.length : Int) ≤ 1000000 := by omega
  clear hC hl
  go_enter Try.func47, Try.ntmps47
  go_wp2_with fail
  refine (copy_Ints A c l Hl.out _ HC.out).mono ?_
  rintro e w1 ⟨u, rfl, hu, hB⟩
  have HU := Aside0.mk hu
  have HB := Aside0.mk hB
  obtain ⟨Au, cu, hue, _⟩ := Kd.R_reads hu
  subst hue
  clear hu hB
  obtain ⟨ti, hti, _⟩ := info_parts ginfoInts
  have Hti := Aside0.mk hti
  clear hti
  go_wp2_with (at_builtin; refine Kd.R_append (Kd.int .i64) (w0 := w) w.heap.size rfl (.tmp 4) (.tmp 5) 75 3 (.int .i64 0) 8 rfl Try.underlying75 ginfoInts rfl (by decide) (by decide) (.slice Au l.length cu) l (-77 : Int) [.int .i64 (-77)] (fun _ => True) (fun _ => False) rfl (by first | (go_simp; done) | (go_simp; rfl)) rfl (fun _ hk => hk.elim) (fun _ _ => trivial) HU.out HB.out HB.out.size (by have := Hl.out; omega) ?_; intro v1 w2 hr hb hg hat; have HR := Aside0.mk hr; have HB2 := Aside0.mk hb; obtain ⟨A2, c2, hv, hle, _⟩ := Kd.R_reads hr; rw [List.length_append, List.length_singleton] at hv hle; subst hv; have hcut := cut_up (P := Try.prog) 75 3 .i64 Try.underlying75 Hti.out A2 (l.length + 1) c2 (l.length : Int) l.length rfl (by omega); clear hr hb hg hat)
  go_ret
  exact ⟨_, _, rfl, HR.out, HB2.out⟩
set_option maxRecDepth 100000 in
theorem stays_Ints {B : Nat} (A' : Option Addr) (c' : Nat) (A : Option Addr) (c : Nat) (l : List Int) (hl : l.length ≤ 1000000) (w : World) (hR : Kd.R (Kd.int .i64) 3 w B (fun _ => True) (.slice A' (l.length + 1) c') (l ++ [(-77 : Int)])) (hc : l.length ≤ c) (hC : Kd.C (Kd.int .i64) w A l.length l) :
    Calls Try.prog 50 #[.slice A' l.length c', .slice A l.length c] w fun e w' => e = .returned (.bool true) ∧ Below w.heap.size w w' := by
  obtain ⟨g, rfl, hg1, hg2, hCg⟩ := row_at0 hR (by simp)
  have hle : l.length + 1 ≤ c' := (R_len hR).2
  have hC0 : Kd.C (Kd.int .i64) w (some ⟨g, 0, none⟩) l.length l := by have h := Kd.C_take (m := l.length) hCg (by simp); rw [List.take_left'] at h; exact h; rfl
  obtain ⟨cs, hK, hcs⟩ := C_at0 hCg (k := l.length) (x := (-77 : Int)) (by rw [List.getElem?_append_right (Nat.le_refl _), Nat.sub_self]; rfl)
  obtain rfl : cs = [.int .i64 (-77)] := hK
  have c0 : w.cell? ⟨g, l.length, none⟩ = some (.int .i64 (-77)) := by have h := hcs 0 _ rfl; simpa [show Kd.sz (Kd.int .i64) = 1 from rfl] using h
  have Hc := Aside0.mk hc
  have HC := Aside0.mk hC
  have HC0 := Aside0.mk hC0
  have Hl := Aside0.mk hl
  have Hle := Aside0.mk hle
  have hi : (l.length : Int) ≤ 1000000 := by omega
  clear hR hCg hC0 hcs hC hc hl hle hg1 hg2
  obtain ⟨ti, hti, _⟩ := info_parts ginfoInts
  have hcut := cut_up (P := Try.prog) 75 3 .i64 Try.underlying75 hti (some ⟨g, 0, none⟩) l.length c' ((l.length : Int) + 1) (l.length + 1) (by omega) (by have := Hle.out; omega)
  clear hti
  have hlt : (l.length : Int) < ((l.length + 1 : Nat) : Int) := by omega
  have hlt2 : (l.length : Int) < (l.length : Int) + 1 := by omega
  go_enter Try.func50, Try.ntmps50
  go_wp2_with fail
  refine (emulsionbook_SameInts.calls (l.length + 1) _ _ l _ _ l true _ HC0.out (by have := Hle.out; omega) HC.out Hc.out (sameInts_f l (by have := Hl.out; omega) _ (by omega))).mono ?_
  rintro e w1 ⟨rfl, hd⟩
  have hB := drawnB hd
  have c1 := keep hB c0
  clear c0 hd
  have HB := Aside0.mk hB
  clear hB
  go_wp2_with fail
  go_ret
  exact ⟨rfl, HB.out⟩
end Go.Proofs.Ytacmfpkmcefcfaa.Hand
end
