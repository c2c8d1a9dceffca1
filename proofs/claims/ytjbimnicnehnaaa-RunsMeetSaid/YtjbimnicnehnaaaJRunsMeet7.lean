/- Parts of the proof for RunsMeet: WaRunsMeet. -/
import Derived.Deep.WholeRow
import Derived.Test.YtjbimnicnehnaaaJRunsMeet6
import Derived.Test.YtjbimnicnehnaaaJRunsMeet5
import Derived.Test.YtjbimnicnehnaaaJRunsMeet2
section
namespace Go.Proofs.Ytjbimnicnehnaaa.WRunsMeet
open Go.RowKit Go.Proofs.YtjbimnicnehnaaaW.PrintWords Go.Proofs.YtjbimnicnehnaaaW.PrintLast Go.Proofs.YtjbimnicnehnaaaW.PrintMore Go.Proofs.Ytjbimnicnehnaaa.A Go.Proofs.Ytjbimnicnehnaaa.Hand
set_option linter.unusedVariables false
set_option linter.unusedSimpArgs false
attribute [local go_sem] max2_int min2_int max_two min_two max_three min_three max_four min_four
abbrev SP := S24
set_option maxRecDepth 100000 in
theorem early (A B : Option Addr) (c d : Nat) (a b : List SP) (w : World) (h : 30 < (a.length : Int) ∨ (¬ 30 < (a.length : Int) ∧ 30 < (b.length : Int))) :
    Calls Try.prog 10 #[.slice A a.length c, .slice B b.length d] w fun e w' => e = .returned (.bool true) ∧ Below w.heap.size w w' := by
  rcases h with h | ⟨h0, h⟩
  all_goals
    go_enter Try.func10, Try.ntmps10
    go_wp2_with (go_at_call 30; refine (alive2 _).mono ?_; rintro e w1 ⟨rfl, hB⟩)
    go_ret
    exact ⟨rfl, hB⟩
set_option maxRecDepth 100000 in
set_option maxHeartbeats 1600000 in
theorem main (A B : Option Addr) (c d : Nat) (a b : List SP) (w : World) (ha : a.length ≤ 30) (hb : b.length ≤ 30) (hc : a.length ≤ c) (hd : b.length ≤ d) (hA : Kd.C k24 w A a.length a) (hB0 : Kd.C k24 w B b.length b) :
    Calls Try.prog 10 #[.slice A a.length c, .slice B b.length d] w fun e w' => e = .returned (.bool true) ∧ Below w.heap.size w w' := by
  have HB := Aside0.mk (Below.refl w.heap.size w)
  have CA := Aside0.mk hA
  have CB := Aside0.mk hB0
  have Hc := Aside0.mk hc
  have Hd := Aside0.mk hd
  have i1 : (a.length : Int) ≤ 30 := by omega
  have i2 : (b.length : Int) ≤ 30 := by omega
  have n1 : ¬ (30 : Int) < (a.length : Int) := by omega
  have n2 : ¬ (30 : Int) < (b.length : Int) := by omega
  have Na := Aside0.mk (spans_new a)
  have Nb := Aside0.mk (spans_new b)
  have hla : Aside0 ((putS none64 a true).length = 64) := ⟨putS_len _ _ _ (by simp)⟩
  have hlb : Aside0 ((putS none64 b true).length = 64) := ⟨putS_len _ _ _ (by simp)⟩
  have Cut : Aside0 (cutAllV (spansOf (putS none64 a true)) a = []) := ⟨by rw [spans_cut _ _ (putS_len _ _ _ (by simp)), cut_all a]⟩
  have hsa : ∃ q, q = putS none64 a true := ⟨_, rfl⟩
  have hsb : ∃ q, q = putS none64 b true := ⟨_, rfl⟩
  obtain ⟨sa, hsa⟩ := hsa
  obtain ⟨sb, hsb⟩ := hsb
  rw [← hsa] at Na hla Cut
  rw [← hsb] at Nb hlb
  replace hsa := Aside0.mk hsa
  replace hsb := Aside0.mk hsb
  clear hA hB0 hc hd ha hb
  go_enter Try.func10, Try.ntmps10
  go_wp2_with fail
  refine (alive2 _).mono ?_
  rintro e w1 ⟨rfl, hB⟩
  replace HB := Aside0.mk (below_step HB.out hB)
  clear hB
  go_wp2_with fail
  refine (emulsionref1_Set_Put.calls none64 ⟨by simp⟩ A c a true _ (Kd.C_below CA.out HB.out) Hc.out).mono ?_
  rintro e w2 ⟨rfl, hB⟩
  rw [← hsa.out]
  replace HB := Aside0.mk (below_step HB.out hB)
  clear hB
  go_wp2_with fail
  refine (emulsionref1_Set_Put.calls none64 ⟨by simp⟩ B d b true _ (Kd.C_below CB.out HB.out) Hd.out).mono ?_
  rintro e w3 ⟨rfl, hB⟩
  rw [← hsb.out]
  replace HB := Aside0.mk (below_step HB.out hB)
  clear hB
  go_upto_region 4 with (first | (with_reducible refine wpList_store_row rfl 30 (.tmp 5) (.tmp 31) rfl (w3.heap.size) (setArr sa) rfl rfl 30 _ (heap_alloc2_old _ _ _) (by rw [setArr_size, hla.out] <;> exact info30) (by rw [setArr_size, hla.out] <;> with_unfolding_all rfl) (setArr_one _) ?_) | (with_reducible refine wpList_store_row rfl 30 (.tmp 6) (.tmp 34) rfl (w3.heap.size + 1) (setArr sb) rfl rfl 30 _ ((setRow_other _ _ _ _ (by omega)).trans (heap_alloc2_new _ _ _)) (by rw [setArr_size, hlb.out] <;> exact info30) (by rw [setArr_size, hlb.out] <;> with_unfolding_all rfl) (setArr_one _) ?_))
  refine code_abs (fun X => Below w.heap.size w X ∧ Blk X w3.heap.size 30 (setArr sa) ∧ Blk X (w3.heap.size + 1) 30 (setArr sb)) ⟨below_setRow (below_setRow (below_alloc (below_alloc HB.out _) _) HB.out.size _) (Nat.le_trans HB.out.size (Nat.le_succ _)) _, (((Blk.new _ _ _).alloc _).row _).rowFar (by omega) _, ((Blk.new2 _ _ _ _).rowFar (by omega) _).row _⟩ ?_
  rintro wq ⟨hb, h1, h2⟩
  replace HB := Aside0.mk hb
  have SA := Aside0.mk h1
  have SB := Aside0.mk h2
  clear hb h1 h2
  generalize w3.heap.size = gx at *
  go_wp2_with (first | (with_reducible refine wpList_load_row rfl 30 (.tmp 5) rfl gx rfl 30 _ (0, 0) _ SA.out.hd Try.underlying30 rfl (by rw [setArr_size, hla.out] <;> exact info30) ?_) | (with_reducible refine wpList_store_row rfl 30 (.tmp 7) (.tmp 35) rfl (wq.heap.size) (setArr sa) rfl rfl 30 _ (heap_alloc_new _ _) (by rw [setArr_size, hla.out] <;> exact info30) (by rw [setArr_size, hla.out] <;> with_unfolding_all rfl) (setArr_one _) ?_))
  rw [World.setRow_alloc_new]
  refine code_abs (fun X => Below w.heap.size w X ∧ Blk X gx 30 (setArr sa) ∧ Blk X (gx + 1) 30 (setArr sb) ∧ Blk X wq.heap.size 30 (setArr sa)) ⟨below_alloc HB.out _, SA.out.alloc _, SB.out.alloc _, Blk.new _ _ _⟩ ?_
  have hxy : Aside0 (gx < wq.heap.size ∧ gx + 1 < wq.heap.size ∧ w.heap.size ≤ wq.heap.size) := ⟨SA.out.lt, SB.out.lt, HB.out.size⟩
  rintro wp ⟨hb, h1, h2, h3⟩
  replace HB := Aside0.mk hb
  replace SA := Aside0.mk h1
  replace SB := Aside0.mk h2
  have SC : Aside0 (Blk wp wq.heap.size 30 (setArr (upS (fun j => sa.getD j false && sb.getD j false) sa 0))) := ⟨by rw [upS_zero _ _ hla.out]; exact h3⟩
  clear hb h1 h2 h3
  generalize wq.heap.size = gy at *
  go_loopg [8] 64 (fun kq v wz => ∃ k : Nat, k + kq = 64 ∧ v = .int .i64 (k : Int) ∧ Aside0 (Below w.heap.size w wz) ∧ Aside0 (Blk wz gx 30 (setArr sa)) ∧ Aside0 (Blk wz (gx + 1) 30 (setArr sb)) ∧ Aside0 (Blk wz gy 30 (setArr (upS (fun j => sa.getD j false && sb.getD j false) sa k))))
  case atStart => exact ⟨0, by omega, rfl, HB, SA, SB, SC⟩
  case round =>
    clear HB SA SB SC
    obtain ⟨k, hk, rfl, HB, SA, SB, SC⟩ := hrel
    by_cases hlt : k < 64
    · have hlt' : (k : Int) < 64 := by omega
      obtain ⟨kk, rfl⟩ : ∃ z, gk = z + 1 := ⟨gk - 1, by omega⟩
      have hst := Aside0.mk (upS_step (fun j => sa.getD j false && sb.getD j false) sa k hlt)
      have s0 := SA.out.cell (setArr_get sa k (by rw [hla.out]; omega))
      have s1 := SB.out.cell (setArr_get sb k (by rw [hlb.out]; omega))
      have s2 := SC.out.cell (setArr_get _ k (by rw [upS_length]; omega))
      have sf := SC.out.frozen k
      generalize (upS (fun j => sa.getD j false && sb.getD j false) sa k).getD k false = old at *
      have hpq : ∃ p q, p = sa.getD k false ∧ q = sb.getD k false := ⟨_, _, rfl, rfl⟩
      obtain ⟨p, q, hp, hq⟩ := hpq
      have hst2 : Aside0 ((upS (fun j => sa.getD j false && sb.getD j false) sa k).set k (p && q) = upS (fun j => sa.getD j false && sb.getD j false) sa (k + 1)) := ⟨by rw [hp, hq]; exact hst.out⟩
      rw [← hp] at s0
      rw [← hq] at s1
      clear hp hq hst
      cases p
      · skip
        go_wp2_with fail
        have SC1 := Aside0.mk (SC.out.set_ k (.bool false))
        rw [setArr_set] at SC1
        have h2 := hst2.out
        simp only [Bool.false_and] at h2
        rw [h2] at SC1
        have HB1 := Aside0.mk (HB.out.setCell (p := ⟨gy, k, none⟩) hxy.out.2.2 (.bool false))
        have SA1 := Aside0.mk (SA.out.far (p := ⟨gy, k, none⟩) (by have := hxy.out.1; show gx ≠ gy; omega) (.bool false))
        have SB1 := Aside0.mk (SB.out.far (p := ⟨gy, k, none⟩) (by have := hxy.out.2.1; show gx + 1 ≠ gy; omega) (.bool false))
        clear h2 HB SA SB SC s0 s1 s2 sf
        go_roundg kk
        case measure => omega
        case rel => exact ⟨k + 1, by omega, by go_num, HB1, SA1, SB1, SC1⟩
      · cases q
        · skip
          go_wp2_with fail
          have SC1 := Aside0.mk (SC.out.set_ k (.bool false))
          rw [setArr_set] at SC1
          have h2 := hst2.out
          simp only [Bool.and_false] at h2
          rw [h2] at SC1
          have HB1 := Aside0.mk (HB.out.setCell (p := ⟨gy, k, none⟩) hxy.out.2.2 (.bool false))
          have SA1 := Aside0.mk (SA.out.far (p := ⟨gy, k, none⟩) (by have := hxy.out.1; show gx ≠ gy; omega) (.bool false))
          have SB1 := Aside0.mk (SB.out.far (p := ⟨gy, k, none⟩) (by have := hxy.out.2.1; show gx + 1 ≠ gy; omega) (.bool false))
          clear h2 HB SA SB SC s0 s1 s2 sf
          go_roundg kk
          case measure => omega
          case rel => exact ⟨k + 1, by omega, by go_num, HB1, SA1, SB1, SC1⟩
        · skip
          go_wp2_with fail
          have SC1 := Aside0.mk (SC.out.set_ k (.bool true))
          rw [setArr_set] at SC1
          have h2 := hst2.out
          simp only [Bool.and_true] at h2
          rw [h2] at SC1
          have HB1 := Aside0.mk (HB.out.setCell (p := ⟨gy, k, none⟩) hxy.out.2.2 (.bool true))
          have SA1 := Aside0.mk (SA.out.far (p := ⟨gy, k, none⟩) (by have := hxy.out.1; show gx ≠ gy; omega) (.bool true))
          have SB1 := Aside0.mk (SB.out.far (p := ⟨gy, k, none⟩) (by have := hxy.out.2.1; show gx + 1 ≠ gy; omega) (.bool true))
          clear h2 HB SA SB SC s0 s1 s2 sf
          go_roundg kk
          case measure => omega
          case rel => exact ⟨k + 1, by omega, by go_num, HB1, SA1, SB1, SC1⟩
    · have hk64 : k = 64 := by omega
      have hlt' : ¬ (k : Int) < 64 := by omega
      rw [hk64, upS_all] at SC
      replace SC : Aside0 (Blk wr gy 30 (setArr (andS sa sb))) := ⟨SC.out⟩
      clear hk64
      go_wp2_with fail
      refine (runs_of a A c _ (Kd.C_below CA.out HB.out)).mono ?_
      rintro e w4 ⟨rfl, hr, hB⟩
      rw [Na.out] at hr
      have GE_R : Aside0 (w.heap.size ≤ wr.heap.size) := ⟨by have := HB.out.size; omega⟩
      replace HB := Aside0.mk (below_step HB.out hB)
      replace SA := Aside0.mk (SA.out.keep hB)
      replace SB := Aside0.mk (SB.out.keep hB)
      replace SC := Aside0.mk (SC.out.keep hB)
      clear hB
      have R := Aside0.mk hr
      clear hr
      generalize wr.heap.size = g1 at *
      go_wp2_with fail
      refine (runs_of b B d _ (Kd.C_below CB.out HB.out)).mono ?_
      rintro e w5 ⟨rfl, hr, hB⟩
      rw [Nb.out] at hr
      have NE_R_S : Aside0 (g1 ≠ w4.heap.size) := ⟨by have := R.out.lt; omega⟩
      have GE_S : Aside0 (w.heap.size ≤ w4.heap.size) := ⟨by have := HB.out.size; omega⟩
      replace HB := Aside0.mk (below_step HB.out hB)
      replace SA := Aside0.mk (SA.out.keep hB)
      replace SB := Aside0.mk (SB.out.keep hB)
      replace SC := Aside0.mk (SC.out.keep hB)
      replace R := Aside0.mk (R.out.keep hB)
      clear hB
      have S := Aside0.mk hr
      clear hr
      generalize w4.heap.size = g2 at *
      go_wp2_with fail
      refine (runs_both g1 g1 g2 g2 _ _ _ (spansOf_tidy sa) (spansOf_tidy sb) R.out S.out).mono ?_
      rintro e w6 ⟨rfl, hr, hB⟩
      rw [spans_both] at hr
      have NE_R_U : Aside0 (g1 ≠ w5.heap.size) := ⟨by have := R.out.lt; omega⟩
      have NE_S_U : Aside0 (g2 ≠ w5.heap.size) := ⟨by have := S.out.lt; omega⟩
      have GE_U : Aside0 (w.heap.size ≤ w5.heap.size) := ⟨by have := HB.out.size; omega⟩
      replace HB := Aside0.mk (below_step HB.out hB)
      replace SA := Aside0.mk (SA.out.keep hB)
      replace SB := Aside0.mk (SB.out.keep hB)
      replace SC := Aside0.mk (SC.out.keep hB)
      replace R := Aside0.mk (R.out.keep hB)
      replace S := Aside0.mk (S.out.keep hB)
      clear hB
      have U := Aside0.mk hr
      clear hr
      generalize w5.heap.size = g3 at *
      go_wp2_with fail
      refine (runs_both g2 g2 g1 g1 _ _ _ (spansOf_tidy sb) (spansOf_tidy sa) S.out R.out).mono ?_
      rintro e w7 ⟨rfl, hr, hB⟩
      rw [spans_both, andS_comm] at hr
      have NE_R_V : Aside0 (g1 ≠ w6.heap.size) := ⟨by have := R.out.lt; omega⟩
      have NE_S_V : Aside0 (g2 ≠ w6.heap.size) := ⟨by have := S.out.lt; omega⟩
      have NE_U_V : Aside0 (g3 ≠ w6.heap.size) := ⟨by have := U.out.lt; omega⟩
      have GE_V : Aside0 (w.heap.size ≤ w6.heap.size) := ⟨by have := HB.out.size; omega⟩
      replace HB := Aside0.mk (below_step HB.out hB)
      replace SA := Aside0.mk (SA.out.keep hB)
      replace SB := Aside0.mk (SB.out.keep hB)
      replace SC := Aside0.mk (SC.out.keep hB)
      replace R := Aside0.mk (R.out.keep hB)
      replace S := Aside0.mk (S.out.keep hB)
      replace U := Aside0.mk (U.out.keep hB)
      clear hB
      have V := Aside0.mk hr
      clear hr
      generalize w6.heap.size = g4 at *
      obtain ⟨u, hu⟩ : ∃ u, u = andS sa sb := ⟨_, rfl⟩
      rw [← hu] at SC U V
      have hul : Aside0 (u.length = 64) := ⟨by rw [hu]; exact andS_length _ _⟩
      clear hu
      obtain ⟨n, hn⟩ : ∃ n, cntS u 64 = n := ⟨_, rfl⟩
      have hn64 : (n : Int) ≤ 64 := by have := cntS_le u 64; omega
      replace hn := Aside0.mk hn
      obtain ⟨q, hq⟩ : ∃ q, q = decide (sa = sb) := ⟨_, rfl⟩
      have Hq := Aside0.mk hq.symm
      have hE : ∀ W : World, (Op.equalIn 10000 30 (.agg (setArr sa)) (.agg (setArr sb))).run Try.prog W = .ok q W := fun W => by
        rw [hq, ← eqB]
        exact eqSet 9998 sa sb hla.out hlb.out W
      clear hq
      go_wp2_with fail
      refine start_ (n := 21) (S := fun w' => Below w.heap.size w w' ∧ Blk w' gx 30 (setArr sa) ∧ Blk w' (gx + 1) 30 (setArr sb) ∧ Blk w' gy 30 (setArr u) ∧ RunsAt w' g1 g1 (spansOf sa) ∧ RunsAt w' g2 g2 (spansOf sb) ∧ RunsAt w' g3 g3 (spansOf u) ∧ RunsAt w' g4 g4 (spansOf u)) (ds := []) #[false, false, false, false, false, false, false, false, false, false, false, false, false, false, false, false, false, false, false, false, false] (by kernel_rfl) rfl rfl ⟨(below_drew1 HB.out), (SA.out.keep (below_drew1 (Below.refl _ _))), (SB.out.keep (below_drew1 (Below.refl _ _))), (SC.out.keep (below_drew1 (Below.refl _ _))), (R.out.keep (below_drew1 (Below.refl _ _))), (S.out.keep (below_drew1 (Below.refl _ _))), (U.out.keep (below_drew1 (Below.refl _ _))), (V.out.keep (below_drew1 (Below.refl _ _)))⟩ (fun hHeld => ?_)
      refine pure_ (i := 0) (N := some 66) (v := ?_) (a' := ?_) #[true, false, false, false, false, false, false, false, false, false, false, false, false, false, false, false, false, false, false, false, false] rfl rfl (by kernel_rfl) (fun _ _ _ h => h) (Or.inl ⟨by rfl, ?_⟩) ?_ ?_
      rotate_left
      · intro w'
        go_simp
        with_reducible rfl
      rotate_left
      · simp only [Act.put, List.setIfInBounds_toArray, List.set_cons_zero, List.set_cons_succ, i64_w, i32_w]
        rfl
      refine pure_ (i := 1) (N := some 67) (v := ?_) (a' := ?_) #[true, true, false, false, false, false, false, false, false, false, false, false, false, false, false, false, false, false, false, false, false] rfl rfl (by kernel_rfl) (fun _ _ _ h => h) (Or.inl ⟨by rfl, ?_⟩) ?_ ?_
      rotate_left
      · intro w'
        go_simp
        with_reducible rfl
      rotate_left
      · simp only [Act.put, List.setIfInBounds_toArray, List.set_cons_zero, List.set_cons_succ, i64_w, i32_w]
        rfl
      refine pure_ (i := 2) (N := some 68) (v := ?_) (a' := ?_) #[true, true, true, false, false, false, false, false, false, false, false, false, false, false, false, false, false, false, false, false, false] rfl rfl (by kernel_rfl) (fun _ _ _ h => h) (Or.inl ⟨by rfl, ?_⟩) ?_ ?_
      rotate_left
      · intro w'
        go_simp
        with_reducible rfl
      rotate_left
      · simp only [Act.put, List.setIfInBounds_toArray, List.set_cons_zero, List.set_cons_succ, i64_w, i32_w]
        rfl
      refine pure_ (i := 3) (N := some 69) (v := ?_) (a' := ?_) #[true, true, true, true, false, false, false, false, false, false, false, false, false, false, false, false, false, false, false, false, false] rfl rfl (by kernel_rfl) (fun _ _ _ h => h) (Or.inl ⟨by rfl, ?_⟩) ?_ ?_
      rotate_left
      · intro w'
        go_simp
        with_reducible rfl
      rotate_left
      · simp only [Act.put, List.setIfInBounds_toArray, List.set_cons_zero, List.set_cons_succ, i64_w, i32_w]
        rfl
      refine pure_ (i := 4) (N := some 70) (v := ?_) (a' := ?_) #[true, true, true, true, true, false, false, false, false, false, false, false, false, false, false, false, false, false, false, false, false] rfl rfl (by kernel_rfl) (fun _ _ _ h => h) (Or.inl ⟨by rfl, ?_⟩) ?_ ?_
      rotate_left
      · intro w'
        go_simp
        with_reducible rfl
      rotate_left
      · simp only [Act.put, List.setIfInBounds_toArray, List.set_cons_zero, List.set_cons_succ, i64_w, i32_w]
        rfl
      refine pure_ (i := 5) (N := some 71) (v := ?_) (a' := ?_) #[true, true, true, true, true, true, false, false, false, false, false, false, false, false, false, false, false, false, false, false, false] rfl rfl (by kernel_rfl) (fun _ _ _ h => h) (Or.inl ⟨by rfl, ?_⟩) ?_ ?_
      rotate_left
      · intro w'
        go_simp
        with_reducible rfl
      rotate_left
      · simp only [Act.put, List.setIfInBounds_toArray, List.set_cons_zero, List.set_cons_succ, i64_w, i32_w]
        rfl
      refine pure_ (i := 6) (N := some 72) (v := ?_) (a' := ?_) #[true, true, true, true, true, true, true, false, false, false, false, false, false, false, false, false, false, false, false, false, false] rfl rfl (by kernel_rfl) (fun _ _ _ h => h) (Or.inl ⟨by rfl, ?_⟩) ?_ ?_
      rotate_left
      · intro w'
        go_simp
        with_reducible rfl
      rotate_left
      · simp only [Act.put, List.setIfInBounds_toArray, List.set_cons_zero, List.set_cons_succ, i64_w, i32_w]
        rfl
      refine pure_ (i := 7) (N := some 73) (v := ?_) (a' := ?_) #[true, true, true, true, true, true, true, true, false, false, false, false, false, false, false, false, false, false, false, false, false] rfl rfl (by kernel_rfl) (fun _ _ _ h => h) (Or.inl ⟨by rfl, ?_⟩) ?_ ?_
      rotate_left
      · intro w'
        go_simp
        with_reducible rfl
      rotate_left
      · simp only [Act.put, List.setIfInBounds_toArray, List.set_cons_zero, List.set_cons_succ, i64_w, i32_w]
        rfl
      refine pure_ (i := 8) (N := some 74) (v := ?_) (a' := ?_) #[true, true, true, true, true, true, true, true, true, false, false, false, false, false, false, false, false, false, false, false, false] rfl rfl (by kernel_rfl) (fun _ _ _ h => h) (Or.inl ⟨by rfl, ?_⟩) ?_ ?_
      rotate_left
      · intro w'
        go_simp
        with_reducible rfl
      rotate_left
      · simp only [Act.put, List.setIfInBounds_toArray, List.set_cons_zero, List.set_cons_succ, i64_w, i32_w]
        rfl
      refine one_ (i := 9) (N := some 75) #[true, true, true, true, true, true, true, true, true, true, false, false, false, false, false, false, false, false, false, false, false] rfl rfl (by kernel_rfl) (by decide) (fun K hK => ?_)
      refine goes_ Try.func34 (by kernel_rfl) rfl #[ptrR g3, ptrR g4] (by rfl) rfl rfl (by simp only [List.map_toArray, List.map_cons, List.map_nil]; rfl) ?_
      with_reducible refine (runs_same_yes g3 g3 g4 g4 u _ hHeld.2.2.2.2.2.2.1 hHeld.2.2.2.2.2.2.2).mono ?_
      rintro e w30 ⟨rfl, hb⟩
      refine ⟨_, rfl, ?_⟩
      refine hK.out _ _ ⟨(below_step hHeld.1 hb), (hHeld.2.1.keep hb), (hHeld.2.2.1.keep hb), (hHeld.2.2.2.1.keep hb), (hHeld.2.2.2.2.1.keep hb), (hHeld.2.2.2.2.2.1.keep hb), (hHeld.2.2.2.2.2.2.1.keep hb), (hHeld.2.2.2.2.2.2.2.keep hb)⟩ (fun hHeld => ?_)
      clear hK K
      refine norm_ (a' := ?_) ?_ ?_
      rotate_left
      · show Act.put _ (some 75) _ = _
        simp only [Act.put, List.setIfInBounds_toArray, List.set_cons_zero, List.set_cons_succ, i64_w, i32_w]
        rfl
      refine pure_ (i := 10) (N := some 76) (v := ?_) (a' := ?_) #[true, true, true, true, true, true, true, true, true, true, true, false, false, false, false, false, false, false, false, false, false] rfl rfl (by kernel_rfl) (fun _ _ _ h => h) (Or.inl ⟨by rfl, ?_⟩) ?_ ?_
      rotate_left
      · intro w'
        go_simp
        with_reducible rfl
      rotate_left
      · simp only [Act.put, List.setIfInBounds_toArray, List.set_cons_zero, List.set_cons_succ, i64_w, i32_w]
        rfl
      refine pure_ (i := 11) (N := some 77) (v := ?_) (a' := ?_) #[true, true, true, true, true, true, true, true, true, true, true, true, false, false, false, false, false, false, false, false, false] rfl rfl (by kernel_rfl) (fun _ _ _ h => h) (Or.inl ⟨by rfl, ?_⟩) ?_ ?_
      rotate_left
      · intro w'
        go_simp
        with_reducible rfl
      rotate_left
      · simp only [Act.put, List.setIfInBounds_toArray, List.set_cons_zero, List.set_cons_succ, i64_w, i32_w]
        rfl
      refine pure_ (i := 12) (N := some 78) (v := ?_) (a' := ?_) #[true, true, true, true, true, true, true, true, true, true, true, true, true, false, false, false, false, false, false, false, false] rfl rfl (by kernel_rfl) (fun _ _ _ h => h) (Or.inl ⟨by rfl, ?_⟩) ?_ ?_
      rotate_left
      · intro w'
        go_simp
        with_reducible rfl
      rotate_left
      · simp only [Act.put, List.setIfInBounds_toArray, List.set_cons_zero, List.set_cons_succ, i64_w, i32_w]
        rfl
      refine pure_ (i := 13) (N := some 79) (v := ?_) (a' := ?_) #[true, true, true, true, true, true, true, true, true, true, true, true, true, true, false, false, false, false, false, false, false] rfl rfl (by kernel_rfl) (fun _ _ _ h => h) (Or.inl ⟨by rfl, ?_⟩) ?_ ?_
      rotate_left
      · intro w'
        go_simp
        with_reducible rfl
      rotate_left
      · simp only [Act.put, List.setIfInBounds_toArray, List.set_cons_zero, List.set_cons_succ, i64_w, i32_w]
        rfl
      refine pure_ (i := 14) (N := some 80) (v := ?_) (a' := ?_) #[true, true, true, true, true, true, true, true, true, true, true, true, true, true, true, false, false, false, false, false, false] rfl rfl (by kernel_rfl) (fun _ _ _ h => h) (Or.inl ⟨by rfl, ?_⟩) ?_ ?_
      rotate_left
      · intro w'
        go_simp
        with_reducible rfl
      rotate_left
      · simp only [Act.put, List.setIfInBounds_toArray, List.set_cons_zero, List.set_cons_succ, i64_w, i32_w]
        rfl
      refine take_ (i := 16) (N := some 82) (v := ?_) (a' := ?_) #[true, true, true, true, true, true, true, true, true, true, true, true, true, true, true, false, true, false, false, false, false] rfl rfl (by kernel_rfl) (fun _ _ _ h => h) (Or.inl ⟨by rfl, ?_⟩) hHeld ?_ ?_
      rotate_left
      · rintro w' ⟨s0, s1, s2, s3, s4, s5, s6, s7⟩
        refine row_yields 30 (.tmp 5) ?_ gx ?_ 30 (setArr sa) (0, 0) _ s1.hd Try.underlying30 rfl (by rw [setArr_size, hla.out] <;> exact info30)
        · rfl
        · rfl
      rotate_left
      · simp only [Act.put, List.setIfInBounds_toArray, List.set_cons_zero, List.set_cons_succ, i64_w, i32_w]
        rfl
      refine take_ (i := 17) (N := some 83) (v := ?_) (a' := ?_) #[true, true, true, true, true, true, true, true, true, true, true, true, true, true, true, false, true, true, false, false, false] rfl rfl (by kernel_rfl) (fun _ _ _ h => h) (Or.inl ⟨by rfl, ?_⟩) hHeld ?_ ?_
      rotate_left
      · rintro w' ⟨s0, s1, s2, s3, s4, s5, s6, s7⟩
        refine row_yields 30 (.tmp 6) ?_ (gx + 1) ?_ 30 (setArr sb) (0, 0) _ s2.hd Try.underlying30 rfl (by rw [setArr_size, hlb.out] <;> exact info30)
        · rfl
        · rfl
      rotate_left
      · simp only [Act.put, List.setIfInBounds_toArray, List.set_cons_zero, List.set_cons_succ, i64_w, i32_w]
        rfl
      refine pure_ (i := 18) (N := some 84) (v := ?_) (a' := ?_) #[true, true, true, true, true, true, true, true, true, true, true, true, true, true, true, false, true, true, true, false, false] rfl rfl (by kernel_rfl) (fun _ _ _ h => h) (Or.inl ⟨by rfl, ?_⟩) ?_ ?_
      rotate_left
      · intro w'
        go_simp
        with_reducible rfl
      rotate_left
      · simp only [Act.put, List.setIfInBounds_toArray, List.set_cons_zero, List.set_cons_succ, i64_w, i32_w]
        rfl
      refine one_ (i := 15) (N := some 81) #[true, true, true, true, true, true, true, true, true, true, true, true, true, true, true, true, true, true, true, false, false] rfl rfl (by kernel_rfl) (by decide) (fun K hK => ?_)
      refine goes_ Try.func34 (by kernel_rfl) rfl #[ptrR g1, ptrR g2] (by rfl) rfl rfl (by simp only [List.map_toArray, List.map_cons, List.map_nil]; rfl) ?_
      with_reducible refine (sets_same g1 g1 g2 g2 sa sb q hla.out hlb.out Hq.out _ hHeld.2.2.2.2.1 hHeld.2.2.2.2.2.1).mono ?_
      rintro e w31 ⟨rfl, hb⟩
      refine ⟨_, rfl, ?_⟩
      refine hK.out _ _ ⟨(below_step hHeld.1 hb), (hHeld.2.1.keep hb), (hHeld.2.2.1.keep hb), (hHeld.2.2.2.1.keep hb), (hHeld.2.2.2.2.1.keep hb), (hHeld.2.2.2.2.2.1.keep hb), (hHeld.2.2.2.2.2.2.1.keep hb), (hHeld.2.2.2.2.2.2.2.keep hb)⟩ (fun hHeld => ?_)
      clear hK K
      refine norm_ (a' := ?_) ?_ ?_
      rotate_left
      · show Act.put _ (some 81) _ = _
        simp only [Act.put, List.setIfInBounds_toArray, List.set_cons_zero, List.set_cons_succ, i64_w, i32_w]
        rfl
      refine pure_ (i := 19) (N := some 85) (v := ?_) (a' := ?_) #[true, true, true, true, true, true, true, true, true, true, true, true, true, true, true, true, true, true, true, true, false] rfl rfl (by kernel_rfl) (fun _ _ _ h => h) (Or.inl ⟨by rfl, ?_⟩) ?_ ?_
      rotate_left
      · intro w'
        go_simp
        with_reducible rfl
      rotate_left
      · simp only [Act.put, List.setIfInBounds_toArray, List.set_cons_zero, List.set_cons_succ, i64_w, i32_w]
        rfl
      refine pure_ (i := 20) (N := some 86) (v := ?_) (a' := ?_) #[true, true, true, true, true, true, true, true, true, true, true, true, true, true, true, true, true, true, true, true, true] rfl rfl (by kernel_rfl) (fun _ _ _ h => h) (Or.inl ⟨by rfl, ?_⟩) ?_ ?_
      rotate_left
      · intro w'
        go_simp
        with_reducible rfl
      rotate_left
      · simp only [Act.put, List.setIfInBounds_toArray, List.set_cons_zero, List.set_cons_succ, i64_w, i32_w]
        rfl
      refine done_ (by kernel_rfl) ?_
      replace HB := Aside0.mk hHeld.1
      replace SA := Aside0.mk hHeld.2.1
      replace SB := Aside0.mk hHeld.2.2.1
      replace SC := Aside0.mk hHeld.2.2.2.1
      replace R := Aside0.mk hHeld.2.2.2.2.1
      replace S := Aside0.mk hHeld.2.2.2.2.2.1
      replace U := Aside0.mk hHeld.2.2.2.2.2.2.1
      replace V := Aside0.mk hHeld.2.2.2.2.2.2.2
      clear hHeld
      clear hE
      clear SA SB S
      have HK_new := Aside0.mk (KeptAt.new w31 w.heap.size HB.out.size)
      have GE_HK : Aside0 (w.heap.size ≤ w31.heap.size) := ⟨HB.out.size⟩
      replace HB := Aside0.mk (below_alloc HB.out (.cells (bookC (.slice none 0 0) (.slice none 0 0) (.slice none 0 0) (.slice none 0 0) (.slice none 0 0) (.slice none 0 0)) 47))
      replace SC := Aside0.mk (SC.out.keep (below_alloc (Below.refl _ _) (.cells (bookC (.slice none 0 0) (.slice none 0 0) (.slice none 0 0) (.slice none 0 0) (.slice none 0 0) (.slice none 0 0)) 47)))
      replace R := Aside0.mk (R.out.keep (below_alloc (Below.refl _ _) (.cells (bookC (.slice none 0 0) (.slice none 0 0) (.slice none 0 0) (.slice none 0 0) (.slice none 0 0) (.slice none 0 0)) 47)))
      replace U := Aside0.mk (U.out.keep (below_alloc (Below.refl _ _) (.cells (bookC (.slice none 0 0) (.slice none 0 0) (.slice none 0 0) (.slice none 0 0) (.slice none 0 0) (.slice none 0 0)) 47)))
      replace V := Aside0.mk (V.out.keep (below_alloc (Below.refl _ _) (.cells (bookC (.slice none 0 0) (.slice none 0 0) (.slice none 0 0) (.slice none 0 0) (.slice none 0 0) (.slice none 0 0)) 47)))
      go_wp2_with fail
      refine calls_abs (fun X => Below w.heap.size w X ∧ Blk X gy 30 (setArr u) ∧ RunsAt X g1 g1 (spansOf sa) ∧ RunsAt X g3 g3 (spansOf u) ∧ RunsAt X g4 g4 (spansOf u) ∧ KeptAt X w.heap.size w31.heap.size (fun k => X.heap.size ≤ k) ([]) ([]) ([])) ⟨HB.out, SC.out, R.out, U.out, V.out, HK_new.out.top⟩ ?_
      rintro w8 ⟨h_HB, h_SC, h_R, h_U, h_V, h_HK⟩
      replace HB := Aside0.mk h_HB
      replace SC := Aside0.mk h_SC
      replace R := Aside0.mk h_R
      replace U := Aside0.mk h_U
      replace V := Aside0.mk h_V
      have HK := Aside0.mk h_HK
      clear h_HB h_SC h_R h_U h_V h_HK
      clear HK_new
      generalize w31.heap.size = gB at *
      refine (runs_all g3 g3 _ (by have := spans_len u; omega) _ U.out).mono ?_
      rintro e w9 ⟨v, rfl, ho, hB⟩
      have FR_La : Aside0 (∀ k, Value.ownBlock v = some k → w8.heap.size ≤ k) := ⟨fun k hk => Kd.R_base (ho.to_R) k hk⟩
      have La := Aside0.mk (Kd.R_lower (ho.to_R) HB.out.size)
      clear ho
      replace HB := Aside0.mk (below_step HB.out hB)
      replace SC := Aside0.mk (SC.out.keep hB)
      replace R := Aside0.mk (R.out.keep hB)
      replace U := Aside0.mk (U.out.keep hB)
      replace V := Aside0.mk (V.out.keep hB)
      replace HK := Aside0.mk (HK.out.keep hB)
      clear hB
      obtain ⟨A1, c1, hve, hc0, hc1⟩ := Kd.R_reads La.out
      subst hve
      have HC_La := Aside0.mk hc0
      clear hc0 hc1
      obtain ⟨cs0, hkb0⟩ := HK.out.book
      have hkb := Aside0.mk hkb0
      clear hkb0
      go_wp2_with fail
      refine (kept_S gB w.heap.size _ _ _ _ _ _ _ HK.out La.out (by have := spans_len u; omega) (by simp) FR_La.out HB.out.size).mono ?_
      rintro e w10 ⟨rfl, hk, hfx⟩
      replace HB := Aside0.mk (HB.out.trans hfx.1)
      replace SC := Aside0.mk (hfx.blkT hkb.out SC.out (by decide) (by decide))
      replace R := Aside0.mk (hfx.runs hkb.out R.out (by decide) (by decide) (by decide) (by decide))
      replace U := Aside0.mk (hfx.runs hkb.out U.out (by decide) (by decide) (by decide) (by decide))
      replace V := Aside0.mk (hfx.runs hkb.out V.out (by decide) (by decide) (by decide) (by decide))
      replace La := Aside0.mk (hfx.Rr rfl hkb.out La.out (by decide) (by decide))
      clear hfx
      replace HK := Aside0.mk hk.top
      clear hk hkb cs0
      go_wp2_with fail
      refine (runs_all g4 g4 _ (by have := spans_len u; omega) _ V.out).mono ?_
      rintro e w11 ⟨v, rfl, ho, hB⟩
      have FR_Lb : Aside0 (∀ k, Value.ownBlock v = some k → w10.heap.size ≤ k) := ⟨fun k hk => Kd.R_base (ho.to_R) k hk⟩
      have Lb := Aside0.mk (Kd.R_lower (ho.to_R) HB.out.size)
      clear ho
      replace HB := Aside0.mk (below_step HB.out hB)
      replace SC := Aside0.mk (SC.out.keep hB)
      replace R := Aside0.mk (R.out.keep hB)
      replace U := Aside0.mk (U.out.keep hB)
      replace V := Aside0.mk (V.out.keep hB)
      replace HK := Aside0.mk (HK.out.keep hB)
      replace La := Aside0.mk (Kd.R_below La.out hB)
      clear hB
      obtain ⟨A2, c2, hve, hc0, hc1⟩ := Kd.R_reads Lb.out
      subst hve
      have HC_Lb := Aside0.mk hc0
      clear hc0 hc1
      obtain ⟨cs0, hkb0⟩ := HK.out.book
      have hkb := Aside0.mk hkb0
      clear hkb0
      go_wp2_with fail
      refine (kept_S gB w.heap.size _ _ _ _ _ _ _ HK.out Lb.out (by have := spans_len u; omega) (by simp) FR_Lb.out HB.out.size).mono ?_
      rintro e w12 ⟨rfl, hk, hfx⟩
      replace HB := Aside0.mk (HB.out.trans hfx.1)
      replace SC := Aside0.mk (hfx.blkT hkb.out SC.out (by decide) (by decide))
      replace R := Aside0.mk (hfx.runs hkb.out R.out (by decide) (by decide) (by decide) (by decide))
      replace U := Aside0.mk (hfx.runs hkb.out U.out (by decide) (by decide) (by decide) (by decide))
      replace V := Aside0.mk (hfx.runs hkb.out V.out (by decide) (by decide) (by decide) (by decide))
      replace La := Aside0.mk (hfx.Rr rfl hkb.out La.out (by decide) (by decide))
      replace Lb := Aside0.mk (hfx.Rr rfl hkb.out Lb.out (by decide) (by decide))
      clear hfx
      replace HK := Aside0.mk hk.top
      clear hk hkb cs0
      clear Lb V
      go_wp2_with (with_reducible refine wpList_load_row rfl 30 (.tmp 7) rfl gy rfl 30 _ (0, 0) _ SC.out.hd Try.underlying30 rfl (by rw [setArr_size, hul.out] <;> exact info30) ?_)
      refine (set_spans u hul.out _).mono ?_
      rintro e w13 ⟨v, rfl, ho, hB⟩
      have FR_Lc : Aside0 (∀ k, Value.ownBlock v = some k → w12.heap.size ≤ k) := ⟨fun k hk => Kd.R_base (ho.to_R) k hk⟩
      have Lc := Aside0.mk (Kd.R_lower (ho.to_R) HB.out.size)
      clear ho
      replace HB := Aside0.mk (below_step HB.out hB)
      replace SC := Aside0.mk (SC.out.keep hB)
      replace R := Aside0.mk (R.out.keep hB)
      replace U := Aside0.mk (U.out.keep hB)
      replace HK := Aside0.mk ((HK.out.keep hB).top)
      replace La := Aside0.mk (Kd.R_below La.out hB)
      clear hB
      obtain ⟨A3, c3, hve, hc0, hc1⟩ := Kd.R_reads Lc.out
      subst hve
      have HC_Lc := Aside0.mk hc0
      clear hc0 hc1
      go_wp2_with fail
      refine (same_S _ _ _ _ La.out Lc.out (by have := spans_len u; omega)).mono ?_
      rintro e w14 ⟨rfl, hB⟩
      replace HB := Aside0.mk (below_step HB.out hB)
      replace SC := Aside0.mk (SC.out.keep hB)
      replace R := Aside0.mk (R.out.keep hB)
      replace U := Aside0.mk (U.out.keep hB)
      replace HK := Aside0.mk ((HK.out.keep hB).top)
      replace La := Aside0.mk (Kd.R_below La.out hB)
      replace Lc := Aside0.mk (Kd.R_below Lc.out hB)
      clear hB
      clear La Lc
      go_wp2_with fail
      refine (runs_cnt g3 g3 u n hn.out _ U.out).mono ?_
      rintro e w15 ⟨rfl, hB⟩
      replace HB := Aside0.mk (below_step HB.out hB)
      replace SC := Aside0.mk (SC.out.keep hB)
      replace R := Aside0.mk (R.out.keep hB)
      replace U := Aside0.mk (U.out.keep hB)
      replace HK := Aside0.mk ((HK.out.keep hB).top)
      clear hB
      go_wp2_with fail
      refine (runs_cut g1 g1 _ a A c _ (spansOf_tidy sa) R.out (by have := R.out.lt; omega) (Kd.C_below CA.out HB.out) (off_lt CA.out GE_R.out)).mono ?_
      rintro e w16 ⟨rfl, hr, ho⟩
      rw [Cut.out] at hr
      generalize sumN (spansOf sa) - sumN (cutAllV (spansOf sa) a) = zz at *
      replace HB := Aside0.mk (below_only HB.out ho GE_R.out)
      replace SC := Aside0.mk (SC.out.onlyR ho R.out (by decide))
      replace U := Aside0.mk (U.out.onlyR ho NE_R_U.out.symm R.out)
      replace HK := Aside0.mk ((HK.out.onlyR ho R.out).top)
      clear ho
      replace R := Aside0.mk hr
      clear hr
      go_wp2_with fail
      refine (runs_both_nil g1 g1 [] _ trivial R.out).mono ?_
      rintro e w17 ⟨rfl, hr, hB⟩
      replace hr : RunsAt _ _ _ [] := hr
      have NE_R_N : Aside0 (g1 ≠ w16.heap.size) := ⟨by have := R.out.lt; omega⟩
      have NE_U_N : Aside0 (g3 ≠ w16.heap.size) := ⟨by have := U.out.lt; omega⟩
      have GE_N : Aside0 (w.heap.size ≤ w16.heap.size) := ⟨by have := HB.out.size; omega⟩
      replace HB := Aside0.mk (below_step HB.out hB)
      replace SC := Aside0.mk (SC.out.keep hB)
      replace R := Aside0.mk (R.out.keep hB)
      replace U := Aside0.mk (U.out.keep hB)
      replace HK := Aside0.mk ((HK.out.keep hB).top)
      clear hB
      have N := Aside0.mk hr
      clear hr
      generalize w16.heap.size = g5 at *
      go_wp2_with fail
      refine start_ (n := 24) (S := fun w' => Below w.heap.size w w' ∧ Blk w' gy 30 (setArr u) ∧ RunsAt w' g1 g1 ([]) ∧ RunsAt w' g3 g3 (spansOf u) ∧ RunsAt w' g5 g5 ([]) ∧ KeptAt w' w.heap.size gB (fun k => w'.heap.size ≤ k) ([]) ([] ++ [spansOf u] ++ [spansOf u]) ([])) (ds := [21]) #[false, false, false, false, false, false, false, false, false, false, false, false, false, false, false, false, false, false, false, false, false, false, false, false] (by kernel_rfl) rfl rfl ⟨(below_drew1 HB.out), (SC.out.keep (below_drew1 (Below.refl _ _))), (R.out.keep (below_drew1 (Below.refl _ _))), (U.out.keep (below_drew1 (Below.refl _ _))), (N.out.keep (below_drew1 (Below.refl _ _))), ((HK.out.keep (below_drew1 (Below.refl _ _))).top)⟩ (fun hHeld => ?_)
      refine pure_ (i := 0) (N := some 118) (v := ?_) (a' := ?_) #[true, false, false, false, false, false, false, false, false, false, false, false, false, false, false, false, false, false, false, false, false, false, false, false] rfl rfl (by kernel_rfl) (fun _ _ _ h => h) (Or.inl ⟨by rfl, ?_⟩) ?_ ?_
      rotate_left
      · intro w'
        go_simp
        with_reducible rfl
      rotate_left
      · simp only [Act.put, List.setIfInBounds_toArray, List.set_cons_zero, List.set_cons_succ, i64_w, i32_w]
        rfl
      refine one_ (i := 1) (N := some 119) #[true, true, false, false, false, false, false, false, false, false, false, false, false, false, false, false, false, false, false, false, false, false, false, false] rfl rfl (by kernel_rfl) (by decide) (fun K hK => ?_)
      refine goes_ Try.func33 (by kernel_rfl) rfl #[ptrR g1] (by rfl) rfl rfl (by simp only [List.map_toArray, List.map_cons, List.map_nil]; rfl) ?_
      with_reducible refine (runs_count0 g1 g1 _ hHeld.2.2.1).mono ?_
      rintro e w40 ⟨rfl, hb⟩
      refine ⟨_, rfl, ?_⟩
      refine hK.out _ _ ⟨(below_step hHeld.1 hb), (hHeld.2.1.keep hb), (hHeld.2.2.1.keep hb), (hHeld.2.2.2.1.keep hb), (hHeld.2.2.2.2.1.keep hb), ((hHeld.2.2.2.2.2.keep hb).top)⟩ (fun hHeld => ?_)
      clear hK K
      refine norm_ (a' := ?_) ?_ ?_
      rotate_left
      · show Act.put _ (some 119) _ = _
        simp only [Act.put, List.setIfInBounds_toArray, List.set_cons_zero, List.set_cons_succ, i64_w, i32_w]
        rfl
      refine pure_ (i := 2) (N := some 120) (v := ?_) (a' := ?_) #[true, true, true, false, false, false, false, false, false, false, false, false, false, false, false, false, false, false, false, false, false, false, false, false] rfl rfl (by kernel_rfl) (fun _ _ _ h => h) (Or.inl ⟨by rfl, ?_⟩) ?_ ?_
      rotate_left
      · intro w'
        go_simp
        with_reducible rfl
      rotate_left
      · simp only [Act.put, List.setIfInBounds_toArray, List.set_cons_zero, List.set_cons_succ, i64_w, i32_w]
        rfl
      refine pure_ (i := 3) (N := some 121) (v := ?_) (a' := ?_) #[true, true, true, true, false, false, false, false, false, false, false, false, false, false, false, false, false, false, false, false, false, false, false, false] rfl rfl (by kernel_rfl) (fun _ _ _ h => h) (Or.inl ⟨by rfl, ?_⟩) ?_ ?_
      rotate_left
      · intro w'
        go_simp
        with_reducible rfl
      rotate_left
      · simp only [Act.put, List.setIfInBounds_toArray, List.set_cons_zero, List.set_cons_succ, i64_w, i32_w]
        rfl
      refine pure_ (i := 4) (N := some 122) (v := ?_) (a' := ?_) #[true, true, true, true, true, false, false, false, false, false, false, false, false, false, false, false, false, false, false, false, false, false, false, false] rfl rfl (by kernel_rfl) (fun _ _ _ h => h) (Or.inl ⟨by rfl, ?_⟩) ?_ ?_
      rotate_left
      · intro w'
        go_simp
        with_reducible rfl
      rotate_left
      · simp only [Act.put, List.setIfInBounds_toArray, List.set_cons_zero, List.set_cons_succ, i64_w, i32_w]
        rfl
      refine take_ (i := 6) (N := some 124) (v := ?_) (a' := ?_) #[true, true, true, true, true, false, true, false, false, false, false, false, false, false, false, false, false, false, false, false, false, false, false, false] rfl rfl (by kernel_rfl) (fun _ _ _ h => h) (Or.inl ⟨by rfl, ?_⟩) hHeld ?_ ?_
      rotate_left
      · rintro w' ⟨s0, s1, s2, s3, s4, s5⟩
        refine row_yields 30 (.tmp 7) ?_ gy ?_ 30 (setArr u) (0, 0) _ s1.hd Try.underlying30 rfl (by rw [setArr_size, hul.out] <;> exact info30)
        · rfl
        · rfl
      rotate_left
      · simp only [Act.put, List.setIfInBounds_toArray, List.set_cons_zero, List.set_cons_succ, i64_w, i32_w]
        rfl
      refine one_ (i := 5) (N := some 123) #[true, true, true, true, true, true, true, false, false, false, false, false, false, false, false, false, false, false, false, false, false, false, false, false] rfl rfl (by kernel_rfl) (by decide) (fun K hK => ?_)
      refine goes_ Try.func33 (by kernel_rfl) rfl #[ptrR g3] (by rfl) rfl rfl (by simp only [List.map_toArray, List.map_cons, List.map_nil]; rfl) ?_
      with_reducible refine (runs_cnt g3 g3 u n hn.out _ hHeld.2.2.2.1).mono ?_
      rintro e w41 ⟨rfl, hb⟩
      refine ⟨_, rfl, ?_⟩
      refine hK.out _ _ ⟨(below_step hHeld.1 hb), (hHeld.2.1.keep hb), (hHeld.2.2.1.keep hb), (hHeld.2.2.2.1.keep hb), (hHeld.2.2.2.2.1.keep hb), ((hHeld.2.2.2.2.2.keep hb).top)⟩ (fun hHeld => ?_)
      clear hK K
      refine norm_ (a' := ?_) ?_ ?_
      rotate_left
      · show Act.put _ (some 123) _ = _
        simp only [Act.put, List.setIfInBounds_toArray, List.set_cons_zero, List.set_cons_succ, i64_w, i32_w]
        rfl
      refine one_ (i := 7) (N := some 125) #[true, true, true, true, true, true, true, true, false, false, false, false, false, false, false, false, false, false, false, false, false, false, false, false] rfl rfl (by kernel_rfl) (by decide) (fun K hK => ?_)
      refine goes_ Try.func25 (by kernel_rfl) rfl #[.agg (setArr u)] (by rfl) rfl rfl (by simp only [List.map_toArray, List.map_cons, List.map_nil]; rfl) ?_
      with_reducible refine (set_cnt u n hul.out hn.out _).mono ?_
      rintro e w42 ⟨rfl, hb⟩
      refine ⟨_, rfl, ?_⟩
      refine hK.out _ _ ⟨(below_step hHeld.1 hb), (hHeld.2.1.keep hb), (hHeld.2.2.1.keep hb), (hHeld.2.2.2.1.keep hb), (hHeld.2.2.2.2.1.keep hb), ((hHeld.2.2.2.2.2.keep hb).top)⟩ (fun hHeld => ?_)
      clear hK K
      refine norm_ (a' := ?_) ?_ ?_
      rotate_left
      · show Act.put _ (some 125) _ = _
        simp only [Act.put, List.setIfInBounds_toArray, List.set_cons_zero, List.set_cons_succ, i64_w, i32_w]
        rfl
      refine pure_ (i := 8) (N := some 126) (v := ?_) (a' := ?_) #[true, true, true, true, true, true, true, true, true, false, false, false, false, false, false, false, false, false, false, false, false, false, false, false] rfl rfl (by kernel_rfl) (fun _ _ _ h => h) (Or.inl ⟨by rfl, ?_⟩) ?_ ?_
      rotate_left
      · intro w'
        go_simp
        with_reducible rfl
      rotate_left
      · simp only [Act.put, List.setIfInBounds_toArray, List.set_cons_zero, List.set_cons_succ, i64_w, i32_w]
        rfl
      refine pure_ (i := 9) (N := some 127) (v := ?_) (a' := ?_) #[true, true, true, true, true, true, true, true, true, true, false, false, false, false, false, false, false, false, false, false, false, false, false, false] rfl rfl (by kernel_rfl) (fun _ _ _ h => h) (Or.inl ⟨by rfl, ?_⟩) ?_ ?_
      rotate_left
      · intro w'
        go_simp
        with_reducible rfl
      rotate_left
      · simp only [Act.put, List.setIfInBounds_toArray, List.set_cons_zero, List.set_cons_succ, i64_w, i32_w]
        rfl
      refine pure_ (i := 10) (N := some 128) (v := ?_) (a' := ?_) #[true, true, true, true, true, true, true, true, true, true, true, false, false, false, false, false, false, false, false, false, false, false, false, false] rfl rfl (by kernel_rfl) (fun _ _ _ h => h) (Or.inl ⟨by rfl, ?_⟩) ?_ ?_
      rotate_left
      · intro w'
        go_simp
        with_reducible rfl
      rotate_left
      · simp only [Act.put, List.setIfInBounds_toArray, List.set_cons_zero, List.set_cons_succ, i64_w, i32_w]
        rfl
      refine pure_ (i := 11) (N := some 129) (v := ?_) (a' := ?_) #[true, true, true, true, true, true, true, true, true, true, true, true, false, false, false, false, false, false, false, false, false, false, false, false] rfl rfl (by kernel_rfl) (fun _ _ _ h => h) (Or.inl ⟨by rfl, ?_⟩) ?_ ?_
      rotate_left
      · intro w'
        go_simp
        with_reducible rfl
      rotate_left
      · simp only [Act.put, List.setIfInBounds_toArray, List.set_cons_zero, List.set_cons_succ, i64_w, i32_w]
        rfl
      refine pure_ (i := 12) (N := some 130) (v := ?_) (a' := ?_) #[true, true, true, true, true, true, true, true, true, true, true, true, true, false, false, false, false, false, false, false, false, false, false, false] rfl rfl (by kernel_rfl) (fun _ _ _ h => h) (Or.inl ⟨by rfl, ?_⟩) ?_ ?_
      rotate_left
      · intro w'
        go_simp
        with_reducible rfl
      rotate_left
      · simp only [Act.put, List.setIfInBounds_toArray, List.set_cons_zero, List.set_cons_succ, i64_w, i32_w]
        rfl
      refine pure_ (i := 13) (N := some 131) (v := ?_) (a' := ?_) #[true, true, true, true, true, true, true, true, true, true, true, true, true, true, false, false, false, false, false, false, false, false, false, false] rfl rfl (by kernel_rfl) (fun _ _ _ h => h) (Or.inl ⟨by rfl, ?_⟩) ?_ ?_
      rotate_left
      · intro w'
        go_simp
        with_reducible rfl
      rotate_left
      · simp only [Act.put, List.setIfInBounds_toArray, List.set_cons_zero, List.set_cons_succ, i64_w, i32_w]
        rfl
      refine pure_ (i := 14) (N := some 132) (v := ?_) (a' := ?_) #[true, true, true, true, true, true, true, true, true, true, true, true, true, true, true, false, false, false, false, false, false, false, false, false] rfl rfl (by kernel_rfl) (fun _ _ _ h => h) (Or.inl ⟨by rfl, ?_⟩) ?_ ?_
      rotate_left
      · intro w'
        go_simp
        with_reducible rfl
      rotate_left
      · simp only [Act.put, List.setIfInBounds_toArray, List.set_cons_zero, List.set_cons_succ, i64_w, i32_w]
        rfl
      refine pure_ (i := 15) (N := some 133) (v := ?_) (a' := ?_) #[true, true, true, true, true, true, true, true, true, true, true, true, true, true, true, true, false, false, false, false, false, false, false, false] rfl rfl (by kernel_rfl) (fun _ _ _ h => h) (Or.inl ⟨by rfl, ?_⟩) ?_ ?_
      rotate_left
      · intro w'
        go_simp
        with_reducible rfl
      rotate_left
      · simp only [Act.put, List.setIfInBounds_toArray, List.set_cons_zero, List.set_cons_succ, i64_w, i32_w]
        rfl
      refine one_ (i := 16) (N := some 134) #[true, true, true, true, true, true, true, true, true, true, true, true, true, true, true, true, true, false, false, false, false, false, false, false] rfl rfl (by kernel_rfl) (by decide) (fun K hK => ?_)
      refine goes_ Try.func33 (by kernel_rfl) rfl #[ptrR g5] (by rfl) rfl rfl (by simp only [List.map_toArray, List.map_cons, List.map_nil]; rfl) ?_
      with_reducible refine (runs_count0 g5 g5 _ hHeld.2.2.2.2.1).mono ?_
      rintro e w43 ⟨rfl, hb⟩
      refine ⟨_, rfl, ?_⟩
      refine hK.out _ _ ⟨(below_step hHeld.1 hb), (hHeld.2.1.keep hb), (hHeld.2.2.1.keep hb), (hHeld.2.2.2.1.keep hb), (hHeld.2.2.2.2.1.keep hb), ((hHeld.2.2.2.2.2.keep hb).top)⟩ (fun hHeld => ?_)
      clear hK K
      refine norm_ (a' := ?_) ?_ ?_
      rotate_left
      · show Act.put _ (some 134) _ = _
        simp only [Act.put, List.setIfInBounds_toArray, List.set_cons_zero, List.set_cons_succ, i64_w, i32_w]
        rfl
      refine pure_ (i := 17) (N := some 135) (v := ?_) (a' := ?_) #[true, true, true, true, true, true, true, true, true, true, true, true, true, true, true, true, true, true, false, false, false, false, false, false] rfl rfl (by kernel_rfl) (fun _ _ _ h => h) (Or.inl ⟨by rfl, ?_⟩) ?_ ?_
      rotate_left
      · intro w'
        go_simp
        with_reducible rfl
      rotate_left
      · simp only [Act.put, List.setIfInBounds_toArray, List.set_cons_zero, List.set_cons_succ, i64_w, i32_w]
        rfl
      refine pure_ (i := 18) (N := some 136) (v := ?_) (a' := ?_) #[true, true, true, true, true, true, true, true, true, true, true, true, true, true, true, true, true, true, true, false, false, false, false, false] rfl rfl (by kernel_rfl) (fun _ _ _ h => h) (Or.inl ⟨by rfl, ?_⟩) ?_ ?_
      rotate_left
      · intro w'
        go_simp
        with_reducible rfl
      rotate_left
      · simp only [Act.put, List.setIfInBounds_toArray, List.set_cons_zero, List.set_cons_succ, i64_w, i32_w]
        rfl
      refine pure_ (i := 19) (N := some 137) (v := ?_) (a' := ?_) #[true, true, true, true, true, true, true, true, true, true, true, true, true, true, true, true, true, true, true, true, false, false, false, false] rfl rfl (by kernel_rfl) (fun _ _ _ h => h) (Or.inl ⟨by rfl, ?_⟩) ?_ ?_
      rotate_left
      · intro w'
        go_simp
        with_reducible rfl
      rotate_left
      · simp only [Act.put, List.setIfInBounds_toArray, List.set_cons_zero, List.set_cons_succ, i64_w, i32_w]
        rfl
      refine pure_ (i := 20) (N := some 138) (v := ?_) (a' := ?_) #[true, true, true, true, true, true, true, true, true, true, true, true, true, true, true, true, true, true, true, true, true, false, false, false] rfl rfl (by kernel_rfl) (fun _ _ _ h => h) (Or.inl ⟨by rfl, ?_⟩) ?_ ?_
      rotate_left
      · intro w'
        go_simp
        with_reducible rfl
      rotate_left
      · simp only [Act.put, List.setIfInBounds_toArray, List.set_cons_zero, List.set_cons_succ, i64_w, i32_w]
        rfl
      refine last_ (i := 21) (N := some 139) #[true, true, true, true, true, true, true, true, true, true, true, true, true, true, true, true, true, true, true, true, true, true, false, false] rfl rfl (by kernel_rfl) (by decide) (fun K hK => ?_)
      refine goes_ Try.func29 (by kernel_rfl) rfl #[.pointer (some ⟨gB, 0, none⟩)] (by rfl) rfl rfl (by simp only [List.map_toArray, List.map_cons, List.map_nil]; rfl) ?_
      with_reducible refine (kept_apart gB w.heap.size _ _ _ _ _ hHeld.2.2.2.2.2 ⟨by simp, by simp⟩ ⟨by simp, fun l hl => by simp at hl; subst hl; have := spans_len u; omega⟩ ⟨by simp, by simp⟩ (hHeld.1.size)).mono ?_
      rintro e w44 ⟨rfl, hb44⟩
      refine ⟨_, rfl, ?_⟩
      refine hK.out _ _ ?_
      clear hK K
      refine norm_ (a' := ?_) ?_ ?_
      rotate_left
      · show Act.put _ (some 139) _ = _
        simp only [Act.put, List.setIfInBounds_toArray, List.set_cons_zero, List.set_cons_succ, i64_w, i32_w]
        rfl
      refine pure_ (i := 22) (N := some 140) (v := ?_) (a' := ?_) #[true, true, true, true, true, true, true, true, true, true, true, true, true, true, true, true, true, true, true, true, true, true, true, false] rfl rfl (by kernel_rfl) (fun _ _ _ h => h) (Or.inl ⟨by rfl, ?_⟩) ?_ ?_
      rotate_left
      · intro w'
        go_simp
        with_reducible rfl
      rotate_left
      · simp only [Act.put, List.setIfInBounds_toArray, List.set_cons_zero, List.set_cons_succ, i64_w, i32_w]
        rfl
      refine pure_ (i := 23) (N := some 4) (v := ?_) (a' := ?_) #[true, true, true, true, true, true, true, true, true, true, true, true, true, true, true, true, true, true, true, true, true, true, true, true] rfl rfl (by kernel_rfl) (fun _ _ _ h => h) (Or.inl ⟨by rfl, ?_⟩) ?_ ?_
      rotate_left
      · intro w'
        go_simp
        with_reducible rfl
      rotate_left
      · simp only [Act.put, List.setIfInBounds_toArray, List.set_cons_zero, List.set_cons_succ, i64_w, i32_w]
        rfl
      refine done_ (by kernel_rfl) ?_
      replace HB := Aside0.mk hHeld.1
      replace SC := Aside0.mk hHeld.2.1
      replace R := Aside0.mk hHeld.2.2.1
      replace U := Aside0.mk hHeld.2.2.2.1
      replace N := Aside0.mk hHeld.2.2.2.2.1
      replace HK := Aside0.mk hHeld.2.2.2.2.2
      clear hHeld
      go_wp2_with fail
      go_ret
      exact ⟨rfl, HB.out.trans hb44⟩
theorem walk (A : Option Addr) (c : Nat) (a : List SP) (B : Option Addr) (d : Nat) (b : List SP) (w : World) (hc : a.length ≤ c) (hA : Kd.C k24 w A a.length a) (hd : b.length ≤ d) (hB : Kd.C k24 w B b.length b) :
    Calls Try.prog 10 #[.slice A a.length c, .slice B b.length d] w fun e w' => e = .returned (.bool true) ∧ Below w.heap.size w w' := by
  by_cases h : 30 < (a.length : Int) ∨ (¬ 30 < (a.length : Int) ∧ 30 < (b.length : Int))
  · exact early A B c d a b w h
  · exact main A B c d a b w (by omega) (by omega) hc hd hA hB
end Go.Proofs.Ytjbimnicnehnaaa.WRunsMeet
end
