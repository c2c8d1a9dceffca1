/- RunsNext, walked: from one span to the next all blocks are met, rising, each once. -/
import Derived.Test.YtjbimnicnehnaaaRunsH
import Derived.Test.YtjbimnicnehnaaaAbs
import Derived.Deep.WholeRow
import Derived.Test.YtjbimnicnehnaaaAx0
namespace Go.Proofs.Ytjbimnicnehnaaa.WRunsNext
open Go.RowKit Go.Proofs.YtjbimnicnehnaaaW.PrintWords Go.Proofs.YtjbimnicnehnaaaW.PrintLast Go.Proofs.YtjbimnicnehnaaaW.PrintMore Go.Proofs.Ytjbimnicnehnaaa.A Go.Proofs.Ytjbimnicnehnaaa.Hand
set_option linter.unusedVariables false
set_option linter.unusedSimpArgs false
attribute [local go_sem] max2_int min2_int max_two min_two max_three min_three max_four min_four
set_option maxRecDepth 100000 in
theorem early (A : Option Addr) (c : Nat) (a : List S24) (w : World) (h : 40 < (a.length : Int)) :
    Calls Try.prog 8 #[.slice A a.length c] w fun e w' => e = .returned (.bool true) ∧ Below w.heap.size w w' := by
  go_enter Try.func8, Try.ntmps8
  go_wp2_with (go_at_call 30; refine (alive2 _).mono ?_; rintro e w1 ⟨rfl, hB⟩)
  go_ret
  exact ⟨rfl, hB⟩
theorem sorted : ∀ {l : List S24} {lo : Int}, Tidy lo l → (∀ j, (h : j < l.length) → lo ≤ l[j].f0) ∧ ∀ i j, (h : i < l.length) → (h' : j < l.length) → i < j → l[i].f0 + l[i].f1 + 1 ≤ l[j].f0
  | [], lo, _ => ⟨fun j h => by simp at h, fun i j h => by simp at h⟩
  | x :: l, lo, ⟨h1, h2, h3, h4⟩ => by
    obtain ⟨a, b⟩ := sorted h4
    refine ⟨fun j h => ?_, fun i j h h' hij => ?_⟩
    · cases j with
      | zero => exact h1
      | succ j => have := a j (by simpa using h); simp only [List.getElem_cons_succ]; omega
    · cases j with
      | zero => omega
      | succ j =>
        cases i with
        | zero => exact a j (by simpa using h')
        | succ i => exact b i j (by simpa using h) (by simpa using h') (by omega)
/-- So far: the spans ahead have ended, the others begin behind. -/
def Met (l : List S24) (i : Nat) (F : Int) : Prop := 0 ≤ F ∧ F ≤ 64 ∧ (∀ j, (h : j < l.length) → j < i → l[j].f0 + l[j].f1 ≤ F) ∧ (∀ j, (h : j < l.length) → i ≤ j → F ≤ l[j].f0)
theorem Met.zero {l : List S24} (h : Tidy 0 l) : Met l 0 0 := ⟨by omega, by omega, fun j _ h => by omega, fun j hj _ => (sorted h).1 j hj⟩
theorem Met.succ {l : List S24} (hT : Tidy 0 l) {i : Nat} {F : Int} (h : Met l i F) (hi : i < l.length) : Met l (i + 1) (l[i].f0 + l[i].f1) := by
  obtain ⟨h1, h2, h3, h4⟩ := h
  have hw := hT.whole (Int.le_refl _) _ (List.getElem_mem hi)
  refine ⟨by omega, by omega, fun j hj hji => ?_, fun j hj hij => ?_⟩
  · by_cases e : j = i
    · subst e; omega
    · have := h3 j hj (by omega); have := h4 i hi (Nat.le_refl _); omega
  · have := (sorted hT).2 i j hi hj (by omega); omega
theorem Met.next {l : List S24} (hT : Tidy 0 l) {i : Nat} {F : Int} (h : Met l i F) (hi : i < l.length) : nextV l F = (l[i].f0, l[i].f1, true) ∧ F ≤ l[i].f0 := by
  obtain ⟨h1, h2, h3, h4⟩ := h
  have hw := hT.whole (Int.le_refl _) _ (List.getElem_mem hi)
  have h5 := h4 i hi (Nat.le_refl _)
  rw [nextV_at l F i hi (fun j hj hji => by have := h3 j hj hji; omega) (by omega), show max l[i].f0 F = l[i].f0 by omega, show l[i].f0 + l[i].f1 - l[i].f0 = l[i].f1 by omega]
  exact ⟨rfl, h5⟩
theorem Met.done {l : List S24} {F : Int} (h : Met l l.length F) : nextV l F = (0, 0, false) := nextV_none l F (fun j hj => by have := h.2.2.1 j hj hj; omega)
theorem Met.here {l : List S24} (hT : Tidy 0 l) {i : Nat} {F : Int} (h : Met l i F) (hi : i < l.length) (k : Int) (h0 : F ≤ k) (h1 : k < l[i].f0 + l[i].f1) : mem l k ↔ l[i].f0 ≤ k := by
  obtain ⟨g1, g2, g3, g4⟩ := h
  constructor
  · rintro ⟨x, hx, hk⟩
    obtain ⟨j, hj, rfl⟩ := List.getElem_of_mem hx
    unfold inSp at hk
    by_cases h2 : j < i
    · have := g3 j hj h2; omega
    · by_cases e : j = i
      · subst e; exact hk.1
      · have := (sorted hT).2 i j hi hj (by omega); omega
  · intro h2
    exact ⟨_, List.getElem_mem hi, h2, h1⟩
theorem short : ∀ {l : List S24} {lo : Int}, lo ≤ 65 → Tidy lo l → 2 * (l.length : Int) ≤ 66 - lo
  | [], lo, h, _ => by simp; omega
  | x :: l, lo, h, ⟨h1, h2, h3, h4⟩ => by have := short (by omega) h4; rw [List.length_cons]; omega
theorem putS_mem : ∀ (l : List S24) (s : List Bool) (k : Nat), s.length = 64 → k < 64 → ((putS s l true).getD k false = true ↔ s.getD k false = true ∨ wmem l (k : Int))
  | [], s, k, hs, hk => by show s.getD k false = true ↔ _; unfold wmem; simp
  | x :: l, s, k, hs, hk => by
    show (putS (putOne s x true) l true).getD k false = true ↔ _
    rw [putS_mem l _ k ((putOne_length s x true).trans hs) hk, putOne_get _ _ _ _ hs]
    unfold wmem inSp
    by_cases h : wh x.f0 x.f1 ∧ x.f0 ≤ (k : Int) ∧ (k : Int) < x.f0 + x.f1
    · rw [if_pos h]
      constructor
      · intro _; exact .inr ⟨x, List.mem_cons_self, h⟩
      · intro _; exact .inl rfl
    · rw [if_neg h]
      constructor
      · rintro (h' | ⟨y, h1, h2⟩)
        · exact .inl h'
        · exact .inr ⟨y, List.mem_cons_of_mem _ h1, h2⟩
      · rintro (h' | ⟨y, h1, h2⟩)
        · exact .inl h'
        · rcases List.mem_cons.1 h1 with rfl | h1
          · exact absurd h2 h
          · exact .inr ⟨y, h1, h2⟩
theorem put_mem (l : List S24) (k : Nat) (hk : k < 64) : mem (putV [] l) (k : Int) ↔ (putS none64 l true).getD k false = true := by
  rw [putS_mem l none64 k (by simp) hk, none64_get, (putV_nil l).2]; simp
set_option maxRecDepth 100000 in
set_option maxHeartbeats 1600000 in
theorem main (A : Option Addr) (c : Nat) (a : List S24) (w : World) (ha : a.length ≤ 40) (hc : a.length ≤ c) (hA : Kd.C k24 w A a.length a) :
    Calls Try.prog 8 #[.slice A a.length c] w fun e w' => e = .returned (.bool true) ∧ Below w.heap.size w w' := by
  have CA := Aside0.mk hA
  have Hc := Aside0.mk hc
  have i1 : (a.length : Int) ≤ 40 := by omega
  have n1 : ¬ (40 : Int) < (a.length : Int) := by omega
  have TL := Aside0.mk (putV_nil a).1
  have HM := Aside0.mk (fun k hk => put_mem a k hk)
  have HS := Aside0.mk (sum_set TL.out (fun k hk => put_mem a k hk))
  have hls : Aside0 ((putS none64 a true).length = 64) := ⟨(putS_length _ _ _).trans (by simp)⟩
  have HB0 := Aside0.mk (Below.refl w.heap.size w)
  clear hA hc ha
  go_enter Try.func8, Try.ntmps8
  go_wp2_with fail
  refine (alive2 _).mono ?_
  rintro e w1 ⟨rfl, hB⟩
  have HB1 := Aside0.mk (below_step HB0.out hB)
  clear hB HB0
  go_wp2_with fail
  refine (runs_of a A c _ (Kd.C_below CA.out HB1.out)).mono ?_
  rintro e w2 ⟨rfl, hr, hB⟩
  have GE_R : Aside0 (w.heap.size ≤ w1.heap.size) := ⟨HB1.out.size⟩
  have HB2 := Aside0.mk (below_step HB1.out hB)
  have R_2 := Aside0.mk hr
  clear hr hB HB1
  generalize w1.heap.size = g1 at *
  go_wp2_with fail
  refine (emulsionref1_Set_Put.calls none64 ⟨by simp⟩ A c a true _ (Kd.C_below CA.out HB2.out) Hc.out).mono ?_
  rintro e w3 ⟨rfl, hB⟩
  have R_3 := Aside0.mk (R_2.out.keep hB)
  clear R_2
  have HB3 := Aside0.mk (below_step HB2.out hB)
  clear hB HB2
  generalize putV [] a = la at *
  generalize putS none64 a true = sx at *
  go_wp2_with (with_reducible refine wpList_store_row rfl 30 (.tmp 4) (.tmp 25) rfl (w3.heap.size) (setArr sx) rfl rfl 30 _ (heap_alloc_new _ _) (by rw [setArr_size, hls.out] <;> exact info30) (by rw [setArr_size, hls.out] <;> with_unfolding_all rfl) (setArr_one _) ?_)
  rw [World.setRow_alloc_new]
  have HBx : Aside0 (Below w.heap.size w (w3.alloc (.cells (setArr sx) 30))) := ⟨below_alloc HB3.out _⟩
  have Rx := Aside0.mk (R_3.out.keep (below_alloc (Below.refl _ _) (.cells (setArr sx) 30)))
  have SX : Aside0 (Blk (w3.alloc (.cells (setArr sx) 30)) w3.heap.size 30 (setArr sx)) := ⟨Blk.new _ _ _⟩
  have hgx : Aside0 (g1 < w3.heap.size) := ⟨R_3.out.lt⟩
  clear HB3 R_3
  generalize w3.heap.size = gx at *
  have hsh := short (by decide) TL.out
  go_loopg [5, 6, 7] la.length (fun kq u v x wq => ∃ (i : Nat) (F : Int), i + kq = la.length ∧ u = .int .i64 F ∧ v = .int .i64 (sumN (la.take i)) ∧ x = .int .i64 (i : Int) ∧ Aside0 (Met la i F) ∧ Aside0 (Below w.heap.size w wq) ∧ Aside0 (RunsAt wq g1 g1 la) ∧ Aside0 (Blk wq gx 30 (setArr sx)))
  case atStart => exact ⟨0, 0, by omega, rfl, rfl, rfl, ⟨Met.zero TL.out⟩, HBx, Rx, SX⟩
  case round =>
    clear HBx Rx SX
    obtain ⟨i, F, hi, rfl, rfl, rfl, HF, HB, HR, SX⟩ := hrel
    obtain ⟨f0, f1, _, _⟩ := HF.out
    have hi64 : (i : Int) ≤ 64 := by omega
    obtain ⟨z0, z1⟩ := (TL.out.take i).sum (by decide)
    by_cases hlt : i < la.length
    · skip
      obtain ⟨hnx, hFx⟩ := HF.out.next TL.out hlt
      have hnx := Aside0.mk hnx
      have hms := Aside0.mk (HF.out.succ TL.out hlt)
      have hhe := Aside0.mk (fun k h0 h1 => HF.out.here TL.out hlt k h0 h1)
      have hst := Aside0.mk (sumN_step la i hlt)
      obtain ⟨hw0, hw1, hw2⟩ := TL.out.whole (Int.le_refl _) _ (List.getElem_mem hlt)
      have hz2 := ((TL.out.take (i + 1)).sum (by decide)).2
      rw [hst.out] at hz2
      generalize la[i] = X at *
      obtain ⟨P, Q⟩ := X
      simp only at hFx hw0 hw1 hw2 hz2
      generalize sumN (la.take i) = z at *
      obtain ⟨kk, rfl⟩ : ∃ y, gk = y + 1 := ⟨gk - 1, by omega⟩
      go_wp2_with fail
      refine (runs_next g1 g1 la F (by omega) (by omega) _ TL.out HR.out).mono ?_
      rintro e w21 ⟨rfl, hB⟩
      rw [hnx.out]
      have R_21 := Aside0.mk (HR.out.keep hB)
      clear HR
      have SX_21 := Aside0.mk (SX.out.keep hB)
      clear SX
      have HB21 := Aside0.mk (below_step HB.out hB)
      clear hB HB
      obtain ⟨gs, hgs⟩ : ∃ y, y = w21.heap.size := ⟨_, rfl⟩
      have HSp : Aside0 (Blk (w21.alloc (.cells #[.int .i64 P, .int .i64 Q] 24)) gs 24 #[.int .i64 P, .int .i64 Q]) := ⟨hgs ▸ Blk.new _ _ _⟩
      have HBs := Aside0.mk (below_alloc HB21.out (.cells #[.int .i64 P, .int .i64 Q] 24))
      have Rs := Aside0.mk (R_21.out.keep (below_alloc (Below.refl _ _) (.cells #[.int .i64 P, .int .i64 Q] 24)))
      have SXs := Aside0.mk (SX_21.out.keep (below_alloc (Below.refl _ _) (.cells #[.int .i64 P, .int .i64 Q] 24)))
      have p0 := HSp.out.cell (i := 0) rfl
      have p1 := HSp.out.cell (i := 1) rfl
      go_wp2_with fail
      rw [← hgs]
      clear hgs p0 p1 HB21 R_21 SX_21
      go_loopg [10] (P + Q - F).toNat (fun kq v wq => ∃ k : Nat, F + (k : Int) + (kq : Int) = P + Q ∧ v = .int .i64 (F + (k : Int)) ∧ Aside0 (Below w.heap.size w wq) ∧ Aside0 (RunsAt wq g1 g1 la) ∧ Aside0 (Blk wq gx 30 (setArr sx)) ∧ Aside0 (Blk wq gs 24 #[.int .i64 P, .int .i64 Q]))
      case atStart => exact ⟨0, by omega, by rw [Int.natCast_zero, Int.add_zero], HBs, Rs, SXs, HSp⟩
      case round =>
        clear HBs Rs SXs HSp
        obtain ⟨k, hk, rfl, HB, HR, SX, HSp⟩ := hrel
        have p0 := HSp.out.cell (i := 0) rfl
        have p1 := HSp.out.cell (i := 1) rfl
        by_cases hkl : F + (k : Int) < P + Q
        · skip
          obtain ⟨q, hq⟩ := Int.eq_ofNat_of_zero_le (show 0 ≤ F + (k : Int) by omega)
          have hq64 : q < 64 := by omega
          have hmq := Aside0.mk ((hhe.out (F + (k : Int)) (by omega) hkl).symm.trans (hq ▸ HM.out q hq64))
          have cx := SX.out.cell (setArr_get sx q (by have := hls.out; omega))
          have hbq : Aside0 (sx.getD q false = decide (P ≤ (q : Int))) := ⟨by rw [Bool.eq_iff_iff, decide_eq_true_eq, ← hmq.out, hq]⟩
          rw [hbq.out] at cx
          obtain ⟨jj, rfl⟩ : ∃ y, gk = y + 1 := ⟨gk - 1, by omega⟩
          have hF : F + (k : Int) = (q : Int) := hq
          rw [hF] at hkl
          have q0 : (0 : Int) ≤ (q : Int) := by omega
          have q1 : (q : Int) < 64 := by omega
          have hFk : Aside0 (F + (k : Int) = (q : Int)) := ⟨hF⟩
          rw [hF]
          clear hF hq
          by_cases hPq : P ≤ (q : Int)
          · rw [decide_eq_true hPq] at cx
            go_wp2_with fail
            refine start_ (n := 8) (S := fun w' => Below w.heap.size w w' ∧ RunsAt w' g1 g1 la ∧ Blk w' gx 30 (setArr sx) ∧ Blk w' gs 24 #[.int .i64 P, .int .i64 Q] ∧ w'.cell? ⟨gx, q, none⟩ = some (.bool true) ∧ w'.cell? ⟨gs, 0, none⟩ = some (.int .i64 P)) (ds := []) #[false, false, false, false, false, false, false, false] (by kernel_rfl) rfl rfl ⟨(below_drew1 HB.out), (RunsAt.keep HR.out (below_drew1 (Below.refl _ _))), (Blk.drew SX.out), (Blk.drew HSp.out), cx, p0⟩ (fun hHeld => ?_)
            refine pure_ (i := 0) (N := some 71) (v := ?_) (a' := ?_) #[true, false, false, false, false, false, false, false] rfl rfl (by kernel_rfl) (fun _ _ _ h => h) (Or.inl ⟨by rfl, ?_⟩) ?_ ?_
            rotate_left
            · intro w'
              go_simp
              with_reducible rfl
            rotate_left
            · simp only [Act.put, List.setIfInBounds_toArray, List.set_cons_zero, List.set_cons_succ, i64_w, i32_w]
              rfl
            refine pure_ (i := 1) (N := some 72) (v := ?_) (a' := ?_) #[true, true, false, false, false, false, false, false] rfl rfl (by kernel_rfl) (fun _ _ _ h => h) (Or.inl ⟨by rfl, ?_⟩) ?_ ?_
            rotate_left
            · intro w'
              go_simp
              with_reducible rfl
            rotate_left
            · simp only [Act.put, List.setIfInBounds_toArray, List.set_cons_zero, List.set_cons_succ, i64_w, i32_w]
              rfl
            refine pure_ (i := 3) (N := some 74) (v := ?_) (a' := ?_) #[true, true, false, true, false, false, false, false] rfl rfl (by kernel_rfl) (fun _ _ _ h => h) (Or.inl ⟨by rfl, ?_⟩) ?_ ?_
            rotate_left
            · intro w'
              go_simp
              with_reducible rfl
            rotate_left
            · simp only [Act.put, List.setIfInBounds_toArray, List.set_cons_zero, List.set_cons_succ, i64_w, i32_w]
              rfl
            refine pure_ (i := 4) (N := some 75) (v := ?_) (a' := ?_) #[true, true, false, true, true, false, false, false] rfl rfl (by kernel_rfl) (fun _ _ _ h => h) (Or.inl ⟨by rfl, ?_⟩) ?_ ?_
            rotate_left
            · intro w'
              go_simp
              with_reducible rfl
            rotate_left
            · simp only [Act.put, List.setIfInBounds_toArray, List.set_cons_zero, List.set_cons_succ, i64_w, i32_w]
              rfl
            refine take_ (i := 2) (N := some 73) (v := ?_) (a' := ?_) #[true, true, true, true, true, false, false, false] rfl rfl (by kernel_rfl) (fun _ _ _ h => h) (Or.inl ⟨by rfl, ?_⟩) hHeld ?_ ?_
            rotate_left
            · rintro w' ⟨s0, s1, s2, s3, s4, s5⟩
              go_simp
              with_reducible rfl
            rotate_left
            · simp only [Act.put, List.setIfInBounds_toArray, List.set_cons_zero, List.set_cons_succ, i64_w, i32_w]
              rfl
            refine take_ (i := 5) (N := some 76) (v := ?_) (a' := ?_) #[true, true, true, true, true, true, false, false] rfl rfl (by kernel_rfl) (fun _ _ _ h => h) (Or.inl ⟨by rfl, ?_⟩) hHeld ?_ ?_
            rotate_left
            · rintro w' ⟨s0, s1, s2, s3, s4, s5⟩
              go_simp
              with_reducible rfl
            rotate_left
            · simp only [Act.put, List.setIfInBounds_toArray, List.set_cons_zero, List.set_cons_succ, i64_w, i32_w]
              rfl
            refine pure_ (i := 6) (N := some 77) (v := ?_) (a' := ?_) #[true, true, true, true, true, true, true, false] rfl rfl (by kernel_rfl) (fun _ _ _ h => h) (Or.inl ⟨by rfl, ?_⟩) ?_ ?_
            rotate_left
            · intro w'
              go_simp
              with_reducible rfl
            rotate_left
            · simp only [Act.put, List.setIfInBounds_toArray, List.set_cons_zero, List.set_cons_succ, i64_w, i32_w]
              rfl
            refine pure_ (i := 7) (N := some 78) (v := ?_) (a' := ?_) #[true, true, true, true, true, true, true, true] rfl rfl (by kernel_rfl) (fun _ _ _ h => h) (Or.inl ⟨by rfl, ?_⟩) ?_ ?_
            rotate_left
            · intro w'
              go_simp
              with_reducible rfl
            rotate_left
            · simp only [Act.put, List.setIfInBounds_toArray, List.set_cons_zero, List.set_cons_succ, i64_w, i32_w]
              rfl
            refine done_ (by kernel_rfl) ?_
            replace HB := Aside0.mk hHeld.1
            replace HR := Aside0.mk hHeld.2.1
            replace SX := Aside0.mk hHeld.2.2.1
            replace HSp := Aside0.mk hHeld.2.2.2.1
            clear hHeld cx p0 p1
            go_wp2_with fail
            go_roundg jj
            case measure => omega
            case rel => exact ⟨k + 1, by omega, by rw [← hFk.out]; congr 1; omega, HB, HR, SX, HSp⟩
          · rw [decide_eq_false hPq] at cx
            go_wp2_with fail
            refine start_ (n := 8) (S := fun w' => Below w.heap.size w w' ∧ RunsAt w' g1 g1 la ∧ Blk w' gx 30 (setArr sx) ∧ Blk w' gs 24 #[.int .i64 P, .int .i64 Q] ∧ w'.cell? ⟨gx, q, none⟩ = some (.bool false) ∧ w'.cell? ⟨gs, 0, none⟩ = some (.int .i64 P)) (ds := []) #[false, false, false, false, false, false, false, false] (by kernel_rfl) rfl rfl ⟨(below_drew1 HB.out), (RunsAt.keep HR.out (below_drew1 (Below.refl _ _))), (Blk.drew SX.out), (Blk.drew HSp.out), cx, p0⟩ (fun hHeld => ?_)
            refine pure_ (i := 0) (N := some 71) (v := ?_) (a' := ?_) #[true, false, false, false, false, false, false, false] rfl rfl (by kernel_rfl) (fun _ _ _ h => h) (Or.inl ⟨by rfl, ?_⟩) ?_ ?_
            rotate_left
            · intro w'
              go_simp
              with_reducible rfl
            rotate_left
            · simp only [Act.put, List.setIfInBounds_toArray, List.set_cons_zero, List.set_cons_succ, i64_w, i32_w]
              rfl
            refine pure_ (i := 1) (N := some 72) (v := ?_) (a' := ?_) #[true, true, false, false, false, false, false, false] rfl rfl (by kernel_rfl) (fun _ _ _ h => h) (Or.inl ⟨by rfl, ?_⟩) ?_ ?_
            rotate_left
            · intro w'
              go_simp
              with_reducible rfl
            rotate_left
            · simp only [Act.put, List.setIfInBounds_toArray, List.set_cons_zero, List.set_cons_succ, i64_w, i32_w]
              rfl
            refine pure_ (i := 3) (N := some 74) (v := ?_) (a' := ?_) #[true, true, false, true, false, false, false, false] rfl rfl (by kernel_rfl) (fun _ _ _ h => h) (Or.inl ⟨by rfl, ?_⟩) ?_ ?_
            rotate_left
            · intro w'
              go_simp
              with_reducible rfl
            rotate_left
            · simp only [Act.put, List.setIfInBounds_toArray, List.set_cons_zero, List.set_cons_succ, i64_w, i32_w]
              rfl
            refine pure_ (i := 4) (N := some 75) (v := ?_) (a' := ?_) #[true, true, false, true, true, false, false, false] rfl rfl (by kernel_rfl) (fun _ _ _ h => h) (Or.inl ⟨by rfl, ?_⟩) ?_ ?_
            rotate_left
            · intro w'
              go_simp
              with_reducible rfl
            rotate_left
            · simp only [Act.put, List.setIfInBounds_toArray, List.set_cons_zero, List.set_cons_succ, i64_w, i32_w]
              rfl
            refine take_ (i := 2) (N := some 73) (v := ?_) (a' := ?_) #[true, true, true, true, true, false, false, false] rfl rfl (by kernel_rfl) (fun _ _ _ h => h) (Or.inl ⟨by rfl, ?_⟩) hHeld ?_ ?_
            rotate_left
            · rintro w' ⟨s0, s1, s2, s3, s4, s5⟩
              go_simp
              with_reducible rfl
            rotate_left
            · simp only [Act.put, List.setIfInBounds_toArray, List.set_cons_zero, List.set_cons_succ, i64_w, i32_w]
              rfl
            refine take_ (i := 5) (N := some 76) (v := ?_) (a' := ?_) #[true, true, true, true, true, true, false, false] rfl rfl (by kernel_rfl) (fun _ _ _ h => h) (Or.inl ⟨by rfl, ?_⟩) hHeld ?_ ?_
            rotate_left
            · rintro w' ⟨s0, s1, s2, s3, s4, s5⟩
              go_simp
              with_reducible rfl
            rotate_left
            · simp only [Act.put, List.setIfInBounds_toArray, List.set_cons_zero, List.set_cons_succ, i64_w, i32_w]
              rfl
            refine pure_ (i := 6) (N := some 77) (v := ?_) (a' := ?_) #[true, true, true, true, true, true, true, false] rfl rfl (by kernel_rfl) (fun _ _ _ h => h) (Or.inl ⟨by rfl, ?_⟩) ?_ ?_
            rotate_left
            · intro w'
              go_simp
              with_reducible rfl
            rotate_left
            · simp only [Act.put, List.setIfInBounds_toArray, List.set_cons_zero, List.set_cons_succ, i64_w, i32_w]
              rfl
            refine pure_ (i := 7) (N := some 78) (v := ?_) (a' := ?_) #[true, true, true, true, true, true, true, true] rfl rfl (by kernel_rfl) (fun _ _ _ h => h) (Or.inl ⟨by rfl, ?_⟩) ?_ ?_
            rotate_left
            · intro w'
              go_simp
              with_reducible rfl
            rotate_left
            · simp only [Act.put, List.setIfInBounds_toArray, List.set_cons_zero, List.set_cons_succ, i64_w, i32_w]
              rfl
            refine done_ (by kernel_rfl) ?_
            replace HB := Aside0.mk hHeld.1
            replace HR := Aside0.mk hHeld.2.1
            replace SX := Aside0.mk hHeld.2.2.1
            replace HSp := Aside0.mk hHeld.2.2.2.1
            clear hHeld cx p0 p1
            go_wp2_with fail
            go_roundg jj
            case measure => omega
            case rel => exact ⟨k + 1, by omega, by rw [← hFk.out]; congr 1; omega, HB, HR, SX, HSp⟩
        · have hkl' : ¬ F + (k : Int) < P + Q := by omega
          have hkP : F + (k : Int) = P + Q := by omega
          rw [hkP]
          go_wp2_with fail
          go_roundg kk
          case measure => omega
          case rel => exact ⟨i + 1, P + Q, by omega, rfl, by rw [hst.out], by go_num, hms, HB, HR, SX⟩
    · skip
      have hi2 : i = la.length := by omega
      subst hi2
      have hdn := Aside0.mk HF.out.done
      rw [List.take_length] at z0 z1 ⊢
      go_wp2_with fail
      refine (runs_next g1 g1 la F (by omega) (by omega) _ TL.out HR.out).mono ?_
      rintro e w61 ⟨rfl, hB⟩
      rw [hdn.out]
      have R_61 := Aside0.mk (HR.out.keep hB)
      clear HR
      have SX_61 := Aside0.mk (SX.out.keep hB)
      clear SX
      have HB61 := Aside0.mk (below_step HB.out hB)
      clear hB HB
      have HBz := Aside0.mk (below_alloc HB61.out (.cells #[.int .i64 0, .int .i64 0] 24))
      have SXz := Aside0.mk (SX_61.out.keep (below_alloc (Below.refl _ _) (.cells #[.int .i64 0, .int .i64 0] 24)))
      have Rz := Aside0.mk (R_61.out.keep (below_alloc (Below.refl _ _) (.cells #[.int .i64 0, .int .i64 0] 24)))
      generalize hz : sumN la = z at *
      replace hz := Aside0.mk hz
      go_wp2_with (with_reducible refine wpList_load_row rfl 30 (.tmp 4) rfl gx rfl 30 _ (0, 0) _ SXz.out.hd Try.underlying30 rfl (by rw [setArr_size, hls.out]; exact info30) ?_)
      refine (emulsionref1_Set_Count.calls sx hls _).mono ?_
      rintro e w70 ⟨rfl, hB⟩
      rw [← HS.out]
      have HB70 := Aside0.mk (below_step HBz.out hB)
      have R70 := Aside0.mk (Rz.out.keep hB)
      clear hB
      go_wp2_with fail
      refine (runs_count g1 g1 la _ TL.out R70.out).mono ?_
      rintro e w71 ⟨rfl, hB⟩
      rw [hz.out]
      have HB71 := Aside0.mk (below_step HB70.out hB)
      clear hB
      go_wp2_with fail
      go_ret
      exact ⟨rfl, HB71.out⟩
theorem walk (A : Option Addr) (c : Nat) (a : List S24) (w : World) (hc : a.length ≤ c) (hA : Kd.C k24 w A a.length a) :
    Calls Try.prog 8 #[.slice A a.length c] w fun e w' => e = .returned (.bool true) ∧ Below w.heap.size w w' := by
  by_cases h : 40 < (a.length : Int)
  · exact early A c a w h
  · exact main A c a w (by omega) hc hA
end Go.Proofs.Ytjbimnicnehnaaa.WRunsNext
