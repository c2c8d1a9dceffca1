/- Parts of the proof for OctetsWrite: BookP, BookR, BookW, BookA, BookAddE, LentE, Ax9. -/
import Derived.Test.YtacmfpkmcefcfaaJOctetsWrite8
import Derived.Test.YtacmfpkmcefcfaaJOctetsWrite4
import Derived.Test.YtacmfpkmcefcfaaJOctetsWrite5
section
namespace Go.Proofs.Ytacmfpkmcefcfaa.Hand
open Go.RowKit Go.Proofs.YtacmfpkmcefcfaaW.PrintWords Go.Proofs.YtacmfpkmcefcfaaW.PrintLast Go.Proofs.YtacmfpkmcefcfaaW.PrintMore Go.Proofs.Ytacmfpkmcefcfaa.A
set_option linter.unusedVariables false
set_option linter.unusedSimpArgs false
attribute [local go_sem] max2_int min2_int max_two min_two max_three min_three max_four min_four
section
variable {α : Type} (mk : Nat → Nat → α)
/-- So many lists are marked; and so many elements of the next one. -/
def putF (i : Nat) : Nat → List α → List α := fun j l => if j < i then marks mk j 0 l.length else l
def putG (i k : Nat) : Nat → List α → List α := fun j l => if j < i then marks mk j 0 l.length else if j = i then marks mk i 0 k ++ l.drop k else l
theorem putF_zero (j : Nat) (l : List α) : putF mk 0 j l = l := if_neg (Nat.not_lt_zero _)
theorem putF_self (i : Nat) (l : List α) : putF mk i i l = l := if_neg (Nat.lt_irrefl _)
theorem putF_all (n j : Nat) (l : List α) (h : j < n) : putF mk n j l = marks mk j 0 l.length := if_pos h
theorem putG_zero (i j : Nat) (l : List α) : putG mk i 0 j l = putF mk i j l := by
  unfold putG putF
  split
  · rfl
  · split
    · rfl
    · rfl
theorem putG_self (i k : Nat) (l : List α) : putG mk i k i l = marks mk i 0 k ++ l.drop k := by unfold putG; rw [if_neg (Nat.lt_irrefl _), if_pos rfl]
theorem putG_len (i k : Nat) (l : List α) (h : k ≤ l.length) : (putG mk i k i l).length = l.length := by rw [putG_self, List.length_append, marks_length, List.length_drop]; omega
theorem putG_other (i k m j : Nat) (l : List α) (h : j ≠ i) : putG mk i k j l = putG mk i m j l := by unfold putG; rw [if_neg h, if_neg h]
theorem putG_next (i k : Nat) (l : List α) (h : k < l.length) : putG mk i (k + 1) i l = (putG mk i k i l).set k (mk i k) := by rw [putG_self, putG_self, marks_set mk i l k h]
theorem putG_full {L : List (List α)} {i : Nat} {l : List α} (hl : L[i]? = some l) (j : Nat) (x : List α) (hx : L[j]? = some x) : putF mk (i + 1) j x = putG mk i l.length j x := by
  unfold putF putG
  by_cases h1 : j < i
  · rw [if_pos (by omega), if_pos h1]
  · rw [if_neg h1]
    by_cases h2 : j = i
    · subst h2
      rw [hl] at hx; injection hx with hx; subst hx
      rw [if_pos (by omega), if_pos rfl, List.drop_length, List.append_nil]
    · rw [if_neg (by omega), if_neg h2]
end
theorem row_at0 {α : Type} {d : Kd α} {e base : Nat} {w : World} {ok : Nat → Prop} {A : Option Addr} {n c : Nat} {xs : List α} (h : d.R e w base ok (.slice A n c) xs) (hn : 0 < xs.length) : ∃ g, A = some ⟨g, 0, none⟩ ∧ base ≤ g ∧ g < w.heap.size ∧ d.C w (some ⟨g, 0, none⟩) xs.length xs := by
  obtain ⟨g, c', he, h1, h2, h3⟩ := row_at h hn
  injection he with q1 q2 q3
  exact ⟨g, q1, h1, h2, h3⟩
theorem C_at0 {α : Type} {d : Kd α} {w : World} {g n k : Nat} {xs : List α} {x : α} (h : d.C w (some ⟨g, 0, none⟩) n xs) (hx : xs[k]? = some x) : ∃ c, d.K w x c ∧ ∀ j u, c[j]? = some u → w.cell? ⟨g, k * d.sz + j, none⟩ = some u := by
  have hk : k < n := by have := (List.getElem?_eq_some_iff.1 hx).1; have := h.1; omega
  obtain ⟨ad, he, hp⟩ := h.2.2 (by omega)
  injection he with he
  subst he
  obtain ⟨c, _, hK, hc⟩ := hp k x hx
  exact ⟨c, hK, fun j u hu => by have := hc j u hu; rw [add_zero0] at this; exact this⟩
set_option maxRecDepth 100000 in
set_option maxHeartbeats 3200000 in
theorem put_Spans (g base : Nat) (VI UI VE UE : Value) (V U : Value) (vs : List Value) (L : List (List S119)) (w : World) (hb : Blk w g 60 (bookC VI UI V U VE UE)) (hS : Shelf k119 119 128 w base V vs L (fun _ l => l))
    (hL : L.length ≤ 250) (hB : ∀ (i : Nat) l, L[i]? = some l → l.length ≤ 1000000) (hbase : base ≤ w.heap.size) :
    Calls Try.prog 75 #[.pointer (some ⟨g, 0, none⟩)] w fun e w' => e = .returned (.tuple #[]) ∧ Shelf k119 119 128 w' base V vs L (fun i l => marks mkSpans i 0 l.length) ∧ FxT 119 base w w' := by
  obtain ⟨A, n, rfl⟩ := row_slice hS.hV
  have HB := Aside0.mk hb
  have HS := Aside0.mk (hS.congr (F' := putF mkSpans 0) (fun i l _ => putF_zero _ i l))
  have HBd := Aside0.mk hB
  have HL := Aside0.mk hL
  have Hbase := Aside0.mk hbase
  clear hb hS hB hL hbase
  go_enter Try.func75, Try.ntmps75
  go_wp2_with fail
  go_loopg [2] L.length (fun kq v wq => ∃ i : Nat, i + kq = L.length ∧ v = .int .i64 (i : Int) ∧ Aside0 (Shelf k119 119 128 wq base (.slice A L.length n) vs L (putF mkSpans i)) ∧ Aside0 (FxT 119 base w wq))
  case atStart => exact ⟨0, by omega, rfl, HS, ⟨FxT.refl _ _ _⟩⟩
  case round =>
    clear HS
    obtain ⟨i, hi, rfl, HS, HX⟩ := hrel
    have hb1 := HX.out.blk HB.out (by decide)
    have c4 := hb1.cell (i := 4) (v := .slice A L.length n) rfl
    clear hb1
    by_cases hlt : i < L.length
    · have hlt' : (i : Int) < (L.length : Int) := by omega
      have hi' : (i : Int) ≤ 250 := by have := HL.out; omega
      have hi2 : i ≤ 250 := by omega
      obtain ⟨kk, rfl⟩ : ∃ z, gk = z + 1 := ⟨gk - 1, by omega⟩
      obtain ⟨l, hl⟩ : ∃ l, L[i]? = some l := ⟨_, List.getElem?_eq_getElem hlt⟩
      have hbd := HBd.out i l hl
      obtain ⟨gv, cV, Av, cv, hVe, hcell, hvs, hR, hle, _⟩ := HS.out.at hl
      rw [putF_self] at hcell hvs hle hR
      have hvlt := Aside0.mk (Kd.R_lt hR)
      clear hR
      injection hVe with q1 q2 q3
      subst q1; subst q3
      have hmk := Aside0.mk (markSpans_f i 0 l.length (l.length + 1) (by omega) (by omega) (by omega))
      go_wp2_with fail
      refine (emulsionbook_markSpans.calls (l.length + 1) (i : Int) 0 (l.length : Int) _ _ hmk.out).mono ?_
      rintro e w2 ⟨vm, rfl, hrm, hbm⟩
      obtain ⟨Am, cm, hvm, hcm, _⟩ := Kd.R_reads hrm
      rw [marks_length] at hvm hcm
      subst hvm
      have HM := Aside0.mk hrm
      have HS2 := Aside0.mk ((HS.out.below hbm).congr (F' := putG mkSpans i 0) (fun j x _ => putG_zero _ i j x))
      have HX2 := Aside0.mk (HX.out.below hbm Hbase.out)
      clear hrm hcell hbm HS HX c4
      obtain ⟨B0, hB0⟩ : ∃ b, b = wr.heap.size := ⟨_, rfl⟩
      rw [← hB0] at HM hvlt
      clear hB0
      have hcmx := Aside0.mk hcm
      clear hcm
      go_wp2_with fail
      go_loopg [4] l.length (fun kq v wq => ∃ k : Nat, k + kq = l.length ∧ v = .int .i64 (k : Int) ∧ Aside0 (Shelf k119 119 128 wq base (.slice (some ⟨gv, 0, none⟩) L.length n) vs L (putG mkSpans i k)) ∧ Aside0 (FxT 119 base w wq) ∧ Aside0 (Kd.R k119 119 wq B0 (fun _ => True) (.slice Am l.length cm) (marks mkSpans i 0 l.length)))
      case atStart => exact ⟨0, by omega, rfl, HS2, HX2, HM⟩
      case round =>
        clear HS2 HX2 HM
        obtain ⟨k, hk, rfl, HS, HX, HM⟩ := hrel
        by_cases hk1 : k < l.length
        · have hk2 : (k : Int) < (l.length : Int) := by omega
          have hk3 : (k : Int) ≤ 1000000 := by omega
          obtain ⟨kz, rfl⟩ : ∃ z, gk = z + 1 := ⟨gk - 1, by omega⟩
          obtain ⟨gv', cV', Av', cv', hVe, hcell, hvs', hR, hle', _⟩ := HS.out.at hl
          rw [putG_len mkSpans i k l (by omega)] at hcell hvs' hle' hR
          rw [hvs] at hvs'
          injection hvs' with hvs'; injection hvs' with q1 q2 q3
          injection hVe with q4 q5 q6
          injection q4 with q4; injection q4 with q4
          subst q1; subst q3; subst q4; subst q6
          obtain ⟨gl, hAv, hgl1, hgl2, _⟩ := row_at0 hR (by rw [putG_len mkSpans i k l (by omega)]; omega)
          obtain ⟨gm, hAm, hgm1, hgm2, hCm⟩ := row_at0 HM.out (by rw [marks_length]; omega)
          subst hAv; subst hAm
          obtain ⟨cm_, hK, hcm⟩ := C_at0 hCm (marks_get mkSpans i l.length 0 k hk1)
          rw [Nat.zero_add] at hK
          obtain rfl := k119_open hK
          have hm0 := hcm 0 _ rfl
          rw [show k * k119.sz + 0 = k * 2 from by show k * 2 + 0 = k * 2; omega] at hm0
          have hm1 := hcm 1 _ rfl
          rw [show k * k119.sz + 1 = k * 2 + 1 from by show k * 2 + 1 = k * 2 + 1; omega] at hm1
          have hb1 := HX.out.blk HB.out (by decide)
          have c4 := hb1.cell (i := 4) (v := .slice (some ⟨gv, 0, none⟩) L.length n) rfl
          have HR := Aside0.mk hR
          clear hb1 hCm hcm hR
          try clear hK
          go_wp2_with fail
          refine start_ (n := 14) (S := fun w' => w'.cell? ⟨g, 4, none⟩ = some (.slice (some ⟨gv, 0, none⟩) L.length n) ∧ w'.cell? ⟨gv, i, none⟩ = some (.slice (some ⟨gl, 0, none⟩) l.length cv) ∧ w'.cell? ⟨gm, k * 2, none⟩ = some (.int .i64 (mkSpans i k).f0) ∧ w'.cell? ⟨gm, k * 2 + 1, none⟩ = some (.int .i64 (mkSpans i k).f1) ∧ Shelf k119 119 128 w' base (.slice (some ⟨gv, 0, none⟩) L.length n) vs L (putG mkSpans i k) ∧ FxT 119 base w w' ∧ Kd.R k119 119 w' B0 (fun _ => True) (.slice (some ⟨gm, 0, none⟩) l.length cm) (marks mkSpans i 0 l.length) ∧ Kd.R k119 119 w' base (fun _ => True) (.slice (some ⟨gl, 0, none⟩) l.length cv) (putG mkSpans i k i l)) (ds := [13]) #[false, false, false, false, false, false, false, false, false, false, false, false, false, false] (by kernel_rfl) rfl rfl ⟨c4, hcell, hm0, hm1, (HS.out.below (below_drew (Below.refl _ _))), HX.out.drew, (Kd.R_drew HM.out), (Kd.R_drew HR.out)⟩ (fun hHeld => ?_)
          refine pure_ (i := 0) (N := some 30) (v := ?_) (a' := ?_) #[true, false, false, false, false, false, false, false, false, false, false, false, false, false] rfl rfl (by kernel_rfl) (fun _ _ _ h => h) (Or.inl ⟨by rfl, ?_⟩) ?_ ?_
          rotate_left
          · intro w'
            go_simp
            with_reducible rfl
          rotate_left
          · simp only [Act.put, List.setIfInBounds_toArray, List.set_cons_zero, List.set_cons_succ, i64_w, i32_w]
            rfl
          refine pure_ (i := 1) (N := some 31) (v := ?_) (a' := ?_) #[true, true, false, false, false, false, false, false, false, false, false, false, false, false] rfl rfl (by kernel_rfl) (fun _ _ _ h => h) (Or.inl ⟨by rfl, ?_⟩) ?_ ?_
          rotate_left
          · intro w'
            go_simp
            with_reducible rfl
          rotate_left
          · simp only [Act.put, List.setIfInBounds_toArray, List.set_cons_zero, List.set_cons_succ, i64_w, i32_w]
            rfl
          refine pure_ (i := 2) (N := some 32) (v := ?_) (a' := ?_) #[true, true, true, false, false, false, false, false, false, false, false, false, false, false] rfl rfl (by kernel_rfl) (fun _ _ _ h => h) (Or.inl ⟨by rfl, ?_⟩) ?_ ?_
          rotate_left
          · intro w'
            go_simp
            with_reducible rfl
          rotate_left
          · simp only [Act.put, List.setIfInBounds_toArray, List.set_cons_zero, List.set_cons_succ, i64_w, i32_w]
            rfl
          refine pure_ (i := 4) (N := some 34) (v := ?_) (a' := ?_) #[true, true, true, false, true, false, false, false, false, false, false, false, false, false] rfl rfl (by kernel_rfl) (fun _ _ _ h => h) (Or.inl ⟨by rfl, ?_⟩) ?_ ?_
          rotate_left
          · intro w'
            go_simp
            with_reducible rfl
          rotate_left
          · simp only [Act.put, List.setIfInBounds_toArray, List.set_cons_zero, List.set_cons_succ, i64_w, i32_w]
            rfl
          refine pure_ (i := 7) (N := some 37) (v := ?_) (a' := ?_) #[true, true, true, false, true, false, false, true, false, false, false, false, false, false] rfl rfl (by kernel_rfl) (fun _ _ _ h => h) (Or.inl ⟨by rfl, ?_⟩) ?_ ?_
          rotate_left
          · intro w'
            go_simp
            with_reducible rfl
          rotate_left
          · simp only [Act.put, List.setIfInBounds_toArray, List.set_cons_zero, List.set_cons_succ, i64_w, i32_w]
            rfl
          refine pure_ (i := 8) (N := some 38) (v := ?_) (a' := ?_) #[true, true, true, false, true, false, false, true, true, false, false, false, false, false] rfl rfl (by kernel_rfl) (fun _ _ _ h => h) (Or.inl ⟨by rfl, ?_⟩) ?_ ?_
          rotate_left
          · intro w'
            go_simp
            with_reducible rfl
          rotate_left
          · simp only [Act.put, List.setIfInBounds_toArray, List.set_cons_zero, List.set_cons_succ, i64_w, i32_w]
            rfl
          refine pure_ (i := 9) (N := some 39) (v := ?_) (a' := ?_) #[true, true, true, false, true, false, false, true, true, true, false, false, false, false] rfl rfl (by kernel_rfl) (fun _ _ _ h => h) (Or.inl ⟨by rfl, ?_⟩) ?_ ?_
          rotate_left
          · intro w'
            go_simp
            with_reducible rfl
          rotate_left
          · simp only [Act.put, List.setIfInBounds_toArray, List.set_cons_zero, List.set_cons_succ, i64_w, i32_w]
            rfl
          refine pure_ (i := 10) (N := some 40) (v := ?_) (a' := ?_) #[true, true, true, false, true, false, false, true, true, true, true, false, false, false] rfl rfl (by kernel_rfl) (fun _ _ _ h => h) (Or.inl ⟨by rfl, ?_⟩) ?_ ?_
          rotate_left
          · intro w'
            go_simp
            with_reducible rfl
          rotate_left
          · simp only [Act.put, List.setIfInBounds_toArray, List.set_cons_zero, List.set_cons_succ, i64_w, i32_w]
            rfl
          refine take_ (i := 3) (N := some 33) (v := ?_) (a' := ?_) #[true, true, true, true, true, false, false, true, true, true, true, false, false, false] rfl rfl (by kernel_rfl) (fun _ _ _ h => h) (Or.inl ⟨by rfl, ?_⟩) hHeld ?_ ?_
          rotate_left
          · rintro w' ⟨s0, s1, s2, s3, s4, s5, s6, s7⟩
            go_simp
            with_reducible rfl
          rotate_left
          · simp only [Act.put, List.setIfInBounds_toArray, List.set_cons_zero, List.set_cons_succ, i64_w, i32_w]
            rfl
          refine pure_ (i := 5) (N := some 35) (v := ?_) (a' := ?_) #[true, true, true, true, true, true, false, true, true, true, true, false, false, false] rfl rfl (by kernel_rfl) (fun _ _ _ h => h) (Or.inl ⟨by rfl, ?_⟩) ?_ ?_
          rotate_left
          · intro w'
            go_simp
            with_reducible rfl
          rotate_left
          · simp only [Act.put, List.setIfInBounds_toArray, List.set_cons_zero, List.set_cons_succ, i64_w, i32_w]
            rfl
          refine take_ (i := 6) (N := some 36) (v := ?_) (a' := ?_) #[true, true, true, true, true, true, true, true, true, true, true, false, false, false] rfl rfl (by kernel_rfl) (fun _ _ _ h => h) (Or.inl ⟨by rfl, ?_⟩) hHeld ?_ ?_
          rotate_left
          · rintro w' ⟨s0, s1, s2, s3, s4, s5, s6, s7⟩
            go_simp
            with_reducible rfl
          rotate_left
          · simp only [Act.put, List.setIfInBounds_toArray, List.set_cons_zero, List.set_cons_succ, i64_w, i32_w]
            rfl
          refine take_ (i := 11) (N := some 41) (v := ?_) (a' := ?_) #[true, true, true, true, true, true, true, true, true, true, true, true, false, false] rfl rfl (by kernel_rfl) (fun _ _ _ h => h) (Or.inl ⟨by rfl, ?_⟩) hHeld ?_ ?_
          rotate_left
          · rintro w' ⟨s0, s1, s2, s3, s4, s5, s6, s7⟩
            go_simp
            with_reducible rfl
          rotate_left
          · simp only [Act.put, List.setIfInBounds_toArray, List.set_cons_zero, List.set_cons_succ, i64_w, i32_w]
            rfl
          refine pure_ (i := 12) (N := some 42) (v := ?_) (a' := ?_) #[true, true, true, true, true, true, true, true, true, true, true, true, true, false] rfl rfl (by kernel_rfl) (fun _ _ _ h => h) (Or.inl ⟨by rfl, ?_⟩) ?_ ?_
          rotate_left
          · intro w'
            go_simp
            with_reducible rfl
          rotate_left
          · simp only [Act.put, List.setIfInBounds_toArray, List.set_cons_zero, List.set_cons_succ, i64_w, i32_w]
            rfl
          refine last_ (i := 13) (N := none) #[true, true, true, true, true, true, true, true, true, true, true, true, true, true] rfl rfl (by kernel_rfl) (by decide) (fun K hK => ?_)
          refine Kd.R_store_step k119 (w0 := w) base (by rfl) 119 (.tmp 42) (.tmp 41) (by rfl) 119 k (putG mkSpans i k i l) (mkSpans i k) (.agg #[.int .i64 (mkSpans i k).f0, .int .i64 (mkSpans i k).f1]) [.int .i64 (mkSpans i k).f0, .int .i64 (mkSpans i k).f1] (fun _ => True) (fun _ => False) (by rfl) (by rfl) (by rfl) (by rfl) (by kernel_rfl) (by rfl) (by simp [Value.oneCell']) hHeld.2.2.2.2.2.2.2 hk1 (k119_mkM _ _ _ _) (fun _ h => h.elim) ?_ _
          intro w7 hR7 hG7
          refine hK.out _ _ ?_
          clear hK K
          refine done_ (by kernel_rfl) ?_
          have HS7 := Aside0.mk (hHeld.2.2.2.2.1.set (F' := putG mkSpans i (k + 1)) rfl (by decide) (hHeld.2.2.2.2.2.1.base_le Hbase.out) hl hvs (by rw [putG_next mkSpans i k l hk1]; exact hR7) hG7 (fun j x hj _ => putG_other mkSpans i (k + 1) k j x hj))
          have HX7 := Aside0.mk (hHeld.2.2.2.2.2.1.trans (hHeld.2.2.2.2.1.grownFx hvs hl (hHeld.2.2.2.2.2.1.base_le Hbase.out) hG7))
          have HM7 := Aside0.mk (R_moved rfl hHeld.2.2.2.2.2.2.1 (fun q hq => hG7.block q (Kd.R_lt hHeld.2.2.2.2.2.2.1 q hq) (fun e => by
            injection e with e
            subst e
            have h1 : q < B0 := hvlt.out _ rfl
            have h2 := Kd.R_base hHeld.2.2.2.2.2.2.1 _ hq
            omega)))
          clear hHeld hR7 hG7
          go_wp2_with fail
          go_roundg kz
          case measure => omega
          case rel => exact ⟨k + 1, by omega, by go_num, HS7, HX7, HM7⟩
        · obtain rfl : k = l.length := by omega
          have hk2 : ¬ (l.length : Int) < (l.length : Int) := by omega
          have HS8 := Aside0.mk (HS.out.congr (fun j x hx => putG_full mkSpans hl j x hx))
          go_wp2_with fail
          go_roundg kk
          case measure => omega
          case rel => exact ⟨i + 1, by omega, by go_num, HS8, HX⟩
    · obtain rfl : i = L.length := by omega
      have hlt' : ¬ (L.length : Int) < (L.length : Int) := by omega
      have HS9 := Aside0.mk (HS.out.congr (F' := fun i l => marks mkSpans i 0 l.length) (fun j x hx => (putF_all mkSpans _ j x (List.getElem?_eq_some_iff.1 hx).1).symm))
      go_wp2_with fail
      go_end0
      exact ⟨rfl, HS9.out, HX.out⟩
set_option maxRecDepth 100000 in
set_option maxHeartbeats 3200000 in
theorem put_Ints (g base : Nat) (VS US VE UE : Value) (V U : Value) (vs : List Value) (L : List (List Int)) (w : World) (hb : Blk w g 60 (bookC V U VS US VE UE)) (hS : Shelf (Kd.int .i64) 3 75 w base V vs L (fun _ l => l))
    (hL : L.length ≤ 250) (hB : ∀ (i : Nat) l, L[i]? = some l → l.length ≤ 1000000) (hbase : base ≤ w.heap.size) :
    Calls Try.prog 74 #[.pointer (some ⟨g, 0, none⟩)] w fun e w' => e = .returned (.tuple #[]) ∧ Shelf (Kd.int .i64) 3 75 w' base V vs L (fun i l => marks mkInts i 0 l.length) ∧ FxT 3 base w w' := by
  obtain ⟨A, n, rfl⟩ := row_slice hS.hV
  have HB := Aside0.mk hb
  have HS := Aside0.mk (hS.congr (F' := putF mkInts 0) (fun i l _ => putF_zero _ i l))
  have HBd := Aside0.mk hB
  have HL := Aside0.mk hL
  have Hbase := Aside0.mk hbase
  clear hb hS hB hL hbase
  go_enter Try.func74, Try.ntmps74
  go_wp2_with fail
  go_loopg [2] L.length (fun kq v wq => ∃ i : Nat, i + kq = L.length ∧ v = .int .i64 (i : Int) ∧ Aside0 (Shelf (Kd.int .i64) 3 75 wq base (.slice A L.length n) vs L (putF mkInts i)) ∧ Aside0 (FxT 3 base w wq))
  case atStart => exact ⟨0, by omega, rfl, HS, ⟨FxT.refl _ _ _⟩⟩
  case round =>
    clear HS
    obtain ⟨i, hi, rfl, HS, HX⟩ := hrel
    have hb1 := HX.out.blk HB.out (by decide)
    have c4 := hb1.cell (i := 2) (v := .slice A L.length n) rfl
    clear hb1
    by_cases hlt : i < L.length
    · have hlt' : (i : Int) < (L.length : Int) := by omega
      have hi' : (i : Int) ≤ 250 := by have := HL.out; omega
      have hi2 : i ≤ 250 := by omega
      obtain ⟨kk, rfl⟩ : ∃ z, gk = z + 1 := ⟨gk - 1, by omega⟩
      obtain ⟨l, hl⟩ : ∃ l, L[i]? = some l := ⟨_, List.getElem?_eq_getElem hlt⟩
      have hbd := HBd.out i l hl
      obtain ⟨gv, cV, Av, cv, hVe, hcell, hvs, hR, hle, _⟩ := HS.out.at hl
      rw [putF_self] at hcell hvs hle hR
      have hvlt := Aside0.mk (Kd.R_lt hR)
      clear hR
      injection hVe with q1 q2 q3
      subst q1; subst q3
      have hmk := Aside0.mk (markInts_f i 0 l.length (l.length + 1) (by omega) (by omega) (by omega))
      go_wp2_with fail
      refine (emulsionbook_markInts.calls (l.length + 1) (i : Int) 0 (l.length : Int) _ _ hmk.out).mono ?_
      rintro e w2 ⟨vm, rfl, hrm, hbm⟩
      obtain ⟨Am, cm, hvm, hcm, _⟩ := Kd.R_reads hrm
      rw [marks_length] at hvm hcm
      subst hvm
      have HM := Aside0.mk hrm
      have HS2 := Aside0.mk ((HS.out.below hbm).congr (F' := putG mkInts i 0) (fun j x _ => putG_zero _ i j x))
      have HX2 := Aside0.mk (HX.out.below hbm Hbase.out)
      clear hrm hcell hbm HS HX c4
      obtain ⟨B0, hB0⟩ : ∃ b, b = wr.heap.size := ⟨_, rfl⟩
      rw [← hB0] at HM hvlt
      clear hB0
      have hcmx := Aside0.mk hcm
      clear hcm
      go_wp2_with fail
      go_loopg [4] l.length (fun kq v wq => ∃ k : Nat, k + kq = l.length ∧ v = .int .i64 (k : Int) ∧ Aside0 (Shelf (Kd.int .i64) 3 75 wq base (.slice (some ⟨gv, 0, none⟩) L.length n) vs L (putG mkInts i k)) ∧ Aside0 (FxT 3 base w wq) ∧ Aside0 (Kd.R (Kd.int .i64) 3 wq B0 (fun _ => True) (.slice Am l.length cm) (marks mkInts i 0 l.length)))
      case atStart => exact ⟨0, by omega, rfl, HS2, HX2, HM⟩
      case round =>
        clear HS2 HX2 HM
        obtain ⟨k, hk, rfl, HS, HX, HM⟩ := hrel
        by_cases hk1 : k < l.length
        · have hk2 : (k : Int) < (l.length : Int) := by omega
          have hk3 : (k : Int) ≤ 1000000 := by omega
          obtain ⟨kz, rfl⟩ : ∃ z, gk = z + 1 := ⟨gk - 1, by omega⟩
          obtain ⟨gv', cV', Av', cv', hVe, hcell, hvs', hR, hle', _⟩ := HS.out.at hl
          rw [putG_len mkInts i k l (by omega)] at hcell hvs' hle' hR
          rw [hvs] at hvs'
          injection hvs' with hvs'; injection hvs' with q1 q2 q3
          injection hVe with q4 q5 q6
          injection q4 with q4; injection q4 with q4
          subst q1; subst q3; subst q4; subst q6
          obtain ⟨gl, hAv, hgl1, hgl2, _⟩ := row_at0 hR (by rw [putG_len mkInts i k l (by omega)]; omega)
          obtain ⟨gm, hAm, hgm1, hgm2, hCm⟩ := row_at0 HM.out (by rw [marks_length]; omega)
          subst hAv; subst hAm
          obtain ⟨cm_, hK, hcm⟩ := C_at0 hCm (marks_get mkInts i l.length 0 k hk1)
          rw [Nat.zero_add] at hK
          obtain rfl : cm_ = [.int .i64 (mkInts i k)] := hK
          have hm0 := hcm 0 _ rfl
          rw [show k * (Kd.int .i64).sz + 0 = k from by show k * 1 + 0 = k; omega] at hm0
          have hb1 := HX.out.blk HB.out (by decide)
          have c4 := hb1.cell (i := 2) (v := .slice (some ⟨gv, 0, none⟩) L.length n) rfl
          have HR := Aside0.mk hR
          clear hb1 hCm hcm hR
          try clear hK
          go_wp2_with fail
          refine start_ (n := 14) (S := fun w' => w'.cell? ⟨g, 2, none⟩ = some (.slice (some ⟨gv, 0, none⟩) L.length n) ∧ w'.cell? ⟨gv, i, none⟩ = some (.slice (some ⟨gl, 0, none⟩) l.length cv) ∧ w'.cell? ⟨gm, k, none⟩ = some (.int .i64 (mkInts i k)) ∧ Shelf (Kd.int .i64) 3 75 w' base (.slice (some ⟨gv, 0, none⟩) L.length n) vs L (putG mkInts i k) ∧ FxT 3 base w w' ∧ Kd.R (Kd.int .i64) 3 w' B0 (fun _ => True) (.slice (some ⟨gm, 0, none⟩) l.length cm) (marks mkInts i 0 l.length) ∧ Kd.R (Kd.int .i64) 3 w' base (fun _ => True) (.slice (some ⟨gl, 0, none⟩) l.length cv) (putG mkInts i k i l)) (ds := [13]) #[false, false, false, false, false, false, false, false, false, false, false, false, false, false] (by kernel_rfl) rfl rfl ⟨c4, hcell, hm0, (HS.out.below (below_drew (Below.refl _ _))), HX.out.drew, (Kd.R_drew HM.out), (Kd.R_drew HR.out)⟩ (fun hHeld => ?_)
          refine pure_ (i := 0) (N := some 30) (v := ?_) (a' := ?_) #[true, false, false, false, false, false, false, false, false, false, false, false, false, false] rfl rfl (by kernel_rfl) (fun _ _ _ h => h) (Or.inl ⟨by rfl, ?_⟩) ?_ ?_
          rotate_left
          · intro w'
            go_simp
            with_reducible rfl
          rotate_left
          · simp only [Act.put, List.setIfInBounds_toArray, List.set_cons_zero, List.set_cons_succ, i64_w, i32_w]
            rfl
          refine pure_ (i := 1) (N := some 31) (v := ?_) (a' := ?_) #[true, true, false, false, false, false, false, false, false, false, false, false, false, false] rfl rfl (by kernel_rfl) (fun _ _ _ h => h) (Or.inl ⟨by rfl, ?_⟩) ?_ ?_
          rotate_left
          · intro w'
            go_simp
            with_reducible rfl
          rotate_left
          · simp only [Act.put, List.setIfInBounds_toArray, List.set_cons_zero, List.set_cons_succ, i64_w, i32_w]
            rfl
          refine pure_ (i := 2) (N := some 32) (v := ?_) (a' := ?_) #[true, true, true, false, false, false, false, false, false, false, false, false, false, false] rfl rfl (by kernel_rfl) (fun _ _ _ h => h) (Or.inl ⟨by rfl, ?_⟩) ?_ ?_
          rotate_left
          · intro w'
            go_simp
            with_reducible rfl
          rotate_left
          · simp only [Act.put, List.setIfInBounds_toArray, List.set_cons_zero, List.set_cons_succ, i64_w, i32_w]
            rfl
          refine pure_ (i := 4) (N := some 34) (v := ?_) (a' := ?_) #[true, true, true, false, true, false, false, false, false, false, false, false, false, false] rfl rfl (by kernel_rfl) (fun _ _ _ h => h) (Or.inl ⟨by rfl, ?_⟩) ?_ ?_
          rotate_left
          · intro w'
            go_simp
            with_reducible rfl
          rotate_left
          · simp only [Act.put, List.setIfInBounds_toArray, List.set_cons_zero, List.set_cons_succ, i64_w, i32_w]
            rfl
          refine pure_ (i := 7) (N := some 37) (v := ?_) (a' := ?_) #[true, true, true, false, true, false, false, true, false, false, false, false, false, false] rfl rfl (by kernel_rfl) (fun _ _ _ h => h) (Or.inl ⟨by rfl, ?_⟩) ?_ ?_
          rotate_left
          · intro w'
            go_simp
            with_reducible rfl
          rotate_left
          · simp only [Act.put, List.setIfInBounds_toArray, List.set_cons_zero, List.set_cons_succ, i64_w, i32_w]
            rfl
          refine pure_ (i := 8) (N := some 38) (v := ?_) (a' := ?_) #[true, true, true, false, true, false, false, true, true, false, false, false, false, false] rfl rfl (by kernel_rfl) (fun _ _ _ h => h) (Or.inl ⟨by rfl, ?_⟩) ?_ ?_
          rotate_left
          · intro w'
            go_simp
            with_reducible rfl
          rotate_left
          · simp only [Act.put, List.setIfInBounds_toArray, List.set_cons_zero, List.set_cons_succ, i64_w, i32_w]
            rfl
          refine pure_ (i := 9) (N := some 39) (v := ?_) (a' := ?_) #[true, true, true, false, true, false, false, true, true, true, false, false, false, false] rfl rfl (by kernel_rfl) (fun _ _ _ h => h) (Or.inl ⟨by rfl, ?_⟩) ?_ ?_
          rotate_left
          · intro w'
            go_simp
            with_reducible rfl
          rotate_left
          · simp only [Act.put, List.setIfInBounds_toArray, List.set_cons_zero, List.set_cons_succ, i64_w, i32_w]
            rfl
          refine pure_ (i := 10) (N := some 40) (v := ?_) (a' := ?_) #[true, true, true, false, true, false, false, true, true, true, true, false, false, false] rfl rfl (by kernel_rfl) (fun _ _ _ h => h) (Or.inl ⟨by rfl, ?_⟩) ?_ ?_
          rotate_left
          · intro w'
            go_simp
            with_reducible rfl
          rotate_left
          · simp only [Act.put, List.setIfInBounds_toArray, List.set_cons_zero, List.set_cons_succ, i64_w, i32_w]
            rfl
          refine take_ (i := 3) (N := some 33) (v := ?_) (a' := ?_) #[true, true, true, true, true, false, false, true, true, true, true, false, false, false] rfl rfl (by kernel_rfl) (fun _ _ _ h => h) (Or.inl ⟨by rfl, ?_⟩) hHeld ?_ ?_
          rotate_left
          · rintro w' ⟨s0, s1, s2, s3, s4, s5, s6⟩
            go_simp
            with_reducible rfl
          rotate_left
          · simp only [Act.put, List.setIfInBounds_toArray, List.set_cons_zero, List.set_cons_succ, i64_w, i32_w]
            rfl
          refine pure_ (i := 5) (N := some 35) (v := ?_) (a' := ?_) #[true, true, true, true, true, true, false, true, true, true, true, false, false, false] rfl rfl (by kernel_rfl) (fun _ _ _ h => h) (Or.inl ⟨by rfl, ?_⟩) ?_ ?_
          rotate_left
          · intro w'
            go_simp
            with_reducible rfl
          rotate_left
          · simp only [Act.put, List.setIfInBounds_toArray, List.set_cons_zero, List.set_cons_succ, i64_w, i32_w]
            rfl
          refine take_ (i := 6) (N := some 36) (v := ?_) (a' := ?_) #[true, true, true, true, true, true, true, true, true, true, true, false, false, false] rfl rfl (by kernel_rfl) (fun _ _ _ h => h) (Or.inl ⟨by rfl, ?_⟩) hHeld ?_ ?_
          rotate_left
          · rintro w' ⟨s0, s1, s2, s3, s4, s5, s6⟩
            go_simp
            with_reducible rfl
          rotate_left
          · simp only [Act.put, List.setIfInBounds_toArray, List.set_cons_zero, List.set_cons_succ, i64_w, i32_w]
            rfl
          refine take_ (i := 11) (N := some 41) (v := ?_) (a' := ?_) #[true, true, true, true, true, true, true, true, true, true, true, true, false, false] rfl rfl (by kernel_rfl) (fun _ _ _ h => h) (Or.inl ⟨by rfl, ?_⟩) hHeld ?_ ?_
          rotate_left
          · rintro w' ⟨s0, s1, s2, s3, s4, s5, s6⟩
            go_simp
            with_reducible rfl
          rotate_left
          · simp only [Act.put, List.setIfInBounds_toArray, List.set_cons_zero, List.set_cons_succ, i64_w, i32_w]
            rfl
          refine pure_ (i := 12) (N := some 42) (v := ?_) (a' := ?_) #[true, true, true, true, true, true, true, true, true, true, true, true, true, false] rfl rfl (by kernel_rfl) (fun _ _ _ h => h) (Or.inl ⟨by rfl, ?_⟩) ?_ ?_
          rotate_left
          · intro w'
            go_simp
            with_reducible rfl
          rotate_left
          · simp only [Act.put, List.setIfInBounds_toArray, List.set_cons_zero, List.set_cons_succ, i64_w, i32_w]
            rfl
          refine last_ (i := 13) (N := none) #[true, true, true, true, true, true, true, true, true, true, true, true, true, true] rfl rfl (by kernel_rfl) (by decide) (fun K hK => ?_)
          refine Kd.R_store_step (Kd.int .i64) (w0 := w) base (by rfl) 3 (.tmp 42) (.tmp 41) (by rfl) 3 k (putG mkInts i k i l) (mkInts i k) (.int .i64 (mkInts i k)) [.int .i64 (mkInts i k)] (fun _ => True) (fun _ => False) (by rfl) (by show k = k * 1; omega) (by rfl) (by rfl) (by kernel_rfl) (by rfl) (by simp [Value.oneCell']) hHeld.2.2.2.2.2.2 hk1 rfl (fun _ h => h.elim) ?_ _
          intro w7 hR7 hG7
          refine hK.out _ _ ?_
          clear hK K
          refine done_ (by kernel_rfl) ?_
          have HS7 := Aside0.mk (hHeld.2.2.2.1.set (F' := putG mkInts i (k + 1)) rfl (by decide) (hHeld.2.2.2.2.1.base_le Hbase.out) hl hvs (by rw [putG_next mkInts i k l hk1]; exact hR7) hG7 (fun j x hj _ => putG_other mkInts i (k + 1) k j x hj))
          have HX7 := Aside0.mk (hHeld.2.2.2.2.1.trans (hHeld.2.2.2.1.grownFx hvs hl (hHeld.2.2.2.2.1.base_le Hbase.out) hG7))
          have HM7 := Aside0.mk (R_moved rfl hHeld.2.2.2.2.2.1 (fun q hq => hG7.block q (Kd.R_lt hHeld.2.2.2.2.2.1 q hq) (fun e => by
            injection e with e
            subst e
            have h1 : q < B0 := hvlt.out _ rfl
            have h2 := Kd.R_base hHeld.2.2.2.2.2.1 _ hq
            omega)))
          clear hHeld hR7 hG7
          go_wp2_with fail
          go_roundg kz
          case measure => omega
          case rel => exact ⟨k + 1, by omega, by go_num, HS7, HX7, HM7⟩
        · obtain rfl : k = l.length := by omega
          have hk2 : ¬ (l.length : Int) < (l.length : Int) := by omega
          have HS8 := Aside0.mk (HS.out.congr (fun j x hx => putG_full mkInts hl j x hx))
          go_wp2_with fail
          go_roundg kk
          case measure => omega
          case rel => exact ⟨i + 1, by omega, by go_num, HS8, HX⟩
    · obtain rfl : i = L.length := by omega
      have hlt' : ¬ (L.length : Int) < (L.length : Int) := by omega
      have HS9 := Aside0.mk (HS.out.congr (F' := fun i l => marks mkInts i 0 l.length) (fun j x hx => (putF_all mkInts _ j x (List.getElem?_eq_some_iff.1 hx).1).symm))
      go_wp2_with fail
      go_end0
      exact ⟨rfl, HS9.out, HX.out⟩
set_option maxRecDepth 100000 in
set_option maxHeartbeats 3200000 in
theorem put_Extents (g base : Nat) (VI UI VS US : Value) (V U : Value) (vs : List Value) (L : List (List S96)) (w : World) (hb : Blk w g 60 (bookC VI UI VS US V U)) (hS : Shelf k96 96 38 w base V vs L (fun _ l => l))
    (hL : L.length ≤ 250) (hB : ∀ (i : Nat) l, L[i]? = some l → l.length ≤ 1000000) (hbase : base ≤ w.heap.size) :
    Calls Try.prog 76 #[.pointer (some ⟨g, 0, none⟩)] w fun e w' => e = .returned (.tuple #[]) ∧ Shelf k96 96 38 w' base V vs L (fun i l => marks mkExtents i 0 l.length) ∧ FxT 96 base w w' := by
  obtain ⟨A, n, rfl⟩ := row_slice hS.hV
  have HB := Aside0.mk hb
  have HS := Aside0.mk (hS.congr (F' := putF mkExtents 0) (fun i l _ => putF_zero _ i l))
  have HBd := Aside0.mk hB
  have HL := Aside0.mk hL
  have Hbase := Aside0.mk hbase
  clear hb hS hB hL hbase
  go_enter Try.func76, Try.ntmps76
  go_wp2_with fail
  go_loopg [2] L.length (fun kq v wq => ∃ i : Nat, i + kq = L.length ∧ v = .int .i64 (i : Int) ∧ Aside0 (Shelf k96 96 38 wq base (.slice A L.length n) vs L (putF mkExtents i)) ∧ Aside0 (FxT 96 base w wq))
  case atStart => exact ⟨0, by omega, rfl, HS, ⟨FxT.refl _ _ _⟩⟩
  case round =>
    clear HS
    obtain ⟨i, hi, rfl, HS, HX⟩ := hrel
    have hb1 := HX.out.blk HB.out (by decide)
    have c4 := hb1.cell (i := 6) (v := .slice A L.length n) rfl
    clear hb1
    by_cases hlt : i < L.length
    · have hlt' : (i : Int) < (L.length : Int) := by omega
      have hi' : (i : Int) ≤ 250 := by have := HL.out; omega
      have hi2 : i ≤ 250 := by omega
      obtain ⟨kk, rfl⟩ : ∃ z, gk = z + 1 := ⟨gk - 1, by omega⟩
      obtain ⟨l, hl⟩ : ∃ l, L[i]? = some l := ⟨_, List.getElem?_eq_getElem hlt⟩
      have hbd := HBd.out i l hl
      obtain ⟨gv, cV, Av, cv, hVe, hcell, hvs, hR, hle, _⟩ := HS.out.at hl
      rw [putF_self] at hcell hvs hle hR
      have hvlt := Aside0.mk (Kd.R_lt hR)
      clear hR
      injection hVe with q1 q2 q3
      subst q1; subst q3
      have hmk := Aside0.mk (markExtents_f i 0 l.length (l.length + 1) (by omega) (by omega) (by omega))
      go_wp2_with fail
      refine (emulsionbook_markExtents.calls (l.length + 1) (i : Int) 0 (l.length : Int) _ _ hmk.out).mono ?_
      rintro e w2 ⟨vm, rfl, hrm, hbm⟩
      obtain ⟨Am, cm, hvm, hcm, _⟩ := Kd.R_reads hrm
      rw [marks_length] at hvm hcm
      subst hvm
      have HM := Aside0.mk hrm
      have HS2 := Aside0.mk ((HS.out.below hbm).congr (F' := putG mkExtents i 0) (fun j x _ => putG_zero _ i j x))
      have HX2 := Aside0.mk (HX.out.below hbm Hbase.out)
      clear hrm hcell hbm HS HX c4
      obtain ⟨B0, hB0⟩ : ∃ b, b = wr.heap.size := ⟨_, rfl⟩
      rw [← hB0] at HM hvlt
      clear hB0
      have hcmx := Aside0.mk hcm
      clear hcm
      go_wp2_with fail
      go_loopg [4] l.length (fun kq v wq => ∃ k : Nat, k + kq = l.length ∧ v = .int .i64 (k : Int) ∧ Aside0 (Shelf k96 96 38 wq base (.slice (some ⟨gv, 0, none⟩) L.length n) vs L (putG mkExtents i k)) ∧ Aside0 (FxT 96 base w wq) ∧ Aside0 (Kd.R k96 96 wq B0 (fun _ => True) (.slice Am l.length cm) (marks mkExtents i 0 l.length)))
      case atStart => exact ⟨0, by omega, rfl, HS2, HX2, HM⟩
      case round =>
        clear HS2 HX2 HM
        obtain ⟨k, hk, rfl, HS, HX, HM⟩ := hrel
        by_cases hk1 : k < l.length
        · have hk2 : (k : Int) < (l.length : Int) := by omega
          have hk3 : (k : Int) ≤ 1000000 := by omega
          obtain ⟨kz, rfl⟩ : ∃ z, gk = z + 1 := ⟨gk - 1, by omega⟩
          obtain ⟨gv', cV', Av', cv', hVe, hcell, hvs', hR, hle', _⟩ := HS.out.at hl
          rw [putG_len mkExtents i k l (by omega)] at hcell hvs' hle' hR
          rw [hvs] at hvs'
          injection hvs' with hvs'; injection hvs' with q1 q2 q3
          injection hVe with q4 q5 q6
          injection q4 with q4; injection q4 with q4
          subst q1; subst q3; subst q4; subst q6
          obtain ⟨gl, hAv, hgl1, hgl2, _⟩ := row_at0 hR (by rw [putG_len mkExtents i k l (by omega)]; omega)
          obtain ⟨gm, hAm, hgm1, hgm2, hCm⟩ := row_at0 HM.out (by rw [marks_length]; omega)
          subst hAv; subst hAm
          obtain ⟨cm_, hK, hcm⟩ := C_at0 hCm (marks_get mkExtents i l.length 0 k hk1)
          rw [Nat.zero_add] at hK
          obtain rfl := k96_open hK
          have hm0 := hcm 0 _ rfl
          rw [show k * k96.sz + 0 = k * 3 from by show k * 3 + 0 = k * 3; omega] at hm0
          have hm1 := hcm 1 _ rfl
          rw [show k * k96.sz + 1 = k * 3 + 1 from by show k * 3 + 1 = k * 3 + 1; omega] at hm1
          have hm2 := hcm 2 _ rfl
          rw [show k * k96.sz + 2 = k * 3 + 2 from by show k * 3 + 2 = k * 3 + 2; omega] at hm2
          have hb1 := HX.out.blk HB.out (by decide)
          have c4 := hb1.cell (i := 6) (v := .slice (some ⟨gv, 0, none⟩) L.length n) rfl
          have HR := Aside0.mk hR
          clear hb1 hCm hcm hR
          try clear hK
          go_wp2_with fail
          refine start_ (n := 14) (S := fun w' => w'.cell? ⟨g, 6, none⟩ = some (.slice (some ⟨gv, 0, none⟩) L.length n) ∧ w'.cell? ⟨gv, i, none⟩ = some (.slice (some ⟨gl, 0, none⟩) l.length cv) ∧ w'.cell? ⟨gm, k * 3, none⟩ = some (.int .i64 (mkExtents i k).f0) ∧ w'.cell? ⟨gm, k * 3 + 1, none⟩ = some (.int .i64 (mkExtents i k).f1) ∧ w'.cell? ⟨gm, k * 3 + 2, none⟩ = some (.int .i64 (mkExtents i k).f2) ∧ Shelf k96 96 38 w' base (.slice (some ⟨gv, 0, none⟩) L.length n) vs L (putG mkExtents i k) ∧ FxT 96 base w w' ∧ Kd.R k96 96 w' B0 (fun _ => True) (.slice (some ⟨gm, 0, none⟩) l.length cm) (marks mkExtents i 0 l.length) ∧ Kd.R k96 96 w' base (fun _ => True) (.slice (some ⟨gl, 0, none⟩) l.length cv) (putG mkExtents i k i l)) (ds := [13]) #[false, false, false, false, false, false, false, false, false, false, false, false, false, false] (by kernel_rfl) rfl rfl ⟨c4, hcell, hm0, hm1, hm2, (HS.out.below (below_drew (Below.refl _ _))), HX.out.drew, (Kd.R_drew HM.out), (Kd.R_drew HR.out)⟩ (fun hHeld => ?_)
          refine pure_ (i := 0) (N := some 30) (v := ?_) (a' := ?_) #[true, false, false, false, false, false, false, false, false, false, false, false, false, false] rfl rfl (by kernel_rfl) (fun _ _ _ h => h) (Or.inl ⟨by rfl, ?_⟩) ?_ ?_
          rotate_left
          · intro w'
            go_simp
            with_reducible rfl
          rotate_left
          · simp only [Act.put, List.setIfInBounds_toArray, List.set_cons_zero, List.set_cons_succ, i64_w, i32_w]
            rfl
          refine pure_ (i := 1) (N := some 31) (v := ?_) (a' := ?_) #[true, true, false, false, false, false, false, false, false, false, false, false, false, false] rfl rfl (by kernel_rfl) (fun _ _ _ h => h) (Or.inl ⟨by rfl, ?_⟩) ?_ ?_
          rotate_left
          · intro w'
            go_simp
            with_reducible rfl
          rotate_left
          · simp only [Act.put, List.setIfInBounds_toArray, List.set_cons_zero, List.set_cons_succ, i64_w, i32_w]
            rfl
          refine pure_ (i := 2) (N := some 32) (v := ?_) (a' := ?_) #[true, true, true, false, false, false, false, false, false, false, false, false, false, false] rfl rfl (by kernel_rfl) (fun _ _ _ h => h) (Or.inl ⟨by rfl, ?_⟩) ?_ ?_
          rotate_left
          · intro w'
            go_simp
            with_reducible rfl
          rotate_left
          · simp only [Act.put, List.setIfInBounds_toArray, List.set_cons_zero, List.set_cons_succ, i64_w, i32_w]
            rfl
          refine pure_ (i := 4) (N := some 34) (v := ?_) (a' := ?_) #[true, true, true, false, true, false, false, false, false, false, false, false, false, false] rfl rfl (by kernel_rfl) (fun _ _ _ h => h) (Or.inl ⟨by rfl, ?_⟩) ?_ ?_
          rotate_left
          · intro w'
            go_simp
            with_reducible rfl
          rotate_left
          · simp only [Act.put, List.setIfInBounds_toArray, List.set_cons_zero, List.set_cons_succ, i64_w, i32_w]
            rfl
          refine pure_ (i := 7) (N := some 37) (v := ?_) (a' := ?_) #[true, true, true, false, true, false, false, true, false, false, false, false, false, false] rfl rfl (by kernel_rfl) (fun _ _ _ h => h) (Or.inl ⟨by rfl, ?_⟩) ?_ ?_
          rotate_left
          · intro w'
            go_simp
            with_reducible rfl
          rotate_left
          · simp only [Act.put, List.setIfInBounds_toArray, List.set_cons_zero, List.set_cons_succ, i64_w, i32_w]
            rfl
          refine pure_ (i := 8) (N := some 38) (v := ?_) (a' := ?_) #[true, true, true, false, true, false, false, true, true, false, false, false, false, false] rfl rfl (by kernel_rfl) (fun _ _ _ h => h) (Or.inl ⟨by rfl, ?_⟩) ?_ ?_
          rotate_left
          · intro w'
            go_simp
            with_reducible rfl
          rotate_left
          · simp only [Act.put, List.setIfInBounds_toArray, List.set_cons_zero, List.set_cons_succ, i64_w, i32_w]
            rfl
          refine pure_ (i := 9) (N := some 39) (v := ?_) (a' := ?_) #[true, true, true, false, true, false, false, true, true, true, false, false, false, false] rfl rfl (by kernel_rfl) (fun _ _ _ h => h) (Or.inl ⟨by rfl, ?_⟩) ?_ ?_
          rotate_left
          · intro w'
            go_simp
            with_reducible rfl
          rotate_left
          · simp only [Act.put, List.setIfInBounds_toArray, List.set_cons_zero, List.set_cons_succ, i64_w, i32_w]
            rfl
          refine pure_ (i := 10) (N := some 40) (v := ?_) (a' := ?_) #[true, true, true, false, true, false, false, true, true, true, true, false, false, false] rfl rfl (by kernel_rfl) (fun _ _ _ h => h) (Or.inl ⟨by rfl, ?_⟩) ?_ ?_
          rotate_left
          · intro w'
            go_simp
            with_reducible rfl
          rotate_left
          · simp only [Act.put, List.setIfInBounds_toArray, List.set_cons_zero, List.set_cons_succ, i64_w, i32_w]
            rfl
          refine take_ (i := 3) (N := some 33) (v := ?_) (a' := ?_) #[true, true, true, true, true, false, false, true, true, true, true, false, false, false] rfl rfl (by kernel_rfl) (fun _ _ _ h => h) (Or.inl ⟨by rfl, ?_⟩) hHeld ?_ ?_
          rotate_left
          · rintro w' ⟨s0, s1, s2, s3, s4, s5, s6, s7, s8⟩
            go_simp
            with_reducible rfl
          rotate_left
          · simp only [Act.put, List.setIfInBounds_toArray, List.set_cons_zero, List.set_cons_succ, i64_w, i32_w]
            rfl
          refine pure_ (i := 5) (N := some 35) (v := ?_) (a' := ?_) #[true, true, true, true, true, true, false, true, true, true, true, false, false, false] rfl rfl (by kernel_rfl) (fun _ _ _ h => h) (Or.inl ⟨by rfl, ?_⟩) ?_ ?_
          rotate_left
          · intro w'
            go_simp
            with_reducible rfl
          rotate_left
          · simp only [Act.put, List.setIfInBounds_toArray, List.set_cons_zero, List.set_cons_succ, i64_w, i32_w]
            rfl
          refine take_ (i := 6) (N := some 36) (v := ?_) (a' := ?_) #[true, true, true, true, true, true, true, true, true, true, true, false, false, false] rfl rfl (by kernel_rfl) (fun _ _ _ h => h) (Or.inl ⟨by rfl, ?_⟩) hHeld ?_ ?_
          rotate_left
          · rintro w' ⟨s0, s1, s2, s3, s4, s5, s6, s7, s8⟩
            go_simp
            with_reducible rfl
          rotate_left
          · simp only [Act.put, List.setIfInBounds_toArray, List.set_cons_zero, List.set_cons_succ, i64_w, i32_w]
            rfl
          refine take_ (i := 11) (N := some 41) (v := ?_) (a' := ?_) #[true, true, true, true, true, true, true, true, true, true, true, true, false, false] rfl rfl (by kernel_rfl) (fun _ _ _ h => h) (Or.inl ⟨by rfl, ?_⟩) hHeld ?_ ?_
          rotate_left
          · rintro w' ⟨s0, s1, s2, s3, s4, s5, s6, s7, s8⟩
            go_simp
            with_reducible rfl
          rotate_left
          · simp only [Act.put, List.setIfInBounds_toArray, List.set_cons_zero, List.set_cons_succ, i64_w, i32_w]
            rfl
          refine pure_ (i := 12) (N := some 42) (v := ?_) (a' := ?_) #[true, true, true, true, true, true, true, true, true, true, true, true, true, false] rfl rfl (by kernel_rfl) (fun _ _ _ h => h) (Or.inl ⟨by rfl, ?_⟩) ?_ ?_
          rotate_left
          · intro w'
            go_simp
            with_reducible rfl
          rotate_left
          · simp only [Act.put, List.setIfInBounds_toArray, List.set_cons_zero, List.set_cons_succ, i64_w, i32_w]
            rfl
          refine last_ (i := 13) (N := none) #[true, true, true, true, true, true, true, true, true, true, true, true, true, true] rfl rfl (by kernel_rfl) (by decide) (fun K hK => ?_)
          refine Kd.R_store_step k96 (w0 := w) base (by rfl) 96 (.tmp 42) (.tmp 41) (by rfl) 96 k (putG mkExtents i k i l) (mkExtents i k) (.agg #[.int .i64 (mkExtents i k).f0, .int .i64 (mkExtents i k).f1, .int .i64 (mkExtents i k).f2]) [.int .i64 (mkExtents i k).f0, .int .i64 (mkExtents i k).f1, .int .i64 (mkExtents i k).f2] (fun _ => True) (fun _ => False) (by rfl) (by rfl) (by rfl) (by rfl) (by kernel_rfl) (by rfl) (by simp [Value.oneCell']) hHeld.2.2.2.2.2.2.2.2 hk1 (k96_mkM _ _ _ _) (fun _ h => h.elim) ?_ _
          intro w7 hR7 hG7
          refine hK.out _ _ ?_
          clear hK K
          refine done_ (by kernel_rfl) ?_
          have HS7 := Aside0.mk (hHeld.2.2.2.2.2.1.set (F' := putG mkExtents i (k + 1)) rfl (by decide) (hHeld.2.2.2.2.2.2.1.base_le Hbase.out) hl hvs (by rw [putG_next mkExtents i k l hk1]; exact hR7) hG7 (fun j x hj _ => putG_other mkExtents i (k + 1) k j x hj))
          have HX7 := Aside0.mk (hHeld.2.2.2.2.2.2.1.trans (hHeld.2.2.2.2.2.1.grownFx hvs hl (hHeld.2.2.2.2.2.2.1.base_le Hbase.out) hG7))
          have HM7 := Aside0.mk (R_moved rfl hHeld.2.2.2.2.2.2.2.1 (fun q hq => hG7.block q (Kd.R_lt hHeld.2.2.2.2.2.2.2.1 q hq) (fun e => by
            injection e with e
            subst e
            have h1 : q < B0 := hvlt.out _ rfl
            have h2 := Kd.R_base hHeld.2.2.2.2.2.2.2.1 _ hq
            omega)))
          clear hHeld hR7 hG7
          go_wp2_with fail
          go_roundg kz
          case measure => omega
          case rel => exact ⟨k + 1, by omega, by go_num, HS7, HX7, HM7⟩
        · obtain rfl : k = l.length := by omega
          have hk2 : ¬ (l.length : Int) < (l.length : Int) := by omega
          have HS8 := Aside0.mk (HS.out.congr (fun j x hx => putG_full mkExtents hl j x hx))
          go_wp2_with fail
          go_roundg kk
          case measure => omega
          case rel => exact ⟨i + 1, by omega, by go_num, HS8, HX⟩
    · obtain rfl : i = L.length := by omega
      have hlt' : ¬ (L.length : Int) < (L.length : Int) := by omega
      have HS9 := Aside0.mk (HS.out.congr (F' := fun i l => marks mkExtents i 0 l.length) (fun j x hx => (putF_all mkExtents _ j x (List.getElem?_eq_some_iff.1 hx).1).symm))
      go_wp2_with fail
      go_end0
      exact ⟨rfl, HS9.out, HX.out⟩
end Go.Proofs.Ytacmfpkmcefcfaa.Hand
end
section
namespace Go.Proofs.Ytacmfpkmcefcfaa.Hand
open Go.RowKit Go.Proofs.YtacmfpkmcefcfaaW.PrintWords Go.Proofs.YtacmfpkmcefcfaaW.PrintLast Go.Proofs.YtacmfpkmcefcfaaW.PrintMore Go.Proofs.Ytacmfpkmcefcfaa.A
set_option linter.unusedVariables false
set_option linter.unusedSimpArgs false
section
variable {α : Type} {d : Kd α} {e eL : Nat} {w0 w1 w w2 : World} {base i : Nat} {vs os : List Value} {L : List (List α)} {v cur cur2 O O2 V : Value} {l M ys : List α} {F G : Nat → List α → List α}
/-- What the lists show: for the law that looks at them. -/
def Shows (d : Kd α) (e eL : Nat) (w : World) (base : Nat) (V : Value) (vs : List Value) (L : List (List α)) (F : Nat → List α → List α) : Prop :=
  w.ownsRow base eL 1 V L.length vs ∧ ∀ (i : Nat) v l, vs[i]? = some v → L[i]? = some l → Sees d e w v (F i l)
theorem Shows.below (hK : Flat d) (h : Shows d e eL w base V vs L F) (hb : Below w.heap.size w w1) : Shows d e eL w1 base V vs L F :=
  ⟨own_move h.1 (fun k hk => hb.block k (own_lt h.1 k hk)), fun i v l hv hl => (h.2 i v l hv hl).below hK hb⟩
theorem Shows.fx {T B : Nat} (hK : Flat d) (h : Shows d e eL w base V vs L F) (hx : FxT T B w w1) (h1 : e ≠ T) (h2 : eL ≠ T) : Shows d e eL w1 base V vs L F :=
  ⟨hx.own h.1 h2, fun i v l hv hl => (h.2 i v l hv hl).fx hK hx h1⟩
theorem Shows.calls {n c : Nat} {A : Option Addr} (h : Shows d e eL w base (.slice A n c) vs L F) : n = (L.mapIdx F).length ∧ (L.mapIdx F).length ≤ c ∧ Kd.C (Kd.slice e d) w A (L.mapIdx F).length (L.mapIdx F) := by
  have hlen : (L.mapIdx F).length = L.length := List.length_mapIdx
  refine lists_C (eL := eL) (base := base) (vs := vs) (by rw [hlen]; exact h.1) (fun i v l hv hl => ?_)
  rw [List.getElem?_mapIdx] at hl
  obtain ⟨l0, hl0, rfl⟩ := Option.map_eq_some_iff.1 hl
  exact (h.2 i v l0 hv hl0).reads
/-- One list is being grown. -/
structure Cur (d : Kd α) (e : Nat) (w1 w : World) (base : Nat) (v cur : Value) (M l : List α) : Prop where
  r : d.R e w base (fun _ => True) cur l
  g : w1.grownBy w v.ownBlock
  at_ : cur.ownBlock = v.ownBlock ∨ ∀ k, cur.ownBlock = some k → w1.heap.size ≤ k
  s : Sees d e w v M
  len : M.length ≤ l.length
theorem Cur.start (h : d.R e w base (fun _ => True) v M) : Cur d e w w base v v M M := ⟨h, World.grownBy.refl w _, .inl rfl, Sees.of_R h, Nat.le_refl _⟩
theorem Cur.below (hK : Flat d) (h : Cur d e w1 w base v cur M l) (hb : Below w.heap.size w w2) : Cur d e w1 w2 base v cur M l :=
  ⟨Kd.R_below h.r hb, ⟨hb.os.trans h.g.os, hb.tape.trans h.g.tape, hb.output.trans h.g.output, Nat.le_trans h.g.size hb.size, fun k hk hn => (hb.block k (Nat.lt_of_lt_of_le hk h.g.size)).trans (h.g.block k hk hn)⟩, h.at_, h.s.below hK hb, h.len⟩
theorem Cur.more (hK : Flat d) (h : Cur d e w1 w base v cur M l) (hr : d.R e w2 base (fun _ => True) cur2 (l ++ ys)) (hg : w.grownBy w2 cur.ownBlock) (hat : cur2.ownBlock = cur.ownBlock ∨ ∃ b, cur2.ownBlock = some b ∧ w.heap.size ≤ b) (hk : Kept e w w2 cur (l.length * d.sz)) : Cur d e w1 w2 base v cur2 M (l ++ ys) := by
  refine ⟨hr, ⟨hg.os.trans h.g.os, hg.tape.trans h.g.tape, hg.output.trans h.g.output, Nat.le_trans h.g.size hg.size, fun k hk hn => (hg.block k (Nat.lt_of_lt_of_le hk h.g.size) (fun q => ?_)).trans (h.g.block k hk hn)⟩, ?_, h.s.kept hK hg hk (Nat.mul_le_mul_right _ h.len), by have := h.len; rw [List.length_append]; omega⟩
  · rcases h.at_ with ha | ha
    · exact hn (q.trans ha)
    · have := ha k q.symm; omega
  · rcases hat with hat | ⟨b, hb, hle⟩
    · rw [hat]; exact h.at_
    · right
      intro k hk'
      rw [hb] at hk'
      injection hk' with hk'
      have := h.g.size
      omega
/-- So many lists are grown. -/
structure Grown (d : Kd α) (e eL : Nat) (w0 w : World) (base : Nat) (O : Value) (vs os : List Value) (L : List (List α)) (F G : Nat → List α → List α) (i : Nat) : Prop where
  hO : w.ownsRow w0.heap.size eL 1 O i os
  fx : FxT e base w0 w
  lt : ∀ (j : Nat) v k, vs[j]? = some v → v.ownBlock = some k → k < w0.heap.size ∧ base ≤ k ∧ ∃ cs, w0.heap[k]? = some (.cells cs e (0, 0))
  sees : ∀ (j : Nat) v l, vs[j]? = some v → L[j]? = some l → Sees d e w v (F j l)
  rest : ∀ (j : Nat) v l, i ≤ j → vs[j]? = some v → L[j]? = some l → d.R e w base (fun _ => True) v (F j l)
  outs : ∀ (j : Nat) v l, os[j]? = some v → L[j]? = some l → d.R e w base (fun _ => True) v (G j l) ∧ ∀ k, v.ownBlock = some k → w0.heap.size ≤ k ∨ ∃ x, vs[j]? = some x ∧ x.ownBlock = some k
theorem Shelf.grown (h : Shelf d e eL w base V vs L F) : Grown d e eL w w base (.slice none 0 0) vs [] L F G 0 := by
  refine ⟨World.ownsRow_nil w _ _ 1, FxT.refl _ _ _, fun j v k hv hk => ?_, fun j v l hv hl => Sees.of_R (h.rv.2 j v l hv hl), fun j v l _ hv hl => h.rv.2 j v l hv hl, fun j v l hv => by simp at hv⟩
  have hj : j < L.length := by rw [← h.rv.1]; exact (List.getElem?_eq_some_iff.1 hv).1
  have hr := h.rv.2 j v _ hv (List.getElem?_eq_getElem hj)
  exact ⟨Kd.R_lt hr k hk, Kd.R_base hr k hk, Kd.R_typed hr k hk⟩
/-- The next list has grown, and is kept among the grown ones. -/
theorem Grown.next (hE : d.E = []) (hK : Flat d) (hne : eL ≠ e) (hp : vs.Pairwise NeRow) (hb : base ≤ w0.heap.size) (h : Grown d e eL w0 w1 base O vs os L F G i) (hv : vs[i]? = some v) (hl : L[i]? = some l) (c : Cur d e w1 w base v cur (F i l) (G i l))
    (hO2 : w2.ownsRow w0.heap.size eL 1 O2 (i + 1) (os ++ [cur])) (hg : w.grownBy w2 O.ownBlock) : Grown d e eL w0 w2 base O2 vs (os ++ [cur]) L F G (i + 1) := by
  have z0 : w0.heap.size ≤ w1.heap.size := h.fx.1.size
  have z1 : w1.heap.size ≤ w.heap.size := c.g.size
  have hlen : os.length = i := by have := h.hO.1; omega
  have hvb : ∀ k, v.ownBlock = some k → k < w0.heap.size ∧ base ≤ k ∧ ∃ cs, w0.heap[k]? = some (.cells cs e (0, 0)) := fun k hk => h.lt i v k hv hk
  have hOb : ∀ k, O.ownBlock = some k → w0.heap.size ≤ k := fun k hk => own_base h.hO k hk
  -- blocks below the first world's end, but v's
  have old : ∀ k, k < w0.heap.size → some k ≠ v.ownBlock → w2.heap[k]? = w1.heap[k]? := fun k hk hn => (hg.block k (by omega) (fun q => by have := hOb k q.symm; omega)).trans (c.g.block k (by omega) hn)
  have new : ∀ k, w0.heap.size ≤ k → k < w1.heap.size → some k ≠ O.ownBlock → w2.heap[k]? = w1.heap[k]? := fun k hk hk1 hn => (hg.block k (by omega) hn).trans (c.g.block k hk1 (fun q => by have := (hvb k q.symm).1; omega))
  have hOw : w.ownsRow w0.heap.size eL 1 O i os := own_move h.hO (fun k hk => c.g.block k (own_lt h.hO k hk) (fun q => by have := (hvb k q.symm).1; have := hOb k hk; omega))
  refine ⟨hO2, ?_, h.lt, fun j x y hx hy => ?_, fun j x y hj hx hy => ?_, fun j x y hx hy => ?_⟩
  · -- only blocks of the one type
    refine ⟨⟨hg.os.trans (c.g.os.trans h.fx.1.os), hg.tape.trans (c.g.tape.trans h.fx.1.tape), hg.output.trans (c.g.output.trans h.fx.1.output), by have := hg.size; omega, fun k hk => ?_⟩, fun k hk hc => ?_⟩
    · exact (old k (by omega) (fun q => by have := (hvb k q.symm).2.1; omega)).trans (h.fx.1.block k hk)
    · exact (old k hk (fun q => by obtain ⟨cs, hcs⟩ := (hvb k q.symm).2.2; exact hc cs hcs)).trans (h.fx.2 k hk hc)
  · by_cases hj : j = i
    · subst hj
      rw [hv] at hx; rw [hl] at hy
      injection hx with hx; injection hy with hy
      subst hx; subst hy
      exact c.s.move hK (fun k hk => hg.block k (c.s.lt hk) (fun q => by have := (hvb k hk).1; have := hOb k q.symm; omega))
    · refine (h.sees j x y hx hy).move hK (fun k hk => old k (h.lt j x k hx hk).1 (fun q => ne_of_pair hp hv hx hj k q.symm hk))
  · refine R_moved hE (h.rest j x y (by omega) hx hy) (fun k hk => old k (h.lt j x k hx hk).1 (fun q => ne_of_pair hp hv hx (by omega) k q.symm hk))
  · by_cases hj : j < os.length
    · rw [List.getElem?_append_left hj] at hx
      obtain ⟨hr, ho⟩ := h.outs j x y hx hy
      refine ⟨R_moved hE hr (fun k hk => ?_), ho⟩
      rcases ho k hk with hk0 | ⟨x', hx', hk'⟩
      · refine new k hk0 (Kd.R_lt hr k hk) (fun q => ?_)
        obtain ⟨cs, hcs⟩ := own_typed h.hO k q.symm
        obtain ⟨cs', hcs'⟩ := Kd.R_typed hr k hk
        rw [hcs] at hcs'; injection hcs' with hcs'; injection hcs' with _ hcs'; exact hne hcs'
      · exact old k (h.lt j x' k hx' hk').1 (fun q => ne_of_pair hp hv hx' (by omega) k q.symm hk')
    · rw [List.getElem?_append_right (by omega)] at hx
      have hji : j = i := by
        rcases Nat.eq_zero_or_pos (j - os.length) with h0 | h0
        · omega
        · rw [List.getElem?_eq_none (by simp; omega)] at hx; cases hx
      subst hji
      rw [hlen, Nat.sub_self] at hx
      rw [hl] at hy
      injection hx with hx; injection hy with hy
      subst hx; subst hy
      refine ⟨R_moved hE c.r (fun k hk => hg.block k (Kd.R_lt c.r k hk) (fun q => ?_)), fun k hk => ?_⟩
      · obtain ⟨cs, hcs⟩ := own_typed hOw k q.symm
        obtain ⟨cs', hcs'⟩ := Kd.R_typed c.r k hk
        rw [hcs] at hcs'; injection hcs' with hcs'; injection hcs' with _ hcs'; exact hne hcs'
      · rcases c.at_ with ha | ha
        · exact .inr ⟨v, hv, by rw [← ha]; exact hk⟩
        · have := ha k hk; exact .inl (by omega)
theorem Grown.O_at (h : Grown d e eL w0 w1 base O vs os L F G i) (hv : vs[i]? = some v) (c : Cur d e w1 w base v cur M l) : w.ownsRow w0.heap.size eL 1 O i os ∧ w0.heap.size ≤ w.heap.size :=
  ⟨own_move h.hO (fun k hk => c.g.block k (own_lt h.hO k hk) (fun q => by have := (h.lt i v k hv q.symm).1; have := own_base h.hO k hk; omega)), Nat.le_trans h.fx.1.size c.g.size⟩
theorem Grown.shows (hV : w0.ownsRow base eL 1 V L.length vs) (hne : eL ≠ e) (h : Grown d e eL w0 w base O vs os L F G L.length) : Shows d e eL w w0.heap.size O os L G ∧ Shows d e eL w base V vs L F ∧ FxT e base w0 w :=
  ⟨⟨h.hO, fun j v l hv hl => Sees.of_R (h.outs j v l hv hl).1⟩, ⟨h.fx.own hV hne, fun j v l hv hl => h.sees j v l hv hl⟩, h.fx⟩
end
end Go.Proofs.Ytacmfpkmcefcfaa.Hand
end
section
namespace Go.Proofs.Ytacmfpkmcefcfaa.Hand
open Go.RowKit Go.Proofs.YtacmfpkmcefcfaaW.PrintWords Go.Proofs.YtacmfpkmcefcfaaW.PrintLast Go.Proofs.YtacmfpkmcefcfaaW.PrintMore Go.Proofs.Ytacmfpkmcefcfaa.A
set_option linter.unusedVariables false
set_option linter.unusedSimpArgs false
attribute [local go_sem] max2_int min2_int max_two min_two max_three min_three max_four min_four
theorem marks_app0 {α : Type} (mk : Nat → Nat → α) (i n m : Nat) : marks mk i 0 n ++ marks mk i n m = marks mk i 0 (n + m) := by rw [marks_app, Nat.zero_add]
theorem ginfoSpans : (Try.prog.info? 119).map (fun i => (i.zero, i.size, i.bytes)) = some (some (.agg #[.int .i64 0, .int .i64 0]), k119.sz, 16) := by kernel_rfl
theorem ginfoLSpans : (Try.prog.info? 128).map (fun i => (i.zero, i.size, i.bytes)) = some (some (.slice none 0 0), 1, 24) := by kernel_rfl
theorem flatSpans : Flat k119 := fun w w1 x cs h => by obtain rfl := k119_open h; exact k119_mk _ _
set_option maxRecDepth 100000 in
set_option maxHeartbeats 3200000 in
theorem grow_Spans (g base : Nat) (VI UI VE UE : Value) (V U : Value) (vs : List Value) (L : List (List S119)) (w : World) (hb : Blk w g 60 (bookC VI UI V U VE UE)) (hS : Shelf k119 119 128 w base V vs L (fun i l => marks mkSpans i 0 l.length))
    (hL : L.length ≤ 250) (hB : ∀ (i : Nat) l, L[i]? = some l → l.length ≤ 1000000) (hbase : base ≤ w.heap.size) :
    Calls Try.prog 81 #[.pointer (some ⟨g, 0, none⟩)] w fun e w' => ∃ O, e = .returned O ∧ ∃ os, Shows k119 119 128 w' w.heap.size O os L (fun i l => marks mkSpans i 0 (l.length + 72)) ∧ Shows k119 119 128 w' base V vs L (fun i l => marks mkSpans i 0 l.length) ∧ FxT 119 base w w' := by
  obtain ⟨A, n, rfl⟩ := row_slice hS.hV
  have HB := Aside0.mk hb
  have HG := Aside0.mk (hS.grown (G := fun i l => marks mkSpans i 0 (l.length + 72)))
  have HV := Aside0.mk hS.hV
  have HP := Aside0.mk hS.ne
  have HBd := Aside0.mk hB
  have HL := Aside0.mk hL
  have Hbase := Aside0.mk hbase
  have hvl := Aside0.mk hS.rv.1
  clear hb hS hB hL hbase
  go_enter Try.func81, Try.ntmps81
  go_wp2_with fail
  go_loopg [3, 4] L.length (fun kq o v wq => ∃ (i : Nat) (os : List Value), i + kq = L.length ∧ v = .int .i64 (i : Int) ∧ Aside0 (Grown k119 119 128 w wq base o vs os L (fun i l => marks mkSpans i 0 l.length) (fun i l => marks mkSpans i 0 (l.length + 72)) i))
  case atStart => exact ⟨0, [], by omega, rfl, HG⟩
  case round =>
    clear HG
    obtain ⟨i, os, hi, rfl, HG⟩ := hrel
    obtain ⟨Ao, co, rfl⟩ := row_slice HG.out.hO
    have hb1 := HG.out.fx.blk HB.out (by decide)
    have c4 := hb1.cell (i := 4) (v := .slice A L.length n) rfl
    clear hb1
    by_cases hlt : i < L.length
    · have hlt' : (i : Int) < (L.length : Int) := by omega
      have hi' : (i : Int) ≤ 250 := by have := HL.out; omega
      have hi2 : i ≤ 250 := by omega
      obtain ⟨kk, rfl⟩ : ∃ z, gk = z + 1 := ⟨gk - 1, by omega⟩
      obtain ⟨l, hl⟩ : ∃ l, L[i]? = some l := ⟨_, List.getElem?_eq_getElem hlt⟩
      have hbd := Aside0.mk (HBd.out i l hl)
      obtain ⟨v, hv⟩ : ∃ v, vs[i]? = some v := ⟨_, List.getElem?_eq_getElem (by rw [hvl.out]; exact hlt)⟩
      have hr0 := HG.out.rest i v l (Nat.le_refl _) hv hl
      obtain ⟨gv, cV, hVe, _, _, _, hcells⟩ := row_cells (own_move HV.out (w1 := wr) (fun q hq => HG.out.fx.2 q (own_lt HV.out q hq) (fun cs hc => by
        obtain ⟨cs', hc'⟩ := own_typed HV.out q hq
        rw [hc'] at hc; injection hc with hc; injection hc with _ hc; exact absurd hc (by decide)))) (by omega)
      have hcell := hcells i v hv
      injection hVe with q1 q2 q3
      subst q1; subst q3
      have HC := Aside0.mk (Cur.start hr0)
      have Hbq : Aside0 (base ≤ wr.heap.size) := ⟨HG.out.fx.base_le Hbase.out⟩
      obtain ⟨Av, cv, hve, _, _⟩ := Kd.R_reads hr0
      rw [marks_length] at hve
      subst hve
      have HVi := Aside0.mk hv
      clear hr0 hcells hv
      go_wp2_with fail
      go_loopg [5, 6] 12 (fun kq c v wq => ∃ k N : Nat, k + kq = 12 ∧ Aside0 (N = l.length + k) ∧ v = .int .i64 (k : Int) ∧ Aside0 (Cur k119 119 wr wq base (.slice Av l.length cv) c (marks mkSpans i 0 l.length) (marks mkSpans i 0 N)) ∧ Aside0 (base ≤ wq.heap.size))
      case atStart => exact ⟨0, l.length, by omega, ⟨rfl⟩, rfl, HC, Hbq⟩
      case round =>
        clear HC Hbq
        obtain ⟨k, N, hk, hN, rfl, HC, Hbq⟩ := hrel
        obtain ⟨A5, c5, h5, _, _⟩ := Kd.R_reads HC.out.r
        rw [marks_length] at h5
        subst h5
        by_cases hk1 : k < 12
        · have hk2 : (k : Int) < 12 := by omega
          obtain ⟨kz, rfl⟩ : ∃ z, gk = z + 1 := ⟨gk - 1, by omega⟩
          go_wp2_with fail
          refine (emulsionbook_markSpans.calls 2 (i : Int) (N : Int) 1 _ _ (markSpans_f i N 1 2 (by omega) (by omega) (by have := hN.out; have := hbd.out; omega))).mono ?_
          rintro e w6 ⟨vm, rfl, hrm, hbm⟩
          obtain ⟨Am, cm, hvm, hcm, _⟩ := Kd.R_reads hrm
          rw [marks_length] at hvm hcm
          subst hvm
          obtain ⟨gm, hAm, _, _, hCm⟩ := row_at0 hrm (by rw [marks_length]; omega)
          subst hAm
          rw [marks_length] at hCm
          have HMc := Aside0.mk hCm
          replace HC := Aside0.mk (HC.out.below flatSpans hbm)
          replace Hbq := Aside0.mk (Nat.le_trans Hbq.out hbm.size)
          clear hrm hbm hcm hCm
          go_wp2_with (first | ((with_reducible refine gate_builtin (b := .append) (xs := #[.tmp 27, .tmp 31]) rfl ?_); at_builtin; refine Kd.R_append_kept k119 base rfl (.tmp 27) (.tmp 31) 128 119 (.agg #[.int .i64 0, .int .i64 0]) 16 rfl Try.underlying128 ginfoSpans rfl (by decide) (by decide) (.slice A5 N c5) (marks mkSpans i 0 N) (marks mkSpans i N 1) ⟨gm, 0, none⟩ 1 cm (fun _ => True) (fun _ => False) rfl rfl HC.out.r HMc.out (fun x cs h => by obtain rfl := k119_open h; exact k119_mkM _ _ _ _) (fun _ h => h.elim) (fun _ _ => trivial) (Below.refl _ _) Hbq.out (by rw [marks_length]; have := hN.out; have := hbd.out; omega) ?_; intro v7 w7 hr7 hb7 hg7 hat7 hk7; have HC7 := Aside0.mk (HC.out.more flatSpans hr7 hg7 hat7 hk7); have Hbq7 := Aside0.mk (Nat.le_trans Hbq.out hg7.size); clear hr7 hb7 hg7 hat7 hk7; rw [marks_app0] at HC7))
          go_roundg kz
          case measure => omega
          case rel => exact ⟨k + 1, N + 1, by omega, ⟨by have := hN.out; omega⟩, by go_num, HC7, Hbq7⟩
        · obtain rfl : k = 12 := by omega
          go_wp2_with fail
          refine (emulsionbook_markSpans.calls 61 (i : Int) (N : Int) 60 _ _ (markSpans_f i N 60 61 (by omega) (by omega) (by have := hN.out; have := hbd.out; omega))).mono ?_
          rintro e w6 ⟨vm, rfl, hrm, hbm⟩
          obtain ⟨Am, cm, hvm, hcm, _⟩ := Kd.R_reads hrm
          rw [marks_length] at hvm hcm
          subst hvm
          obtain ⟨gm, hAm, _, _, hCm⟩ := row_at0 hrm (by rw [marks_length]; omega)
          subst hAm
          rw [marks_length] at hCm
          have HMc := Aside0.mk hCm
          replace HC := Aside0.mk (HC.out.below flatSpans hbm)
          replace Hbq := Aside0.mk (Nat.le_trans Hbq.out hbm.size)
          clear hrm hbm hcm hCm
          go_wp2_with (first | ((with_reducible refine gate_builtin (b := .append) (xs := #[.tmp 34, .tmp 38]) rfl ?_); at_builtin; refine Kd.R_append_kept k119 base rfl (.tmp 34) (.tmp 38) 128 119 (.agg #[.int .i64 0, .int .i64 0]) 16 rfl Try.underlying128 ginfoSpans rfl (by decide) (by decide) (.slice A5 N c5) (marks mkSpans i 0 N) (marks mkSpans i N 60) ⟨gm, 0, none⟩ 60 cm (fun _ => True) (fun _ => False) rfl rfl HC.out.r HMc.out (fun x cs h => by obtain rfl := k119_open h; exact k119_mkM _ _ _ _) (fun _ h => h.elim) (fun _ _ => trivial) (Below.refl _ _) Hbq.out (by rw [marks_length]; have := hN.out; have := hbd.out; omega) ?_; intro v7 w7 hr7 hb7 hg7 hat7 hk7; have HC7 := Aside0.mk (HC.out.more flatSpans hr7 hg7 hat7 hk7); have Hbq7 := Aside0.mk (Nat.le_trans Hbq.out hg7.size); clear hr7 hb7 hg7 hat7 hk7; rw [marks_app0] at HC7; obtain ⟨A8, c8, h8, _, _⟩ := Kd.R_reads HC7.out.r; rw [marks_length] at h8; subst h8; have HO7 := Aside0.mk (HG.out.O_at HVi.out HC7.out)) | ((with_reducible refine gate_builtin (b := .append) (xs := #[.tmp 33, .tmp 40]) rfl ?_); at_builtin; refine print_append_cells (w0 := w7) w.heap.size rfl (.tmp 33) (.tmp 40) 54 128 (.slice none 0 0) 1 24 rfl Try.underlying54 ginfoLSpans rfl (by decide) (by decide) (.slice Ao i co) i os [.slice A8 (N + 60) c8] rfl rfl rfl (by intro u hu; rw [List.mem_singleton.1 hu]; rfl) HO7.out.1 (Below.refl _ _) HO7.out.2 (by omega) ?_; intro O9 w9 hO9 hb9 hg9 hat9; have hNe : N + 60 = l.length + 72 := (by have := hN.out; omega); rw [hNe] at HC7 hO9; have HG9 := Aside0.mk (HG.out.next rfl flatSpans (by decide) HP.out Hbase.out HVi.out hl HC7.out hO9 hg9); clear hNe hO9 hb9 hg9 hat9))
          go_roundg kk
          case measure => omega
          case rel => exact ⟨i + 1, _, by omega, by go_num, HG9⟩
    · obtain rfl : i = L.length := by omega
      have hlt' : ¬ (L.length : Int) < (L.length : Int) := by omega
      go_wp2_with fail
      go_ret
      have h := HG.out.shows HV.out (by decide)
      exact ⟨_, rfl, ⟨_, h.1⟩, h.2⟩
theorem ginfoInts : (Try.prog.info? 3).map (fun i => (i.zero, i.size, i.bytes)) = some (some (.int .i64 0), (Kd.int .i64).sz, 8) := by kernel_rfl
theorem ginfoLInts : (Try.prog.info? 75).map (fun i => (i.zero, i.size, i.bytes)) = some (some (.slice none 0 0), 1, 24) := by kernel_rfl
theorem flatInts : Flat (Kd.int .i64) := fun w w1 x cs h => h
set_option maxRecDepth 100000 in
set_option maxHeartbeats 3200000 in
theorem grow_Ints (g base : Nat) (VS US VE UE : Value) (V U : Value) (vs : List Value) (L : List (List Int)) (w : World) (hb : Blk w g 60 (bookC V U VS US VE UE)) (hS : Shelf (Kd.int .i64) 3 75 w base V vs L (fun i l => marks mkInts i 0 l.length))
    (hL : L.length ≤ 250) (hB : ∀ (i : Nat) l, L[i]? = some l → l.length ≤ 1000000) (hbase : base ≤ w.heap.size) :
    Calls Try.prog 80 #[.pointer (some ⟨g, 0, none⟩)] w fun e w' => ∃ O, e = .returned O ∧ ∃ os, Shows (Kd.int .i64) 3 75 w' w.heap.size O os L (fun i l => marks mkInts i 0 (l.length + 72)) ∧ Shows (Kd.int .i64) 3 75 w' base V vs L (fun i l => marks mkInts i 0 l.length) ∧ FxT 3 base w w' := by
  obtain ⟨A, n, rfl⟩ := row_slice hS.hV
  have HB := Aside0.mk hb
  have HG := Aside0.mk (hS.grown (G := fun i l => marks mkInts i 0 (l.length + 72)))
  have HV := Aside0.mk hS.hV
  have HP := Aside0.mk hS.ne
  have HBd := Aside0.mk hB
  have HL := Aside0.mk hL
  have Hbase := Aside0.mk hbase
  have hvl := Aside0.mk hS.rv.1
  clear hb hS hB hL hbase
  go_enter Try.func80, Try.ntmps80
  go_wp2_with fail
  go_loopg [3, 4] L.length (fun kq o v wq => ∃ (i : Nat) (os : List Value), i + kq = L.length ∧ v = .int .i64 (i : Int) ∧ Aside0 (Grown (Kd.int .i64) 3 75 w wq base o vs os L (fun i l => marks mkInts i 0 l.length) (fun i l => marks mkInts i 0 (l.length + 72)) i))
  case atStart => exact ⟨0, [], by omega, rfl, HG⟩
  case round =>
    clear HG
    obtain ⟨i, os, hi, rfl, HG⟩ := hrel
    obtain ⟨Ao, co, rfl⟩ := row_slice HG.out.hO
    have hb1 := HG.out.fx.blk HB.out (by decide)
    have c4 := hb1.cell (i := 2) (v := .slice A L.length n) rfl
    clear hb1
    by_cases hlt : i < L.length
    · have hlt' : (i : Int) < (L.length : Int) := by omega
      have hi' : (i : Int) ≤ 250 := by have := HL.out; omega
      have hi2 : i ≤ 250 := by omega
      obtain ⟨kk, rfl⟩ : ∃ z, gk = z + 1 := ⟨gk - 1, by omega⟩
      obtain ⟨l, hl⟩ : ∃ l, L[i]? = some l := ⟨_, List.getElem?_eq_getElem hlt⟩
      have hbd := Aside0.mk (HBd.out i l hl)
      obtain ⟨v, hv⟩ : ∃ v, vs[i]? = some v := ⟨_, List.getElem?_eq_getElem (by rw [hvl.out]; exact hlt)⟩
      have hr0 := HG.out.rest i v l (Nat.le_refl _) hv hl
      obtain ⟨gv, cV, hVe, _, _, _, hcells⟩ := row_cells (own_move HV.out (w1 := wr) (fun q hq => HG.out.fx.2 q (own_lt HV.out q hq) (fun cs hc => by
        obtain ⟨cs', hc'⟩ := own_typed HV.out q hq
        rw [hc'] at hc; injection hc with hc; injection hc with _ hc; exact absurd hc (by decide)))) (by omega)
      have hcell := hcells i v hv
      injection hVe with q1 q2 q3
      subst q1; subst q3
      have HC := Aside0.mk (Cur.start hr0)
      have Hbq : Aside0 (base ≤ wr.heap.size) := ⟨HG.out.fx.base_le Hbase.out⟩
      obtain ⟨Av, cv, hve, _, _⟩ := Kd.R_reads hr0
      rw [marks_length] at hve
      subst hve
      have HVi := Aside0.mk hv
      clear hr0 hcells hv
      go_wp2_with fail
      go_loopg [5, 6] 12 (fun kq c v wq => ∃ k N : Nat, k + kq = 12 ∧ Aside0 (N = l.length + k) ∧ v = .int .i64 (k : Int) ∧ Aside0 (Cur (Kd.int .i64) 3 wr wq base (.slice Av l.length cv) c (marks mkInts i 0 l.length) (marks mkInts i 0 N)) ∧ Aside0 (base ≤ wq.heap.size))
      case atStart => exact ⟨0, l.length, by omega, ⟨rfl⟩, rfl, HC, Hbq⟩
      case round =>
        clear HC Hbq
        obtain ⟨k, N, hk, hN, rfl, HC, Hbq⟩ := hrel
        obtain ⟨A5, c5, h5, _, _⟩ := Kd.R_reads HC.out.r
        rw [marks_length] at h5
        subst h5
        by_cases hk1 : k < 12
        · have hk2 : (k : Int) < 12 := by omega
          obtain ⟨kz, rfl⟩ : ∃ z, gk = z + 1 := ⟨gk - 1, by omega⟩
          go_wp2_with fail
          refine (emulsionbook_markInts.calls 2 (i : Int) (N : Int) 1 _ _ (markInts_f i N 1 2 (by omega) (by omega) (by have := hN.out; have := hbd.out; omega))).mono ?_
          rintro e w6 ⟨vm, rfl, hrm, hbm⟩
          obtain ⟨Am, cm, hvm, hcm, _⟩ := Kd.R_reads hrm
          rw [marks_length] at hvm hcm
          subst hvm
          obtain ⟨gm, hAm, _, _, hCm⟩ := row_at0 hrm (by rw [marks_length]; omega)
          subst hAm
          rw [marks_length] at hCm
          have HMc := Aside0.mk hCm
          replace HC := Aside0.mk (HC.out.below flatInts hbm)
          replace Hbq := Aside0.mk (Nat.le_trans Hbq.out hbm.size)
          clear hrm hbm hcm hCm
          go_wp2_with (first | ((with_reducible refine gate_builtin (b := .append) (xs := #[.tmp 27, .tmp 31]) rfl ?_); at_builtin; refine Kd.R_append_kept (Kd.int .i64) base rfl (.tmp 27) (.tmp 31) 75 3 (.int .i64 0) 8 rfl Try.underlying75 ginfoInts rfl (by decide) (by decide) (.slice A5 N c5) (marks mkInts i 0 N) (marks mkInts i N 1) ⟨gm, 0, none⟩ 1 cm (fun _ => True) (fun _ => False) rfl rfl HC.out.r HMc.out (fun x cs h => h) (fun _ h => h.elim) (fun _ _ => trivial) (Below.refl _ _) Hbq.out (by rw [marks_length]; have := hN.out; have := hbd.out; omega) ?_; intro v7 w7 hr7 hb7 hg7 hat7 hk7; have HC7 := Aside0.mk (HC.out.more flatInts hr7 hg7 hat7 hk7); have Hbq7 := Aside0.mk (Nat.le_trans Hbq.out hg7.size); clear hr7 hb7 hg7 hat7 hk7; rw [marks_app0] at HC7))
          go_roundg kz
          case measure => omega
          case rel => exact ⟨k + 1, N + 1, by omega, ⟨by have := hN.out; omega⟩, by go_num, HC7, Hbq7⟩
        · obtain rfl : k = 12 := by omega
          go_wp2_with fail
          refine (emulsionbook_markInts.calls 61 (i : Int) (N : Int) 60 _ _ (markInts_f i N 60 61 (by omega) (by omega) (by have := hN.out; have := hbd.out; omega))).mono ?_
          rintro e w6 ⟨vm, rfl, hrm, hbm⟩
          obtain ⟨Am, cm, hvm, hcm, _⟩ := Kd.R_reads hrm
          rw [marks_length] at hvm hcm
          subst hvm
          obtain ⟨gm, hAm, _, _, hCm⟩ := row_at0 hrm (by rw [marks_length]; omega)
          subst hAm
          rw [marks_length] at hCm
          have HMc := Aside0.mk hCm
          replace HC := Aside0.mk (HC.out.below flatInts hbm)
          replace Hbq := Aside0.mk (Nat.le_trans Hbq.out hbm.size)
          clear hrm hbm hcm hCm
          go_wp2_with (first | ((with_reducible refine gate_builtin (b := .append) (xs := #[.tmp 34, .tmp 38]) rfl ?_); at_builtin; refine Kd.R_append_kept (Kd.int .i64) base rfl (.tmp 34) (.tmp 38) 75 3 (.int .i64 0) 8 rfl Try.underlying75 ginfoInts rfl (by decide) (by decide) (.slice A5 N c5) (marks mkInts i 0 N) (marks mkInts i N 60) ⟨gm, 0, none⟩ 60 cm (fun _ => True) (fun _ => False) rfl rfl HC.out.r HMc.out (fun x cs h => h) (fun _ h => h.elim) (fun _ _ => trivial) (Below.refl _ _) Hbq.out (by rw [marks_length]; have := hN.out; have := hbd.out; omega) ?_; intro v7 w7 hr7 hb7 hg7 hat7 hk7; have HC7 := Aside0.mk (HC.out.more flatInts hr7 hg7 hat7 hk7); have Hbq7 := Aside0.mk (Nat.le_trans Hbq.out hg7.size); clear hr7 hb7 hg7 hat7 hk7; rw [marks_app0] at HC7; obtain ⟨A8, c8, h8, _, _⟩ := Kd.R_reads HC7.out.r; rw [marks_length] at h8; subst h8; have HO7 := Aside0.mk (HG.out.O_at HVi.out HC7.out)) | ((with_reducible refine gate_builtin (b := .append) (xs := #[.tmp 33, .tmp 40]) rfl ?_); at_builtin; refine print_append_cells (w0 := w7) w.heap.size rfl (.tmp 33) (.tmp 40) 53 75 (.slice none 0 0) 1 24 rfl Try.underlying53 ginfoLInts rfl (by decide) (by decide) (.slice Ao i co) i os [.slice A8 (N + 60) c8] rfl rfl rfl (by intro u hu; rw [List.mem_singleton.1 hu]; rfl) HO7.out.1 (Below.refl _ _) HO7.out.2 (by omega) ?_; intro O9 w9 hO9 hb9 hg9 hat9; have hNe : N + 60 = l.length + 72 := (by have := hN.out; omega); rw [hNe] at HC7 hO9; have HG9 := Aside0.mk (HG.out.next rfl flatInts (by decide) HP.out Hbase.out HVi.out hl HC7.out hO9 hg9); clear hNe hO9 hb9 hg9 hat9))
          go_roundg kk
          case measure => omega
          case rel => exact ⟨i + 1, _, by omega, by go_num, HG9⟩
    · obtain rfl : i = L.length := by omega
      have hlt' : ¬ (L.length : Int) < (L.length : Int) := by omega
      go_wp2_with fail
      go_ret
      have h := HG.out.shows HV.out (by decide)
      exact ⟨_, rfl, ⟨_, h.1⟩, h.2⟩
theorem ginfoExtents : (Try.prog.info? 96).map (fun i => (i.zero, i.size, i.bytes)) = some (some (.agg #[.int .i64 0, .int .i64 0, .int .i64 0]), k96.sz, 24) := by kernel_rfl
theorem ginfoLExtents : (Try.prog.info? 38).map (fun i => (i.zero, i.size, i.bytes)) = some (some (.slice none 0 0), 1, 24) := by kernel_rfl
theorem flatExtents : Flat k96 := fun w w1 x cs h => by obtain rfl := k96_open h; exact k96_mk _ _
set_option maxRecDepth 100000 in
set_option maxHeartbeats 3200000 in
theorem grow_Extents (g base : Nat) (VI UI VS US : Value) (V U : Value) (vs : List Value) (L : List (List S96)) (w : World) (hb : Blk w g 60 (bookC VI UI VS US V U)) (hS : Shelf k96 96 38 w base V vs L (fun i l => marks mkExtents i 0 l.length))
    (hL : L.length ≤ 250) (hB : ∀ (i : Nat) l, L[i]? = some l → l.length ≤ 1000000) (hbase : base ≤ w.heap.size) :
    Calls Try.prog 82 #[.pointer (some ⟨g, 0, none⟩)] w fun e w' => ∃ O, e = .returned O ∧ ∃ os, Shows k96 96 38 w' w.heap.size O os L (fun i l => marks mkExtents i 0 (l.length + 72)) ∧ Shows k96 96 38 w' base V vs L (fun i l => marks mkExtents i 0 l.length) ∧ FxT 96 base w w' := by
  obtain ⟨A, n, rfl⟩ := row_slice hS.hV
  have HB := Aside0.mk hb
  have HG := Aside0.mk (hS.grown (G := fun i l => marks mkExtents i 0 (l.length + 72)))
  have HV := Aside0.mk hS.hV
  have HP := Aside0.mk hS.ne
  have HBd := Aside0.mk hB
  have HL := Aside0.mk hL
  have Hbase := Aside0.mk hbase
  have hvl := Aside0.mk hS.rv.1
  clear hb hS hB hL hbase
  go_enter Try.func82, Try.ntmps82
  go_wp2_with fail
  go_loopg [3, 4] L.length (fun kq o v wq => ∃ (i : Nat) (os : List Value), i + kq = L.length ∧ v = .int .i64 (i : Int) ∧ Aside0 (Grown k96 96 38 w wq base o vs os L (fun i l => marks mkExtents i 0 l.length) (fun i l => marks mkExtents i 0 (l.length + 72)) i))
  case atStart => exact ⟨0, [], by omega, rfl, HG⟩
  case round =>
    clear HG
    obtain ⟨i, os, hi, rfl, HG⟩ := hrel
    obtain ⟨Ao, co, rfl⟩ := row_slice HG.out.hO
    have hb1 := HG.out.fx.blk HB.out (by decide)
    have c4 := hb1.cell (i := 6) (v := .slice A L.length n) rfl
    clear hb1
    by_cases hlt : i < L.length
    · have hlt' : (i : Int) < (L.length : Int) := by omega
      have hi' : (i : Int) ≤ 250 := by have := HL.out; omega
      have hi2 : i ≤ 250 := by omega
      obtain ⟨kk, rfl⟩ : ∃ z, gk = z + 1 := ⟨gk - 1, by omega⟩
      obtain ⟨l, hl⟩ : ∃ l, L[i]? = some l := ⟨_, List.getElem?_eq_getElem hlt⟩
      have hbd := Aside0.mk (HBd.out i l hl)
      obtain ⟨v, hv⟩ : ∃ v, vs[i]? = some v := ⟨_, List.getElem?_eq_getElem (by rw [hvl.out]; exact hlt)⟩
      have hr0 := HG.out.rest i v l (Nat.le_refl _) hv hl
      obtain ⟨gv, cV, hVe, _, _, _, hcells⟩ := row_cells (own_move HV.out (w1 := wr) (fun q hq => HG.out.fx.2 q (own_lt HV.out q hq) (fun cs hc => by
        obtain ⟨cs', hc'⟩ := own_typed HV.out q hq
        rw [hc'] at hc; injection hc with hc; injection hc with _ hc; exact absurd hc (by decide)))) (by omega)
      have hcell := hcells i v hv
      injection hVe with q1 q2 q3
      subst q1; subst q3
      have HC := Aside0.mk (Cur.start hr0)
      have Hbq : Aside0 (base ≤ wr.heap.size) := ⟨HG.out.fx.base_le Hbase.out⟩
      obtain ⟨Av, cv, hve, _, _⟩ := Kd.R_reads hr0
      rw [marks_length] at hve
      subst hve
      have HVi := Aside0.mk hv
      clear hr0 hcells hv
      go_wp2_with fail
      go_loopg [5, 6] 12 (fun kq c v wq => ∃ k N : Nat, k + kq = 12 ∧ Aside0 (N = l.length + k) ∧ v = .int .i64 (k : Int) ∧ Aside0 (Cur k96 96 wr wq base (.slice Av l.length cv) c (marks mkExtents i 0 l.length) (marks mkExtents i 0 N)) ∧ Aside0 (base ≤ wq.heap.size))
      case atStart => exact ⟨0, l.length, by omega, ⟨rfl⟩, rfl, HC, Hbq⟩
      case round =>
        clear HC Hbq
        obtain ⟨k, N, hk, hN, rfl, HC, Hbq⟩ := hrel
        obtain ⟨A5, c5, h5, _, _⟩ := Kd.R_reads HC.out.r
        rw [marks_length] at h5
        subst h5
        by_cases hk1 : k < 12
        · have hk2 : (k : Int) < 12 := by omega
          obtain ⟨kz, rfl⟩ : ∃ z, gk = z + 1 := ⟨gk - 1, by omega⟩
          go_wp2_with fail
          refine (emulsionbook_markExtents.calls 2 (i : Int) (N : Int) 1 _ _ (markExtents_f i N 1 2 (by omega) (by omega) (by have := hN.out; have := hbd.out; omega))).mono ?_
          rintro e w6 ⟨vm, rfl, hrm, hbm⟩
          obtain ⟨Am, cm, hvm, hcm, _⟩ := Kd.R_reads hrm
          rw [marks_length] at hvm hcm
          subst hvm
          obtain ⟨gm, hAm, _, _, hCm⟩ := row_at0 hrm (by rw [marks_length]; omega)
          subst hAm
          rw [marks_length] at hCm
          have HMc := Aside0.mk hCm
          replace HC := Aside0.mk (HC.out.below flatExtents hbm)
          replace Hbq := Aside0.mk (Nat.le_trans Hbq.out hbm.size)
          clear hrm hbm hcm hCm
          go_wp2_with (first | ((with_reducible refine gate_builtin (b := .append) (xs := #[.tmp 27, .tmp 31]) rfl ?_); at_builtin; refine Kd.R_append_kept k96 base rfl (.tmp 27) (.tmp 31) 38 96 (.agg #[.int .i64 0, .int .i64 0, .int .i64 0]) 24 rfl Try.underlying38 ginfoExtents rfl (by decide) (by decide) (.slice A5 N c5) (marks mkExtents i 0 N) (marks mkExtents i N 1) ⟨gm, 0, none⟩ 1 cm (fun _ => True) (fun _ => False) rfl rfl HC.out.r HMc.out (fun x cs h => by obtain rfl := k96_open h; exact k96_mkM _ _ _ _) (fun _ h => h.elim) (fun _ _ => trivial) (Below.refl _ _) Hbq.out (by rw [marks_length]; have := hN.out; have := hbd.out; omega) ?_; intro v7 w7 hr7 hb7 hg7 hat7 hk7; have HC7 := Aside0.mk (HC.out.more flatExtents hr7 hg7 hat7 hk7); have Hbq7 := Aside0.mk (Nat.le_trans Hbq.out hg7.size); clear hr7 hb7 hg7 hat7 hk7; rw [marks_app0] at HC7))
          go_roundg kz
          case measure => omega
          case rel => exact ⟨k + 1, N + 1, by omega, ⟨by have := hN.out; omega⟩, by go_num, HC7, Hbq7⟩
        · obtain rfl : k = 12 := by omega
          go_wp2_with fail
          refine (emulsionbook_markExtents.calls 61 (i : Int) (N : Int) 60 _ _ (markExtents_f i N 60 61 (by omega) (by omega) (by have := hN.out; have := hbd.out; omega))).mono ?_
          rintro e w6 ⟨vm, rfl, hrm, hbm⟩
          obtain ⟨Am, cm, hvm, hcm, _⟩ := Kd.R_reads hrm
          rw [marks_length] at hvm hcm
          subst hvm
          obtain ⟨gm, hAm, _, _, hCm⟩ := row_at0 hrm (by rw [marks_length]; omega)
          subst hAm
          rw [marks_length] at hCm
          have HMc := Aside0.mk hCm
          replace HC := Aside0.mk (HC.out.below flatExtents hbm)
          replace Hbq := Aside0.mk (Nat.le_trans Hbq.out hbm.size)
          clear hrm hbm hcm hCm
          go_wp2_with (first | ((with_reducible refine gate_builtin (b := .append) (xs := #[.tmp 34, .tmp 38]) rfl ?_); at_builtin; refine Kd.R_append_kept k96 base rfl (.tmp 34) (.tmp 38) 38 96 (.agg #[.int .i64 0, .int .i64 0, .int .i64 0]) 24 rfl Try.underlying38 ginfoExtents rfl (by decide) (by decide) (.slice A5 N c5) (marks mkExtents i 0 N) (marks mkExtents i N 60) ⟨gm, 0, none⟩ 60 cm (fun _ => True) (fun _ => False) rfl rfl HC.out.r HMc.out (fun x cs h => by obtain rfl := k96_open h; exact k96_mkM _ _ _ _) (fun _ h => h.elim) (fun _ _ => trivial) (Below.refl _ _) Hbq.out (by rw [marks_length]; have := hN.out; have := hbd.out; omega) ?_; intro v7 w7 hr7 hb7 hg7 hat7 hk7; have HC7 := Aside0.mk (HC.out.more flatExtents hr7 hg7 hat7 hk7); have Hbq7 := Aside0.mk (Nat.le_trans Hbq.out hg7.size); clear hr7 hb7 hg7 hat7 hk7; rw [marks_app0] at HC7; obtain ⟨A8, c8, h8, _, _⟩ := Kd.R_reads HC7.out.r; rw [marks_length] at h8; subst h8; have HO7 := Aside0.mk (HG.out.O_at HVi.out HC7.out)) | ((with_reducible refine gate_builtin (b := .append) (xs := #[.tmp 33, .tmp 40]) rfl ?_); at_builtin; refine print_append_cells (w0 := w7) w.heap.size rfl (.tmp 33) (.tmp 40) 55 38 (.slice none 0 0) 1 24 rfl Try.underlying55 ginfoLExtents rfl (by decide) (by decide) (.slice Ao i co) i os [.slice A8 (N + 60) c8] rfl rfl rfl (by intro u hu; rw [List.mem_singleton.1 hu]; rfl) HO7.out.1 (Below.refl _ _) HO7.out.2 (by omega) ?_; intro O9 w9 hO9 hb9 hg9 hat9; have hNe : N + 60 = l.length + 72 := (by have := hN.out; omega); rw [hNe] at HC7 hO9; have HG9 := Aside0.mk (HG.out.next rfl flatExtents (by decide) HP.out Hbase.out HVi.out hl HC7.out hO9 hg9); clear hNe hO9 hb9 hg9 hat9))
          go_roundg kk
          case measure => omega
          case rel => exact ⟨i + 1, _, by omega, by go_num, HG9⟩
    · obtain rfl : i = L.length := by omega
      have hlt' : ¬ (L.length : Int) < (L.length : Int) := by omega
      go_wp2_with fail
      go_ret
      have h := HG.out.shows HV.out (by decide)
      exact ⟨_, rfl, ⟨_, h.1⟩, h.2⟩
end Go.Proofs.Ytacmfpkmcefcfaa.Hand
end
section
namespace Go.Proofs.Ytacmfpkmcefcfaa.Hand
open Go.RowKit Go.Proofs.YtacmfpkmcefcfaaW.PrintWords Go.Proofs.YtacmfpkmcefcfaaW.PrintLast Go.Proofs.YtacmfpkmcefcfaaW.PrintMore Go.Proofs.Ytacmfpkmcefcfaa.A
set_option linter.unusedVariables false
set_option linter.unusedSimpArgs false
attribute [local go_sem] max2_int min2_int max_two min_two max_three min_three max_four min_four
theorem lowB {n base : Nat} {w w1 : World} (hb : Below n w w1) (h : base ≤ n) : Below base w w1 := ⟨hb.os, hb.tape, hb.output, hb.size, fun k hk => hb.block k (by omega)⟩
theorem marked_Spans (t base n c : Nat) (ht : t ≤ 100) (A : Option Addr) (vs : List Value) (L : List (List S119)) (hL : L.length ≤ 250) (hB : ∀ (i : Nat) l, L[i]? = some l → l.length ≤ 1000000) (w : World)
    (h : Shows k119 119 128 w base (.slice A n c) vs L (fun i l => marks mkSpans i 0 (l.length + t))) :
    Calls Try.prog 88 #[.slice A n c] w fun e w' => e = .returned (.bool true) ∧ Below w.heap.size w w' := by
  obtain ⟨hn, hc, hC⟩ := h.calls
  subst hn
  have hlen : (L.mapIdx (fun i l => marks mkSpans i 0 (l.length + t))).length = L.length := List.length_mapIdx
  refine emulsionbook_markedSpans.calls 2000000 A c _ true w hC hc (markedSpans_f _ (by rw [hlen]; omega) 1000100 (by omega) (fun i l hl => ?_) _ (by rw [hlen]; omega))
  rw [List.getElem?_mapIdx] at hl
  obtain ⟨l0, hl0, rfl⟩ := Option.map_eq_some_iff.1 hl
  have := hB i l0 hl0
  rw [marks_length]
  exact ⟨by omega, rfl⟩
theorem marked_Ints (t base n c : Nat) (ht : t ≤ 100) (A : Option Addr) (vs : List Value) (L : List (List Int)) (hL : L.length ≤ 250) (hB : ∀ (i : Nat) l, L[i]? = some l → l.length ≤ 1000000) (w : World)
    (h : Shows (Kd.int .i64) 3 75 w base (.slice A n c) vs L (fun i l => marks mkInts i 0 (l.length + t))) :
    Calls Try.prog 87 #[.slice A n c] w fun e w' => e = .returned (.bool true) ∧ Below w.heap.size w w' := by
  obtain ⟨hn, hc, hC⟩ := h.calls
  subst hn
  have hlen : (L.mapIdx (fun i l => marks mkInts i 0 (l.length + t))).length = L.length := List.length_mapIdx
  refine emulsionbook_markedInts.calls 2000000 A c _ true w hC hc (markedInts_f _ (by rw [hlen]; omega) 1000100 (by omega) (fun i l hl => ?_) _ (by rw [hlen]; omega))
  rw [List.getElem?_mapIdx] at hl
  obtain ⟨l0, hl0, rfl⟩ := Option.map_eq_some_iff.1 hl
  have := hB i l0 hl0
  rw [marks_length]
  exact ⟨by omega, rfl⟩
theorem marked_Extents (t base n c : Nat) (ht : t ≤ 100) (A : Option Addr) (vs : List Value) (L : List (List S96)) (hL : L.length ≤ 250) (hB : ∀ (i : Nat) l, L[i]? = some l → l.length ≤ 1000000) (w : World)
    (h : Shows k96 96 38 w base (.slice A n c) vs L (fun i l => marks mkExtents i 0 (l.length + t))) :
    Calls Try.prog 89 #[.slice A n c] w fun e w' => e = .returned (.bool true) ∧ Below w.heap.size w w' := by
  obtain ⟨hn, hc, hC⟩ := h.calls
  subst hn
  have hlen : (L.mapIdx (fun i l => marks mkExtents i 0 (l.length + t))).length = L.length := List.length_mapIdx
  refine emulsionbook_markedExtents.calls 2000000 A c _ true w hC hc (markedExtents_f _ (by rw [hlen]; omega) 1000100 (by omega) (fun i l hl => ?_) _ (by rw [hlen]; omega))
  rw [List.getElem?_mapIdx] at hl
  obtain ⟨l0, hl0, rfl⟩ := Option.map_eq_some_iff.1 hl
  have := hB i l0 hl0
  rw [marks_length]
  exact ⟨by omega, rfl⟩
set_option maxRecDepth 100000 in
set_option maxHeartbeats 6400000 in
theorem apart (g base : Nat) (VI UI VS US VE UE : Value) (vi ui vss us ve ue : List Value) (LI : List (List Int)) (LS : List (List S119)) (LE : List (List S96)) (w : World)
    (hb : Blk w g 60 (bookC VI UI VS US VE UE)) (hI : Pile (Kd.int .i64) 3 75 w base VI UI vi ui LI) (hS : Pile k119 119 128 w base VS US vss us LS) (hE : Pile k96 96 38 w base VE UE ve ue LE)
    (bI : LI.length ≤ 250 ∧ ∀ (i : Nat) l, LI[i]? = some l → l.length ≤ 1000000) (bS : LS.length ≤ 250 ∧ ∀ (i : Nat) l, LS[i]? = some l → l.length ≤ 1000000) (bE : LE.length ≤ 250 ∧ ∀ (i : Nat) l, LE[i]? = some l → l.length ≤ 1000000) (hbase : base ≤ w.heap.size) :
    Calls Try.prog 37 #[.pointer (some ⟨g, 0, none⟩)] w fun e w' => e = .returned (.bool true) ∧ Below base w w' := by
  have HF := Aside0.mk (Below.refl base w)
  obtain ⟨AI, nI, rfl⟩ := row_slice hI.hV
  obtain ⟨AS, nS, rfl⟩ := row_slice hS.hV
  obtain ⟨AE, nE, rfl⟩ := row_slice hE.hV
  have HB := Aside0.mk hb
  have HI := Aside0.mk hI
  have HS := Aside0.mk hS
  have HE := Aside0.mk hE
  have BHI := Aside0.mk bI
  have BHS := Aside0.mk bS
  have BHE := Aside0.mk bE
  have Hbase := Aside0.mk hbase
  clear hb hI hS hE bI bS bE hbase
  go_enter Try.func37, Try.ntmps37
  go_wp2_with fail
  refine (still_nil_Texts g _ _ HB.out rfl).mono ?_
  rintro e w1 ⟨rfl, rfl⟩
  go_wp2_with fail
  refine (still_Ints g base _ _ _ _ _ _ _ _ _ _ HB.out HI.out BHI.out.1 BHI.out.2).mono ?_
  rintro e w1 ⟨rfl, hb⟩
  replace HI := Aside0.mk (HI.out.below hb)
  replace HS := Aside0.mk (HS.out.below hb)
  replace HE := Aside0.mk (HE.out.below hb)
  replace HB := Aside0.mk (HB.out.keep hb)
  replace HF := Aside0.mk (HF.out.trans (lowB hb Hbase.out))
  replace Hbase := Aside0.mk (Nat.le_trans Hbase.out hb.size)
  clear hb
  go_wp2_with fail
  refine (still_Spans g base _ _ _ _ _ _ _ _ _ _ HB.out HS.out BHS.out.1 BHS.out.2).mono ?_
  rintro e w1 ⟨rfl, hb⟩
  replace HI := Aside0.mk (HI.out.below hb)
  replace HS := Aside0.mk (HS.out.below hb)
  replace HE := Aside0.mk (HE.out.below hb)
  replace HB := Aside0.mk (HB.out.keep hb)
  replace HF := Aside0.mk (HF.out.trans (lowB hb Hbase.out))
  replace Hbase := Aside0.mk (Nat.le_trans Hbase.out hb.size)
  clear hb
  go_wp2_with fail
  refine (still_Extents g base _ _ _ _ _ _ _ _ _ _ HB.out HE.out BHE.out.1 BHE.out.2).mono ?_
  rintro e w1 ⟨rfl, hb⟩
  replace HI := Aside0.mk (HI.out.below hb)
  replace HS := Aside0.mk (HS.out.below hb)
  replace HE := Aside0.mk (HE.out.below hb)
  replace HB := Aside0.mk (HB.out.keep hb)
  replace HF := Aside0.mk (HF.out.trans (lowB hb Hbase.out))
  replace Hbase := Aside0.mk (Nat.le_trans Hbase.out hb.size)
  clear hb
  go_wp2_with fail
  refine (still_nil_Shelves g _ _ HB.out rfl).mono ?_
  rintro e w1 ⟨rfl, rfl⟩
  go_wp2_with fail
  refine (still_nil_Pairs g _ _ HB.out rfl).mono ?_
  rintro e w1 ⟨rfl, rfl⟩
  go_wp2_with fail
  refine (still_nil_Points g _ _ HB.out rfl).mono ?_
  rintro e w1 ⟨rfl, rfl⟩
  go_wp2_with fail
  replace HI := Aside0.mk HI.out.shelf
  replace HS := Aside0.mk HS.out.shelf
  replace HE := Aside0.mk HE.out.shelf
  refine (put_nil_Points g _ _ HB.out rfl).mono ?_
  rintro e w1 ⟨rfl, rfl⟩
  go_wp2_with fail
  refine (put_nil_Texts g _ _ HB.out rfl).mono ?_
  rintro e w1 ⟨rfl, rfl⟩
  go_wp2_with fail
  refine (put_Ints g base _ _ _ _ _ _ _ _ _ HB.out HI.out BHI.out.1 BHI.out.2 Hbase.out).mono ?_
  rintro e w1 ⟨rfl, hs, hx⟩
  replace HI := Aside0.mk hs
  replace HS := Aside0.mk (HS.out.fx rfl hx (by decide) (by decide))
  replace HE := Aside0.mk (HE.out.fx rfl hx (by decide) (by decide))
  replace HB := Aside0.mk (hx.blk HB.out (by decide))
  replace HF := Aside0.mk (HF.out.trans hx.1)
  replace Hbase := Aside0.mk (hx.base_le Hbase.out)
  clear hs hx
  go_wp2_with fail
  refine (put_Spans g base _ _ _ _ _ _ _ _ _ HB.out HS.out BHS.out.1 BHS.out.2 Hbase.out).mono ?_
  rintro e w1 ⟨rfl, hs, hx⟩
  replace HS := Aside0.mk hs
  replace HI := Aside0.mk (HI.out.fx rfl hx (by decide) (by decide))
  replace HE := Aside0.mk (HE.out.fx rfl hx (by decide) (by decide))
  replace HB := Aside0.mk (hx.blk HB.out (by decide))
  replace HF := Aside0.mk (HF.out.trans hx.1)
  replace Hbase := Aside0.mk (hx.base_le Hbase.out)
  clear hs hx
  go_wp2_with fail
  refine (put_Extents g base _ _ _ _ _ _ _ _ _ HB.out HE.out BHE.out.1 BHE.out.2 Hbase.out).mono ?_
  rintro e w1 ⟨rfl, hs, hx⟩
  replace HE := Aside0.mk hs
  replace HI := Aside0.mk (HI.out.fx rfl hx (by decide) (by decide))
  replace HS := Aside0.mk (HS.out.fx rfl hx (by decide) (by decide))
  replace HB := Aside0.mk (hx.blk HB.out (by decide))
  replace HF := Aside0.mk (HF.out.trans hx.1)
  replace Hbase := Aside0.mk (hx.base_le Hbase.out)
  clear hs hx
  go_wp2_with fail
  refine (put_nil_Shelves g _ _ HB.out rfl).mono ?_
  rintro e w1 ⟨rfl, rfl⟩
  go_wp2_with fail
  refine (put_nil_Pairs g _ _ HB.out rfl).mono ?_
  rintro e w1 ⟨rfl, rfl⟩
  go_wp2_with fail
  refine (grow_nil_Texts g _ _ HB.out rfl).mono ?_
  rintro e w1 ⟨rfl, rfl⟩
  go_wp2_with fail
  refine (grow_Ints g base _ _ _ _ _ _ _ _ _ HB.out HI.out BHI.out.1 BHI.out.2 Hbase.out).mono ?_
  rintro e w1 ⟨OHI, rfl, osHI, hs1, hs2, hx⟩
  obtain ⟨AHI, cHI, hO⟩ := row_slice hs1.1
  subst hO
  have GHI := Aside0.mk hs1
  have KHI := Aside0.mk hs2
  replace HS := Aside0.mk (HS.out.fx rfl hx (by decide) (by decide))
  replace HE := Aside0.mk (HE.out.fx rfl hx (by decide) (by decide))
  replace HB := Aside0.mk (hx.blk HB.out (by decide))
  replace HF := Aside0.mk (HF.out.trans hx.1)
  replace Hbase := Aside0.mk (hx.base_le Hbase.out)
  clear hs1 hs2 hx HI
  go_wp2_with fail
  refine (grow_Spans g base _ _ _ _ _ _ _ _ _ HB.out HS.out BHS.out.1 BHS.out.2 Hbase.out).mono ?_
  rintro e w1 ⟨OHS, rfl, osHS, hs1, hs2, hx⟩
  obtain ⟨AHS, cHS, hO⟩ := row_slice hs1.1
  subst hO
  have GHS := Aside0.mk hs1
  have KHS := Aside0.mk hs2
  replace HE := Aside0.mk (HE.out.fx rfl hx (by decide) (by decide))
  replace GHI := Aside0.mk (GHI.out.fx flatInts hx (by decide) (by decide))
  replace KHI := Aside0.mk (KHI.out.fx flatInts hx (by decide) (by decide))
  replace HB := Aside0.mk (hx.blk HB.out (by decide))
  replace HF := Aside0.mk (HF.out.trans hx.1)
  replace Hbase := Aside0.mk (hx.base_le Hbase.out)
  clear hs1 hs2 hx HS
  go_wp2_with fail
  refine (grow_Extents g base _ _ _ _ _ _ _ _ _ HB.out HE.out BHE.out.1 BHE.out.2 Hbase.out).mono ?_
  rintro e w1 ⟨OHE, rfl, osHE, hs1, hs2, hx⟩
  obtain ⟨AHE, cHE, hO⟩ := row_slice hs1.1
  subst hO
  have GHE := Aside0.mk hs1
  have KHE := Aside0.mk hs2
  replace GHI := Aside0.mk (GHI.out.fx flatInts hx (by decide) (by decide))
  replace KHI := Aside0.mk (KHI.out.fx flatInts hx (by decide) (by decide))
  replace GHS := Aside0.mk (GHS.out.fx flatSpans hx (by decide) (by decide))
  replace KHS := Aside0.mk (KHS.out.fx flatSpans hx (by decide) (by decide))
  replace HB := Aside0.mk (hx.blk HB.out (by decide))
  replace HF := Aside0.mk (HF.out.trans hx.1)
  replace Hbase := Aside0.mk (hx.base_le Hbase.out)
  clear hs1 hs2 hx HE
  go_wp2_with fail
  refine (grow_nil_Shelves g _ _ HB.out rfl).mono ?_
  rintro e w1 ⟨rfl, rfl⟩
  go_wp2_with fail
  refine (grow_nil_Pairs g _ _ HB.out rfl).mono ?_
  rintro e w1 ⟨rfl, rfl⟩
  go_wp2_with fail
  refine (grow_nil_Points g _ _ HB.out rfl).mono ?_
  rintro e w1 ⟨rfl, rfl⟩
  have c0 := HB.out.cell (i := 0) (v := .slice none 0 0) rfl
  have c2 := HB.out.cell (i := 2) (v := .slice AI LI.length nI) rfl
  have c4 := HB.out.cell (i := 4) (v := .slice AS LS.length nS) rfl
  have c6 := HB.out.cell (i := 6) (v := .slice AE LE.length nE) rfl
  have c8 := HB.out.cell (i := 8) (v := .slice none 0 0) rfl
  have c10 := HB.out.cell (i := 10) (v := .slice none 0 0) rfl
  have c12 := HB.out.cell (i := 12) (v := .slice none 0 0) rfl
  go_wp2_with fail
  refine (marked_nil_Texts _).mono ?_
  rintro e w1 ⟨rfl, rfl⟩
  go_wp2_with fail
  refine (marked_nil_Texts _).mono ?_
  rintro e w1 ⟨rfl, rfl⟩
  go_wp2_with fail
  refine (marked_Ints 72 _ _ _ (by decide) _ _ _ BHI.out.1 BHI.out.2 _ GHI.out).mono ?_
  rintro e w1 ⟨rfl, hb⟩
  clear c0 c2 c4 c6 c8 c10 c12
  replace GHI := Aside0.mk (GHI.out.below flatInts hb)
  replace KHI := Aside0.mk (KHI.out.below flatInts hb)
  replace GHS := Aside0.mk (GHS.out.below flatSpans hb)
  replace KHS := Aside0.mk (KHS.out.below flatSpans hb)
  replace GHE := Aside0.mk (GHE.out.below flatExtents hb)
  replace KHE := Aside0.mk (KHE.out.below flatExtents hb)
  replace HB := Aside0.mk (HB.out.keep hb)
  replace HF := Aside0.mk (HF.out.trans (lowB hb Hbase.out))
  replace Hbase := Aside0.mk (Nat.le_trans Hbase.out hb.size)
  clear hb
  have c0 := HB.out.cell (i := 0) (v := .slice none 0 0) rfl
  have c2 := HB.out.cell (i := 2) (v := .slice AI LI.length nI) rfl
  have c4 := HB.out.cell (i := 4) (v := .slice AS LS.length nS) rfl
  have c6 := HB.out.cell (i := 6) (v := .slice AE LE.length nE) rfl
  have c8 := HB.out.cell (i := 8) (v := .slice none 0 0) rfl
  have c10 := HB.out.cell (i := 10) (v := .slice none 0 0) rfl
  have c12 := HB.out.cell (i := 12) (v := .slice none 0 0) rfl
  go_wp2_with fail
  refine (marked_Ints 0 _ _ _ (by decide) _ _ _ BHI.out.1 BHI.out.2 _ KHI.out).mono ?_
  rintro e w1 ⟨rfl, hb⟩
  clear c0 c2 c4 c6 c8 c10 c12
  replace GHI := Aside0.mk (GHI.out.below flatInts hb)
  replace KHI := Aside0.mk (KHI.out.below flatInts hb)
  replace GHS := Aside0.mk (GHS.out.below flatSpans hb)
  replace KHS := Aside0.mk (KHS.out.below flatSpans hb)
  replace GHE := Aside0.mk (GHE.out.below flatExtents hb)
  replace KHE := Aside0.mk (KHE.out.below flatExtents hb)
  replace HB := Aside0.mk (HB.out.keep hb)
  replace HF := Aside0.mk (HF.out.trans (lowB hb Hbase.out))
  replace Hbase := Aside0.mk (Nat.le_trans Hbase.out hb.size)
  clear hb
  have c0 := HB.out.cell (i := 0) (v := .slice none 0 0) rfl
  have c2 := HB.out.cell (i := 2) (v := .slice AI LI.length nI) rfl
  have c4 := HB.out.cell (i := 4) (v := .slice AS LS.length nS) rfl
  have c6 := HB.out.cell (i := 6) (v := .slice AE LE.length nE) rfl
  have c8 := HB.out.cell (i := 8) (v := .slice none 0 0) rfl
  have c10 := HB.out.cell (i := 10) (v := .slice none 0 0) rfl
  have c12 := HB.out.cell (i := 12) (v := .slice none 0 0) rfl
  go_wp2_with fail
  refine (marked_Spans 72 _ _ _ (by decide) _ _ _ BHS.out.1 BHS.out.2 _ GHS.out).mono ?_
  rintro e w1 ⟨rfl, hb⟩
  clear c0 c2 c4 c6 c8 c10 c12
  replace GHI := Aside0.mk (GHI.out.below flatInts hb)
  replace KHI := Aside0.mk (KHI.out.below flatInts hb)
  replace GHS := Aside0.mk (GHS.out.below flatSpans hb)
  replace KHS := Aside0.mk (KHS.out.below flatSpans hb)
  replace GHE := Aside0.mk (GHE.out.below flatExtents hb)
  replace KHE := Aside0.mk (KHE.out.below flatExtents hb)
  replace HB := Aside0.mk (HB.out.keep hb)
  replace HF := Aside0.mk (HF.out.trans (lowB hb Hbase.out))
  replace Hbase := Aside0.mk (Nat.le_trans Hbase.out hb.size)
  clear hb
  have c0 := HB.out.cell (i := 0) (v := .slice none 0 0) rfl
  have c2 := HB.out.cell (i := 2) (v := .slice AI LI.length nI) rfl
  have c4 := HB.out.cell (i := 4) (v := .slice AS LS.length nS) rfl
  have c6 := HB.out.cell (i := 6) (v := .slice AE LE.length nE) rfl
  have c8 := HB.out.cell (i := 8) (v := .slice none 0 0) rfl
  have c10 := HB.out.cell (i := 10) (v := .slice none 0 0) rfl
  have c12 := HB.out.cell (i := 12) (v := .slice none 0 0) rfl
  go_wp2_with fail
  refine (marked_Spans 0 _ _ _ (by decide) _ _ _ BHS.out.1 BHS.out.2 _ KHS.out).mono ?_
  rintro e w1 ⟨rfl, hb⟩
  clear c0 c2 c4 c6 c8 c10 c12
  replace GHI := Aside0.mk (GHI.out.below flatInts hb)
  replace KHI := Aside0.mk (KHI.out.below flatInts hb)
  replace GHS := Aside0.mk (GHS.out.below flatSpans hb)
  replace KHS := Aside0.mk (KHS.out.below flatSpans hb)
  replace GHE := Aside0.mk (GHE.out.below flatExtents hb)
  replace KHE := Aside0.mk (KHE.out.below flatExtents hb)
  replace HB := Aside0.mk (HB.out.keep hb)
  replace HF := Aside0.mk (HF.out.trans (lowB hb Hbase.out))
  replace Hbase := Aside0.mk (Nat.le_trans Hbase.out hb.size)
  clear hb
  have c0 := HB.out.cell (i := 0) (v := .slice none 0 0) rfl
  have c2 := HB.out.cell (i := 2) (v := .slice AI LI.length nI) rfl
  have c4 := HB.out.cell (i := 4) (v := .slice AS LS.length nS) rfl
  have c6 := HB.out.cell (i := 6) (v := .slice AE LE.length nE) rfl
  have c8 := HB.out.cell (i := 8) (v := .slice none 0 0) rfl
  have c10 := HB.out.cell (i := 10) (v := .slice none 0 0) rfl
  have c12 := HB.out.cell (i := 12) (v := .slice none 0 0) rfl
  go_wp2_with fail
  refine (marked_Extents 72 _ _ _ (by decide) _ _ _ BHE.out.1 BHE.out.2 _ GHE.out).mono ?_
  rintro e w1 ⟨rfl, hb⟩
  clear c0 c2 c4 c6 c8 c10 c12
  replace GHI := Aside0.mk (GHI.out.below flatInts hb)
  replace KHI := Aside0.mk (KHI.out.below flatInts hb)
  replace GHS := Aside0.mk (GHS.out.below flatSpans hb)
  replace KHS := Aside0.mk (KHS.out.below flatSpans hb)
  replace GHE := Aside0.mk (GHE.out.below flatExtents hb)
  replace KHE := Aside0.mk (KHE.out.below flatExtents hb)
  replace HB := Aside0.mk (HB.out.keep hb)
  replace HF := Aside0.mk (HF.out.trans (lowB hb Hbase.out))
  replace Hbase := Aside0.mk (Nat.le_trans Hbase.out hb.size)
  clear hb
  have c0 := HB.out.cell (i := 0) (v := .slice none 0 0) rfl
  have c2 := HB.out.cell (i := 2) (v := .slice AI LI.length nI) rfl
  have c4 := HB.out.cell (i := 4) (v := .slice AS LS.length nS) rfl
  have c6 := HB.out.cell (i := 6) (v := .slice AE LE.length nE) rfl
  have c8 := HB.out.cell (i := 8) (v := .slice none 0 0) rfl
  have c10 := HB.out.cell (i := 10) (v := .slice none 0 0) rfl
  have c12 := HB.out.cell (i := 12) (v := .slice none 0 0) rfl
  go_wp2_with fail
  refine (marked_Extents 0 _ _ _ (by decide) _ _ _ BHE.out.1 BHE.out.2 _ KHE.out).mono ?_
  rintro e w1 ⟨rfl, hb⟩
  clear c0 c2 c4 c6 c8 c10 c12
  replace GHI := Aside0.mk (GHI.out.below flatInts hb)
  replace KHI := Aside0.mk (KHI.out.below flatInts hb)
  replace GHS := Aside0.mk (GHS.out.below flatSpans hb)
  replace KHS := Aside0.mk (KHS.out.below flatSpans hb)
  replace GHE := Aside0.mk (GHE.out.below flatExtents hb)
  replace KHE := Aside0.mk (KHE.out.below flatExtents hb)
  replace HB := Aside0.mk (HB.out.keep hb)
  replace HF := Aside0.mk (HF.out.trans (lowB hb Hbase.out))
  replace Hbase := Aside0.mk (Nat.le_trans Hbase.out hb.size)
  clear hb
  have c0 := HB.out.cell (i := 0) (v := .slice none 0 0) rfl
  have c2 := HB.out.cell (i := 2) (v := .slice AI LI.length nI) rfl
  have c4 := HB.out.cell (i := 4) (v := .slice AS LS.length nS) rfl
  have c6 := HB.out.cell (i := 6) (v := .slice AE LE.length nE) rfl
  have c8 := HB.out.cell (i := 8) (v := .slice none 0 0) rfl
  have c10 := HB.out.cell (i := 10) (v := .slice none 0 0) rfl
  have c12 := HB.out.cell (i := 12) (v := .slice none 0 0) rfl
  go_wp2_with fail
  refine (marked_nil_Shelves _).mono ?_
  rintro e w1 ⟨rfl, rfl⟩
  go_wp2_with fail
  refine (marked_nil_Shelves _).mono ?_
  rintro e w1 ⟨rfl, rfl⟩
  go_wp2_with fail
  refine (marked_nil_Pairs _).mono ?_
  rintro e w1 ⟨rfl, rfl⟩
  go_wp2_with fail
  refine (marked_nil_Pairs _).mono ?_
  rintro e w1 ⟨rfl, rfl⟩
  go_wp2_with fail
  refine (marked_nil_Points _).mono ?_
  rintro e w1 ⟨rfl, rfl⟩
  go_wp2_with fail
  refine (marked_nil_Points _).mono ?_
  rintro e w1 ⟨rfl, rfl⟩
  go_wp2_with fail
  go_ret
  exact ⟨rfl, HF.out⟩
end Go.Proofs.Ytacmfpkmcefcfaa.Hand
end
section
namespace Go.Proofs.Ytacmfpkmcefcfaa.Hand
open Go.RowKit Go.Proofs.YtacmfpkmcefcfaaW.PrintWords Go.Proofs.YtacmfpkmcefcfaaW.PrintLast Go.Proofs.YtacmfpkmcefcfaaW.PrintMore Go.Proofs.Ytacmfpkmcefcfaa.A
set_option linter.unusedVariables false
set_option linter.unusedSimpArgs false
attribute [local go_sem] max2_int min2_int max_two min_two max_three min_three max_four min_four
set_option maxRecDepth 100000 in
theorem copy_Extents (A : Option Addr) (c : Nat) (l : List S96) (hl : l.length ≤ 1000000) (w : World) (hC : Kd.C k96 w A l.length l) :
    Calls Try.prog 59 #[.slice A l.length c] w fun e w' => ∃ u, e = .returned u ∧ Kd.R k96 96 w' w.heap.size (fun _ => True) u l ∧ Below w.heap.size w w' := by
  have HC := Aside0.mk hC
  have Hl := Aside0.mk hl
  clear hC hl
  go_enter Try.func59, Try.ntmps59
  go_wp2_with (at_builtin; refine Kd.R_append_rows k96 (w0 := w) w.heap.size rfl (.const (.slice none 0 0)) (.tmp 3) 38 96 (.agg #[.int .i64 0, .int .i64 0, .int .i64 0]) 24 rfl Try.underlying38 ginfoExtents rfl (by decide) (by decide) (.slice none 0 0) [] l A l.length c (fun _ => True) (fun _ => False) rfl rfl (Kd.R_nil _ _ _ _ _) HC.out (fun x cs h => by obtain rfl := k96_open h; exact k96_mkM _ _ _ _) (fun _ h => h.elim) (fun _ _ => trivial) (Below.refl _ _) (Nat.le_refl _) (by have := Hl.out; rw [List.length_nil]; omega) ?_; intro v1 w1 hr hb hg hat)
  have HR := Aside0.mk hr
  have HB := Aside0.mk hb
  clear hr hb hg hat
  rw [List.nil_append] at HR
  obtain ⟨A1, c1, hv, _⟩ := Kd.R_reads HR.out
  subst hv
  go_ret
  exact ⟨_, rfl, HR.out, HB.out⟩
end Go.Proofs.Ytacmfpkmcefcfaa.Hand
end
section
namespace Go.Proofs.Ytacmfpkmcefcfaa.Hand
open Go.RowKit Go.Proofs.YtacmfpkmcefcfaaW.PrintWords Go.Proofs.YtacmfpkmcefcfaaW.PrintLast Go.Proofs.YtacmfpkmcefcfaaW.PrintMore Go.Proofs.Ytacmfpkmcefcfaa.A
set_option linter.unusedVariables false
set_option linter.unusedSimpArgs false
attribute [local go_sem] max2_int min2_int max_two min_two max_three min_three max_four min_four
theorem cut_up {P : Program} (t e : TypeId) (kh : IntKind) {i : TypeInfo} (ht : P.underlying t = some (.slice e)) (hi : P.info? e = some i) (A : Option Addr) (n c : Nat) (j : Int) (m : Nat) (hj : j = (m : Int)) (hm : m ≤ c) :
    ∀ W : World, (Instr.slice t (.slice A n c) none (some (.int kh j)) none).run P W = .ok (.slice A m c) W := by
  intro W
  subst hj
  have hel : P.elem t = e := by simp [Program.elem, ht]
  have hu : P.underlying t = some (.slice (P.elem t)) := by rw [hel]; exact ht
  have ha : (A.map fun x => x.add 0) = A := by cases A <;> simp [Addr.add]
  rw [run_slice_h W t A n c hu kh (m : Int) (by omega) (by omega), hel]
  simp [sizeOf, typeInfo, hi, sliced, Result.andThen, ha]
theorem R_len {α : Type} {d : Kd α} {e : Nat} {w : World} {B n c : Nat} {A : Option Addr} {ok : Nat → Prop} {xs : List α} (h : Kd.R d e w B ok (.slice A n c) xs) : n = xs.length ∧ n ≤ c := ⟨(Kd.R_reads' h).1, (Kd.R_reads' h).2.1⟩
set_option maxRecDepth 100000 in
theorem lent_Extents (A : Option Addr) (c : Nat) (l : List S96) (hl : l.length ≤ 1000000) (w : World) (hC : Kd.C k96 w A l.length l) :
    Calls Try.prog 24 #[.slice A l.length c] w fun e w' => ∃ A' c', e = .returned (.slice A' l.length c') ∧ Kd.R k96 96 w' w.heap.size (fun _ => True) (.slice A' (l.length + 1) c') (l ++ [(⟨-77, 0, 0⟩ : S96)]) ∧ Below w.heap.size w w' := by
  have HC := Aside0.mk hC
  have Hl := Aside0.mk hl
  have hi : (l.length : Int) ≤ 1000000 := by omega
  clear hC hl
  go_enter Try.func24, Try.ntmps24
  go_wp2_with fail
  refine (copy_Extents A c l Hl.out _ HC.out).mono ?_
  rintro e w1 ⟨u, rfl, hu, hB⟩
  have HU := Aside0.mk hu
  have HB := Aside0.mk hB
  obtain ⟨Au, cu, hue, _⟩ := Kd.R_reads hu
  subst hue
  clear hu hB
  obtain ⟨ti, hti, _⟩ := info_parts ginfoExtents
  have Hti := Aside0.mk hti
  clear hti
  go_wp2_with (at_builtin; refine Kd.R_append k96 (w0 := w) w.heap.size rfl (.tmp 4) (.tmp 6) 38 96 (.agg #[.int .i64 0, .int .i64 0, .int .i64 0]) 24 rfl Try.underlying38 ginfoExtents rfl (by decide) (by decide) (.slice Au l.length cu) l (⟨-77, 0, 0⟩ : S96) [.int .i64 (-77), .int .i64 0, .int .i64 0] (fun _ => True) (fun _ => False) rfl (by first | (go_simp; done) | (go_simp; rfl)) (k96_mkM _ _ _ (⟨-77, 0, 0⟩ : S96)) (fun _ hk => hk.elim) (fun _ _ => trivial) HU.out HB.out HB.out.size (by have := Hl.out; omega) ?_; intro v1 w2 hr hb hg hat; have HR := Aside0.mk hr; have HB2 := Aside0.mk hb; obtain ⟨A2, c2, hv, hle, _⟩ := Kd.R_reads hr; rw [List.length_append, List.length_singleton] at hv hle; subst hv; have hcut := cut_up (P := Try.prog) 38 96 .i64 Try.underlying38 Hti.out A2 (l.length + 1) c2 (l.length : Int) l.length rfl (by omega); clear hr hb hg hat)
  go_ret
  exact ⟨_, _, rfl, HR.out, HB2.out⟩
set_option maxRecDepth 100000 in
theorem stays_Extents {B : Nat} (A' : Option Addr) (c' : Nat) (A : Option Addr) (c : Nat) (l : List S96) (hl : l.length ≤ 1000000) (w : World) (hR : Kd.R k96 96 w B (fun _ => True) (.slice A' (l.length + 1) c') (l ++ [(⟨-77, 0, 0⟩ : S96)])) (hc : l.length ≤ c) (hC : Kd.C k96 w A l.length l) :
    Calls Try.prog 28 #[.slice A' l.length c', .slice A l.length c] w fun e w' => e = .returned (.bool true) ∧ Below w.heap.size w w' := by
  obtain ⟨g, rfl, hg1, hg2, hCg⟩ := row_at0 hR (by simp)
  have hle : l.length + 1 ≤ c' := (R_len hR).2
  have hC0 : Kd.C k96 w (some ⟨g, 0, none⟩) l.length l := by have h := Kd.C_take (m := l.length) hCg (by simp); rw [List.take_left'] at h; exact h; rfl
  obtain ⟨cs, hK, hcs⟩ := C_at0 hCg (k := l.length) (x := (⟨-77, 0, 0⟩ : S96)) (by rw [List.getElem?_append_right (Nat.le_refl _), Nat.sub_self]; rfl)
  obtain rfl : cs = [.int .i64 (-77), .int .i64 0, .int .i64 0] := k96_open hK
  have c0 : w.cell? ⟨g, (l.length * 3), none⟩ = some (.int .i64 (-77)) := by have h := hcs 0 _ rfl; simpa [show Kd.sz k96 = 3 from rfl] using h
  have Hc := Aside0.mk hc
  have HC := Aside0.mk hC
  have HC0 := Aside0.mk hC0
  have Hl := Aside0.mk hl
  have Hle := Aside0.mk hle
  have hi : (l.length : Int) ≤ 1000000 := by omega
  clear hR hCg hC0 hcs hK hC hc hl hle hg1 hg2
  obtain ⟨ti, hti, _⟩ := info_parts ginfoExtents
  have hcut := cut_up (P := Try.prog) 38 96 .i64 Try.underlying38 hti (some ⟨g, 0, none⟩) l.length c' ((l.length : Int) + 1) (l.length + 1) (by omega) (by have := Hle.out; omega)
  clear hti
  have hlt : (l.length : Int) < ((l.length + 1 : Nat) : Int) := by omega
  have hlt2 : (l.length : Int) < (l.length : Int) + 1 := by omega
  go_enter Try.func28, Try.ntmps28
  go_wp2_with fail
  refine (emulsionbook_SameExtents.calls (l.length + 1) _ _ l _ _ l true _ HC0.out (by have := Hle.out; omega) HC.out Hc.out (sameExtents_f l (by have := Hl.out; omega) _ (by omega))).mono ?_
  rintro e w1 ⟨rfl, hd⟩
  have hB := drawnB hd
  have c1 := keep hB c0
  clear c0 hd
  have HB := Aside0.mk hB
  clear hB
  go_wp2_with fail
  go_ret
  exact ⟨rfl, HB.out⟩
end Go.Proofs.Ytacmfpkmcefcfaa.Hand
end
section
namespace Go.Proofs.Ytacmfpkmcefcfaa.A
open Go.RowKit Go.Proofs.YtacmfpkmcefcfaaW.PrintWords Go.Proofs.YtacmfpkmcefcfaaW.PrintLast Go.Proofs.YtacmfpkmcefcfaaW.PrintMore
attribute [local go_sem] max2_int min2_int max_two min_two max_three min_three max_four min_four   -- for this text's walks alone
set_option linter.unusedVariables false
set_option linter.unusedSimpArgs false
def emulsionref1_LayExtents.l0 : Nat → List (S96) → ByteArray → Int → Option (ByteArray)
  | 0, _, _, _ => none
  | k + 1, x0, x3, x4 => if x4 < (x0.length : Int) then (if 0 ≤ x4 then ((emulsionref1_Num.f k ((rd_T96 x0 x4).f0) 1).bind fun t122 => (if x3.size + t122.size ≤ 9223372036854775807 then ((emulsionref1_Num.f k ((rd_T96 x0 x4).f1) 1).bind fun t124 => (if (x3 ++ t122).size + t124.size ≤ 9223372036854775807 then ((emulsionref1_Num.f k ((rd_T96 x0 x4).f2) 1).bind fun t126 => (if ((x3 ++ t122) ++ t124).size + t126.size ≤ 9223372036854775807 then (emulsionref1_LayExtents.l0 k x0 (((x3 ++ t122) ++ t124) ++ t126) (wrap64 (x4 + 1))) else (none))) else (none))) else (none))) else (none)) else (some x3)
def emulsionref1_LayExtents.f (k : Nat) (l0 : List (S96)) : Option (ByteArray) := (emulsionref1_Num.f k (l0.length : Int) 1).bind fun t120 => (emulsionref1_LayExtents.l0 k l0 t120 0)
theorem emulsionref1_LayExtents.mono_l : ∀ k, (∀ y0 y1 y2, LeO (emulsionref1_LayExtents.l0 k y0 y1 y2) (emulsionref1_LayExtents.l0 (k + 1) y0 y1 y2))
  | 0 => fun _ _ _ r h => by simp [emulsionref1_LayExtents.l0] at h
  | k + 1 => by
    have ih0 := emulsionref1_LayExtents.mono_l k
    · intro y0 y1 y2
      unfold emulsionref1_LayExtents.l0
      repeat' first
      | (with_reducible exact ih0 _ _ _)
      | (with_reducible exact emulsionref1_Num.mono _ _ _)
      | (with_reducible exact LeO.refl _)
      | (with_reducible exact LeO.none _)
      | (with_reducible refine LeO.ite ?_ ?_)
      | (with_reducible refine LeO.bind ?_ (fun _ => ?_))
      | exact ih0 _ _ _
      | exact emulsionref1_Num.mono _ _ _
      | exact LeO.none _
      | refine LeO.ite ?_ ?_
      | refine LeO.bind ?_ (fun _ => ?_)
theorem emulsionref1_LayExtents.mono : ∀ a0 k, LeO (emulsionref1_LayExtents.f k a0) (emulsionref1_LayExtents.f (k + 1) a0) := by
  intro a0 k
  have ih0 := emulsionref1_LayExtents.mono_l k
  unfold emulsionref1_LayExtents.f
  repeat' first
      | (with_reducible exact ih0 _ _ _)
      | (with_reducible exact emulsionref1_Num.mono _ _ _)
      | (with_reducible exact LeO.refl _)
      | (with_reducible exact LeO.none _)
      | (with_reducible refine LeO.ite ?_ ?_)
      | (with_reducible refine LeO.bind ?_ (fun _ => ?_))
      | exact ih0 _ _ _
      | exact emulsionref1_Num.mono _ _ _
      | exact LeO.none _
      | refine LeO.ite ?_ ?_
      | refine LeO.bind ?_ (fun _ => ?_)
def emulsionref1_LayExtents.T5 : Bool × List (List Nat × List Nat) := (true, [([], []), ([], []), ([], []), ([1, 2], [1, 2]), ([3], [3]), ([4], [4]), ([5], [5]), ([0, 6], [0, 6]), ([], []), ([], []), ([8, 9], [8, 9]), ([10], [10]), ([11], [11]), ([12, 6], [12]), ([7, 13], [7, 13]), ([], []), ([], []), ([15, 16], [15, 16]), ([17], [17]), ([18], [18]), ([19, 13], [19]), ([14, 20], [14, 20]), ([21, 20, 0, 1, 2, 3, 4, 5, 6, 7, 8, 9, 10, 11, 12, 13, 14, 15, 16, 17, 18, 19, 20, 21], [0, 21])])
def emulsionref1_LayExtents.B5 : List Nat := [0, 0, 0, 6, 14, 30, 62, 127, 0, 0, 768, 1792, 3840, 8062, 16383, 0, 0, 98304, 229376, 491520, 1032062, 2097151, 4194303]
theorem emulsionref1_LayExtents.tab5 : rtab .any (opsOf Try.f27 5) = emulsionref1_LayExtents.T5 := by kernel_rfl
theorem emulsionref1_LayExtents.bits5 : waitsOk emulsionref1_LayExtents.T5.2 emulsionref1_LayExtents.B5 = true := by kernel_rfl
set_option maxHeartbeats 8000000 in
set_option maxRecDepth 100000 in
theorem emulsionref1_LayExtents.calls (k : Nat) (A0 : Option Addr) (c0 : Nat) (l0 : List (S96)) (r : ByteArray) (w : World) (hr0 : Kd.C k96 w A0 l0.length l0) (hc0 : l0.length ≤ c0) (h : emulsionref1_LayExtents.f k l0 = some r) :
    Calls Try.prog 27 #[.slice A0 l0.length c0] w fun e w' => e = .returned (.string r) ∧ Below w.heap.size w w' := by
  have HR0 := Aside0.mk hr0
  have HC0 := Aside0.mk hc0
  clear hr0 hc0
  have HB := Aside0.mk (Below.refl w.heap.size w)
  have H : ((emulsionref1_Num.f k (l0.length : Int) 1).bind fun t120 => (emulsionref1_LayExtents.l0 k l0 t120 0)) = some r := h
  clear h
  replace H := Option.bind_eq_some_iff.mp H
  obtain ⟨t120, A20, H⟩ := H
  replace H : (emulsionref1_LayExtents.l0 k l0 t120 0) = some r := H
  have A2 := Aside0.mk A20
  clear A20
  have H' := Aside0.mk H
  clear H
  go_enter Try.func27, Try.ntmps27
  go_wp2_with (first | ((with_reducible refine gate_callee (f := 22) rfl ?_); refine goesL_ (some 7) rfl rfl Try.func22 (by kernel_rfl) rfl #[.int .i64 (l0.length : Int), .int .i64 1] rfl (by (try simp only [List.map_toArray, List.map_cons, List.map_nil]); first | done | rfl | (simp only [List.length_drop, List.length_take]; rfl)) ?_; (with_reducible refine (emulsionref1_Num.calls k (l0.length : Int) 1 t120 _ A2.out).mono ?_); rintro e w3 ⟨rfl, hb⟩; refine ⟨_, rfl, ?_⟩; have n0_ := Aside0.mk (below_step (by repeat (first | (with_reducible first | exact HB.out | apply below_alloc | apply pw_below_drewN | apply below_drew1) | exact HB.out)) hb); clear HB; have HB := n0_; clear n0_; (try clear hb); (try clear hb2); (try clear hk); (try clear hi)))
  go_loopg [3, 4] k (fun kq v3 v4 w' => ∃ (x3_1 : ByteArray) (x4_1 : Int), v3 = .string x3_1 ∧ v4 = .int .i64 x4_1 ∧ Aside0 (emulsionref1_LayExtents.l0 kq l0 x3_1 x4_1 = some r) ∧ Aside0 (kq ≤ k) ∧ Aside0 (Below w.heap.size w w'))
  case atStart => exact ⟨(t120), (0), (by first | rfl | (simp; done) | (simp [*]; done)), (by first | rfl | (simp; done) | (simp [*]; done)), H', ⟨Nat.le_refl _⟩, ⟨by repeat (first | (with_reducible first | exact HB.out | apply below_alloc | apply pw_below_drewN | apply below_drew1) | exact HB.out)⟩⟩
  case round =>
    clear H'
    try clear c2
    try clear p2
    obtain ⟨x3_1, x4_1, rfl, rfl, HA, HK1, HB⟩ := hrel
    cases gk with
    | zero => exact absurd HA.out (by simp [emulsionref1_LayExtents.l0])
    | succ k1 =>
      have H := HA.out
      clear HA
      simp only [emulsionref1_LayExtents.l0] at H
      by_cases c4 : x4_1 < (l0.length : Int)
      · rw [if_pos c4] at H
        have c4b0 : decide (x4_1 < (l0.length : Int)) = true := decide_eq_true c4
        clear c4
        by_cases c5 : 0 ≤ x4_1
        · rw [if_pos c5] at H
          have c5b0 : decide (0 ≤ x4_1) = true := decide_eq_true c5
          clear c5
          replace H := Option.bind_eq_some_iff.mp H
          obtain ⟨t122, A60, H⟩ := H
          replace H : (if x3_1.size + t122.size ≤ 9223372036854775807 then ((emulsionref1_Num.f k1 ((rd_T96 l0 x4_1).f1) 1).bind fun t124 => (if (x3_1 ++ t122).size + t124.size ≤ 9223372036854775807 then ((emulsionref1_Num.f k1 ((rd_T96 l0 x4_1).f2) 1).bind fun t126 => (if ((x3_1 ++ t122) ++ t124).size + t126.size ≤ 9223372036854775807 then (emulsionref1_LayExtents.l0 k1 l0 (((x3_1 ++ t122) ++ t124) ++ t126) (wrap64 (x4_1 + 1))) else (none))) else (none))) else (none)) = some r := H
          have A6 := Aside0.mk A60
          clear A60
          by_cases c7 : x3_1.size + t122.size ≤ 9223372036854775807
          · rw [if_pos c7] at H
            have c7b0 := eq_true c7
            have c7b1 : decide (x3_1.size + t122.size ≤ 9223372036854775807) = true := decide_eq_true c7
            try have c7b2 : (9223372036854775807 < x3_1.size + t122.size) = False := eq_false (Nat.not_lt.2 c7)
            replace H := Option.bind_eq_some_iff.mp H
            obtain ⟨t124, A80, H⟩ := H
            replace H : (if (x3_1 ++ t122).size + t124.size ≤ 9223372036854775807 then ((emulsionref1_Num.f k1 ((rd_T96 l0 x4_1).f2) 1).bind fun t126 => (if ((x3_1 ++ t122) ++ t124).size + t126.size ≤ 9223372036854775807 then (emulsionref1_LayExtents.l0 k1 l0 (((x3_1 ++ t122) ++ t124) ++ t126) (wrap64 (x4_1 + 1))) else (none))) else (none)) = some r := H
            have A8 := Aside0.mk A80
            clear A80
            by_cases c9 : (x3_1 ++ t122).size + t124.size ≤ 9223372036854775807
            · rw [if_pos c9] at H
              have c9b0 := eq_true c9
              have c9b1 : decide ((x3_1 ++ t122).size + t124.size ≤ 9223372036854775807) = true := decide_eq_true c9
              try have c9b2 : (9223372036854775807 < (x3_1 ++ t122).size + t124.size) = False := eq_false (Nat.not_lt.2 c9)
              try (have c9b3 := c9b2; simp only [ByteArray.size_append, show ∀ x : UInt8, (⟨#[x]⟩ : ByteArray).size = 1 from fun _ => rfl] at c9b3)
              replace H := Option.bind_eq_some_iff.mp H
              obtain ⟨t126, A100, H⟩ := H
              replace H : (if ((x3_1 ++ t122) ++ t124).size + t126.size ≤ 9223372036854775807 then (emulsionref1_LayExtents.l0 k1 l0 (((x3_1 ++ t122) ++ t124) ++ t126) (wrap64 (x4_1 + 1))) else (none)) = some r := H
              have A10 := Aside0.mk A100
              clear A100
              by_cases c11 : ((x3_1 ++ t122) ++ t124).size + t126.size ≤ 9223372036854775807
              · rw [if_pos c11] at H
                have c11b0 := eq_true c11
                have c11b1 : decide (((x3_1 ++ t122) ++ t124).size + t126.size ≤ 9223372036854775807) = true := decide_eq_true c11
                try have c11b2 : (9223372036854775807 < ((x3_1 ++ t122) ++ t124).size + t126.size) = False := eq_false (Nat.not_lt.2 c11)
                try (have c11b3 := c11b2; simp only [ByteArray.size_append, show ∀ x : UInt8, (⟨#[x]⟩ : ByteArray).size = 1 from fun _ => rfl] at c11b3)
                have H' := Aside0.mk H
                clear H
                try go_wp2
                have n0_ := Aside0.mk (below_drew1 HB.out)
                clear HB
                have HB := n0_
                clear n0_
                have p121 : 0 ≤ (x4_1 : Int) := of_decide_eq_true (by first | (with_reducible assumption) | assumption)
                have q121 : x4_1 < (l0.length : Int) := of_decide_eq_true (by first | (with_reducible assumption) | assumption)
                obtain ⟨ad121, e121, hx121_0, hx121_1, hx121_2⟩ := at_T96 HR0.out x4_1 p121 q121
                have hw121_2 := hx121_2
                have hw121_1 := hx121_1
                have hw121_0 := hx121_0
                cases e121
                replace hx121_0 := (HB.out.cell (World.block_lt_of_cell? w _ hx121_0)).trans hx121_0
                replace hx121_1 := (HB.out.cell (World.block_lt_of_cell? w _ hx121_1)).trans hx121_1
                replace hx121_2 := (HB.out.cell (World.block_lt_of_cell? w _ hx121_2)).trans hx121_2
                replace p121 := eq_true p121
                replace q121 := eq_true q121
                have p123 : 0 ≤ (x4_1 : Int) := of_decide_eq_true (by first | (with_reducible assumption) | assumption)
                have q123 : x4_1 < (l0.length : Int) := of_decide_eq_true (by first | (with_reducible assumption) | assumption)
                obtain ⟨ad123, e123, hx123_0, hx123_1, hx123_2⟩ := at_T96 HR0.out x4_1 p123 q123
                have hw123_2 := hx123_2
                have hw123_1 := hx123_1
                have hw123_0 := hx123_0
                obtain rfl : ad121 = ad123 := (by injection e123)
                replace hx123_0 := (HB.out.cell (World.block_lt_of_cell? w _ hx123_0)).trans hx123_0
                replace hx123_1 := (HB.out.cell (World.block_lt_of_cell? w _ hx123_1)).trans hx123_1
                replace hx123_2 := (HB.out.cell (World.block_lt_of_cell? w _ hx123_2)).trans hx123_2
                replace p123 := eq_true p123
                replace q123 := eq_true q123
                have p125 : 0 ≤ (x4_1 : Int) := of_decide_eq_true (by first | (with_reducible assumption) | assumption)
                have q125 : x4_1 < (l0.length : Int) := of_decide_eq_true (by first | (with_reducible assumption) | assumption)
                obtain ⟨ad125, e125, hx125_0, hx125_1, hx125_2⟩ := at_T96 HR0.out x4_1 p125 q125
                have hw125_2 := hx125_2
                have hw125_1 := hx125_1
                have hw125_0 := hx125_0
                obtain rfl : ad121 = ad125 := (by injection e125)
                replace hx125_0 := (HB.out.cell (World.block_lt_of_cell? w _ hx125_0)).trans hx125_0
                replace hx125_1 := (HB.out.cell (World.block_lt_of_cell? w _ hx125_1)).trans hx125_1
                replace hx125_2 := (HB.out.cell (World.block_lt_of_cell? w _ hx125_2)).trans hx125_2
                replace p125 := eq_true p125
                replace q125 := eq_true q125
                refine start_ (n := 23) (S := fun w' => w'.cell? (ad121.add ((x4_1).toNat * 3)) = some (.int .i64 ((rd_T96 l0 x4_1).f0)) ∧ w'.cell? ⟨(ad121.add ((x4_1).toNat * 3)).block, (ad121.add ((x4_1).toNat * 3)).off + 1, none⟩ = some (.int .i64 ((rd_T96 l0 x4_1).f1)) ∧ w'.cell? ⟨(ad121.add ((x4_1).toNat * 3)).block, (ad121.add ((x4_1).toNat * 3)).off + 2, none⟩ = some (.int .i64 ((rd_T96 l0 x4_1).f2)) ∧ w'.cell? (ad121.add ((x4_1).toNat * 3)) = some (.int .i64 ((rd_T96 l0 x4_1).f0)) ∧ w'.cell? ⟨(ad121.add ((x4_1).toNat * 3)).block, (ad121.add ((x4_1).toNat * 3)).off + 1, none⟩ = some (.int .i64 ((rd_T96 l0 x4_1).f1)) ∧ w'.cell? ⟨(ad121.add ((x4_1).toNat * 3)).block, (ad121.add ((x4_1).toNat * 3)).off + 2, none⟩ = some (.int .i64 ((rd_T96 l0 x4_1).f2)) ∧ w'.cell? (ad121.add ((x4_1).toNat * 3)) = some (.int .i64 ((rd_T96 l0 x4_1).f0)) ∧ w'.cell? ⟨(ad121.add ((x4_1).toNat * 3)).block, (ad121.add ((x4_1).toNat * 3)).off + 1, none⟩ = some (.int .i64 ((rd_T96 l0 x4_1).f1)) ∧ w'.cell? ⟨(ad121.add ((x4_1).toNat * 3)).block, (ad121.add ((x4_1).toNat * 3)).off + 2, none⟩ = some (.int .i64 ((rd_T96 l0 x4_1).f2))) (ds := []) #[false, false, false, false, false, false, false, false, false, false, false, false, false, false, false, false, false, false, false, false, false, false, false] (by kernel_rfl) rfl rfl ⟨((HB.out.cell (World.block_lt_of_cell? w _ hw121_0)).trans hw121_0), ((HB.out.cell (World.block_lt_of_cell? w _ hw121_1)).trans hw121_1), ((HB.out.cell (World.block_lt_of_cell? w _ hw121_2)).trans hw121_2), ((HB.out.cell (World.block_lt_of_cell? w _ hw123_0)).trans hw123_0), ((HB.out.cell (World.block_lt_of_cell? w _ hw123_1)).trans hw123_1), ((HB.out.cell (World.block_lt_of_cell? w _ hw123_2)).trans hw123_2), ((HB.out.cell (World.block_lt_of_cell? w _ hw125_0)).trans hw125_0), ((HB.out.cell (World.block_lt_of_cell? w _ hw125_1)).trans hw125_1), ((HB.out.cell (World.block_lt_of_cell? w _ hw125_2)).trans hw125_2)⟩ (fun hHeld => ?_); refine with_tabW emulsionref1_LayExtents.tab5 emulsionref1_LayExtents.bits5 (fun HT_ HW_ => ?_)
                generalize wr.drew = w12 at HB hx121_0 hx121_1 hx121_2 hx123_0 hx123_1 hx123_2 hx125_0 hx125_1 hx125_2 hHeld ⊢
                refine pure_ (i := 0) (N := some 14) (v := ?_) (a' := ?_) #[true, false, false, false, false, false, false, false, false, false, false, false, false, false, false, false, false, false, false, false, false, false, false] rfl rfl (any_of HT_.out (by kernel_rfl)) (fun _ _ _ h => h) (Or.inl ⟨by rfl, ?_⟩) ?_ ?_
                rotate_left
                · intro w'
                  go_simp
                  with_reducible rfl
                rotate_left
                · simp only [Act.put, List.setIfInBounds_toArray, List.set_cons_zero, List.set_cons_succ, i64_w, i32_w]
                  rfl
                refine pure_ (i := 1) (N := some 15) (v := ?_) (a' := ?_) #[true, true, false, false, false, false, false, false, false, false, false, false, false, false, false, false, false, false, false, false, false, false, false] rfl rfl (any_of HT_.out (by kernel_rfl)) (fun _ _ _ h => h) (Or.inl ⟨by rfl, ?_⟩) ?_ ?_
                rotate_left
                · intro w'
                  go_simp
                  with_reducible rfl
                rotate_left
                · simp only [Act.put, List.setIfInBounds_toArray, List.set_cons_zero, List.set_cons_succ, i64_w, i32_w]
                  rfl
                refine pure_ (i := 2) (N := some 16) (v := ?_) (a' := ?_) #[true, true, true, false, false, false, false, false, false, false, false, false, false, false, false, false, false, false, false, false, false, false, false] rfl rfl (any_of HT_.out (by kernel_rfl)) (fun _ _ _ h => h) (Or.inl ⟨by rfl, ?_⟩) ?_ ?_
                rotate_left
                · intro w'
                  go_simp
                  with_reducible rfl
                rotate_left
                · simp only [Act.put, List.setIfInBounds_toArray, List.set_cons_zero, List.set_cons_succ, i64_w, i32_w]
                  rfl
                refine pure_ (i := 3) (N := some 17) (v := ?_) (a' := ?_) #[true, true, true, true, false, false, false, false, false, false, false, false, false, false, false, false, false, false, false, false, false, false, false] rfl rfl (any_of HT_.out (by kernel_rfl)) (fun _ _ _ h => h) (Or.inl ⟨by rfl, ?_⟩) ?_ ?_
                rotate_left
                · intro w'
                  go_simp
                  with_reducible rfl
                rotate_left
                · simp only [Act.put, List.setIfInBounds_toArray, List.set_cons_zero, List.set_cons_succ, i64_w, i32_w]
                  rfl
                refine pure_ (i := 4) (N := some 18) (v := ?_) (a' := ?_) #[true, true, true, true, true, false, false, false, false, false, false, false, false, false, false, false, false, false, false, false, false, false, false] rfl rfl (any_of HT_.out (by kernel_rfl)) (fun _ _ _ h => h) (Or.inl ⟨by rfl, ?_⟩) ?_ ?_
                rotate_left
                · intro w'
                  go_simp
                  with_reducible rfl
                rotate_left
                · simp only [Act.put, List.setIfInBounds_toArray, List.set_cons_zero, List.set_cons_succ, i64_w, i32_w]
                  rfl
                refine pure_ (i := 8) (N := some 22) (v := ?_) (a' := ?_) #[true, true, true, true, true, false, false, false, true, false, false, false, false, false, false, false, false, false, false, false, false, false, false] rfl rfl (any_of HT_.out (by kernel_rfl)) (fun _ _ _ h => h) (Or.inl ⟨by rfl, ?_⟩) ?_ ?_
                rotate_left
                · intro w'
                  go_simp
                  with_reducible rfl
                rotate_left
                · simp only [Act.put, List.setIfInBounds_toArray, List.set_cons_zero, List.set_cons_succ, i64_w, i32_w]
                  rfl
                refine pure_ (i := 9) (N := some 23) (v := ?_) (a' := ?_) #[true, true, true, true, true, false, false, false, true, true, false, false, false, false, false, false, false, false, false, false, false, false, false] rfl rfl (any_of HT_.out (by kernel_rfl)) (fun _ _ _ h => h) (Or.inl ⟨by rfl, ?_⟩) ?_ ?_
                rotate_left
                · intro w'
                  go_simp
                  with_reducible rfl
                rotate_left
                · simp only [Act.put, List.setIfInBounds_toArray, List.set_cons_zero, List.set_cons_succ, i64_w, i32_w]
                  rfl
                refine pure_ (i := 10) (N := some 24) (v := ?_) (a' := ?_) #[true, true, true, true, true, false, false, false, true, true, true, false, false, false, false, false, false, false, false, false, false, false, false] rfl rfl (any_of HT_.out (by kernel_rfl)) (fun _ _ _ h => h) (Or.inl ⟨by rfl, ?_⟩) ?_ ?_
                rotate_left
                · intro w'
                  go_simp
                  with_reducible rfl
                rotate_left
                · simp only [Act.put, List.setIfInBounds_toArray, List.set_cons_zero, List.set_cons_succ, i64_w, i32_w]
                  rfl
                refine pure_ (i := 11) (N := some 25) (v := ?_) (a' := ?_) #[true, true, true, true, true, false, false, false, true, true, true, true, false, false, false, false, false, false, false, false, false, false, false] rfl rfl (any_of HT_.out (by kernel_rfl)) (fun _ _ _ h => h) (Or.inl ⟨by rfl, ?_⟩) ?_ ?_
                rotate_left
                · intro w'
                  go_simp
                  with_reducible rfl
                rotate_left
                · simp only [Act.put, List.setIfInBounds_toArray, List.set_cons_zero, List.set_cons_succ, i64_w, i32_w]
                  rfl
                refine pure_ (i := 15) (N := some 29) (v := ?_) (a' := ?_) #[true, true, true, true, true, false, false, false, true, true, true, true, false, false, false, true, false, false, false, false, false, false, false] rfl rfl (any_of HT_.out (by kernel_rfl)) (fun _ _ _ h => h) (Or.inl ⟨by rfl, ?_⟩) ?_ ?_
                rotate_left
                · intro w'
                  go_simp
                  with_reducible rfl
                rotate_left
                · simp only [Act.put, List.setIfInBounds_toArray, List.set_cons_zero, List.set_cons_succ, i64_w, i32_w]
                  rfl
                refine pure_ (i := 16) (N := some 30) (v := ?_) (a' := ?_) #[true, true, true, true, true, false, false, false, true, true, true, true, false, false, false, true, true, false, false, false, false, false, false] rfl rfl (any_of HT_.out (by kernel_rfl)) (fun _ _ _ h => h) (Or.inl ⟨by rfl, ?_⟩) ?_ ?_
                rotate_left
                · intro w'
                  go_simp
                  with_reducible rfl
                rotate_left
                · simp only [Act.put, List.setIfInBounds_toArray, List.set_cons_zero, List.set_cons_succ, i64_w, i32_w]
                  rfl
                refine pure_ (i := 17) (N := some 31) (v := ?_) (a' := ?_) #[true, true, true, true, true, false, false, false, true, true, true, true, false, false, false, true, true, true, false, false, false, false, false] rfl rfl (any_of HT_.out (by kernel_rfl)) (fun _ _ _ h => h) (Or.inl ⟨by rfl, ?_⟩) ?_ ?_
                rotate_left
                · intro w'
                  go_simp
                  with_reducible rfl
                rotate_left
                · simp only [Act.put, List.setIfInBounds_toArray, List.set_cons_zero, List.set_cons_succ, i64_w, i32_w]
                  rfl
                refine pure_ (i := 18) (N := some 32) (v := ?_) (a' := ?_) #[true, true, true, true, true, false, false, false, true, true, true, true, false, false, false, true, true, true, true, false, false, false, false] rfl rfl (any_of HT_.out (by kernel_rfl)) (fun _ _ _ h => h) (Or.inl ⟨by rfl, ?_⟩) ?_ ?_
                rotate_left
                · intro w'
                  go_simp
                  with_reducible rfl
                rotate_left
                · simp only [Act.put, List.setIfInBounds_toArray, List.set_cons_zero, List.set_cons_succ, i64_w, i32_w]
                  rfl
                refine take_ (i := 5) (N := some 19) (v := ?_) (a' := ?_) #[true, true, true, true, true, true, false, false, true, true, true, true, false, false, false, true, true, true, true, false, false, false, false] rfl rfl (take_ofW HT_.out HW_.out (by kernel_rfl)) (fun _ _ _ h => h) (Or.inl ⟨by rfl, ?_⟩) hHeld ?_ ?_
                rotate_left
                · rintro w' ⟨s0, s1, s2, s3, s4, s5, s6, s7, s8⟩
                  go_simp
                  with_reducible rfl
                rotate_left
                · simp only [Act.put, List.setIfInBounds_toArray, List.set_cons_zero, List.set_cons_succ, i64_w, i32_w]
                  rfl
                refine take_ (i := 12) (N := some 26) (v := ?_) (a' := ?_) #[true, true, true, true, true, true, false, false, true, true, true, true, true, false, false, true, true, true, true, false, false, false, false] rfl rfl (take_ofW HT_.out HW_.out (by kernel_rfl)) (fun _ _ _ h => h) (Or.inl ⟨by rfl, ?_⟩) hHeld ?_ ?_
                rotate_left
                · rintro w' ⟨s0, s1, s2, s3, s4, s5, s6, s7, s8⟩
                  go_simp
                  with_reducible rfl
                rotate_left
                · simp only [Act.put, List.setIfInBounds_toArray, List.set_cons_zero, List.set_cons_succ, i64_w, i32_w]
                  rfl
                refine take_ (i := 19) (N := some 33) (v := ?_) (a' := ?_) #[true, true, true, true, true, true, false, false, true, true, true, true, true, false, false, true, true, true, true, true, false, false, false] rfl rfl (take_ofW HT_.out HW_.out (by kernel_rfl)) (fun _ _ _ h => h) (Or.inl ⟨by rfl, ?_⟩) hHeld ?_ ?_
                rotate_left
                · rintro w' ⟨s0, s1, s2, s3, s4, s5, s6, s7, s8⟩
                  go_simp
                  with_reducible rfl
                rotate_left
                · simp only [Act.put, List.setIfInBounds_toArray, List.set_cons_zero, List.set_cons_succ, i64_w, i32_w]
                  rfl
                refine one_ (i := 6) (N := some 20) #[true, true, true, true, true, true, true, false, true, true, true, true, true, false, false, true, true, true, true, true, false, false, false] rfl rfl (one_of HT_.out (by kernel_rfl)) (by decide) (fun K hK => ?_)
                refine goes_ Try.func22 (by kernel_rfl) rfl #[.int .i64 ((rd_T96 l0 x4_1).f0), .int .i64 1] (by rfl) rfl rfl (by (try simp only [List.map_toArray, List.map_cons, List.map_nil]); first | done | rfl | (simp only [List.length_drop, List.length_take]; rfl)) ?_
                with_reducible refine (emulsionref1_Num.calls k1 ((rd_T96 l0 x4_1).f0) 1 t122 _ A6.out).mono ?_
                rintro e w13 ⟨rfl, hb⟩
                refine ⟨_, rfl, ?_⟩
                have n0_ := Aside0.mk (below_step (by repeat (first | (with_reducible first | exact HB.out | apply below_alloc | apply pw_below_drewN | apply below_drew1) | exact HB.out)) hb)
                clear HB
                have HB := n0_
                clear n0_
                (try clear hb)
                (try clear hb2)
                (try clear hk)
                (try clear hi)
                refine hK.out _ _ ⟨((HB.out.cell (World.block_lt_of_cell? w _ hw121_0)).trans hw121_0), ((HB.out.cell (World.block_lt_of_cell? w _ hw121_1)).trans hw121_1), ((HB.out.cell (World.block_lt_of_cell? w _ hw121_2)).trans hw121_2), ((HB.out.cell (World.block_lt_of_cell? w _ hw123_0)).trans hw123_0), ((HB.out.cell (World.block_lt_of_cell? w _ hw123_1)).trans hw123_1), ((HB.out.cell (World.block_lt_of_cell? w _ hw123_2)).trans hw123_2), ((HB.out.cell (World.block_lt_of_cell? w _ hw125_0)).trans hw125_0), ((HB.out.cell (World.block_lt_of_cell? w _ hw125_1)).trans hw125_1), ((HB.out.cell (World.block_lt_of_cell? w _ hw125_2)).trans hw125_2)⟩ (fun hHeld => ?_)
                clear hK K
                refine norm_ (a' := ?_) ?_ ?_
                rotate_left
                · show Act.put _ (some 20) _ = _
                  simp only [Act.put, List.setIfInBounds_toArray, List.set_cons_zero, List.set_cons_succ, i64_w, i32_w]
                  rfl
                refine pure_ (i := 7) (N := some 21) (v := ?_) (a' := ?_) #[true, true, true, true, true, true, true, true, true, true, true, true, true, false, false, true, true, true, true, true, false, false, false] rfl rfl (any_of HT_.out (by kernel_rfl)) (fun _ _ _ h => h) (Or.inl ⟨by rfl, ?_⟩) ?_ ?_
                rotate_left
                · intro w'
                  go_simp
                  with_reducible rfl
                rotate_left
                · simp only [Act.put, List.setIfInBounds_toArray, List.set_cons_zero, List.set_cons_succ, i64_w, i32_w]
                  rfl
                refine one_ (i := 13) (N := some 27) #[true, true, true, true, true, true, true, true, true, true, true, true, true, true, false, true, true, true, true, true, false, false, false] rfl rfl (one_of HT_.out (by kernel_rfl)) (by decide) (fun K hK => ?_)
                refine goes_ Try.func22 (by kernel_rfl) rfl #[.int .i64 ((rd_T96 l0 x4_1).f1), .int .i64 1] (by rfl) rfl rfl (by (try simp only [List.map_toArray, List.map_cons, List.map_nil]); first | done | rfl | (simp only [List.length_drop, List.length_take]; rfl)) ?_
                with_reducible refine (emulsionref1_Num.calls k1 ((rd_T96 l0 x4_1).f1) 1 t124 _ A8.out).mono ?_
                rintro e w14 ⟨rfl, hb⟩
                refine ⟨_, rfl, ?_⟩
                have n0_ := Aside0.mk (below_step (by repeat (first | (with_reducible first | exact HB.out | apply below_alloc | apply pw_below_drewN | apply below_drew1) | exact HB.out)) hb)
                clear HB
                have HB := n0_
                clear n0_
                (try clear hb)
                (try clear hb2)
                (try clear hk)
                (try clear hi)
                refine hK.out _ _ ⟨((HB.out.cell (World.block_lt_of_cell? w _ hw121_0)).trans hw121_0), ((HB.out.cell (World.block_lt_of_cell? w _ hw121_1)).trans hw121_1), ((HB.out.cell (World.block_lt_of_cell? w _ hw121_2)).trans hw121_2), ((HB.out.cell (World.block_lt_of_cell? w _ hw123_0)).trans hw123_0), ((HB.out.cell (World.block_lt_of_cell? w _ hw123_1)).trans hw123_1), ((HB.out.cell (World.block_lt_of_cell? w _ hw123_2)).trans hw123_2), ((HB.out.cell (World.block_lt_of_cell? w _ hw125_0)).trans hw125_0), ((HB.out.cell (World.block_lt_of_cell? w _ hw125_1)).trans hw125_1), ((HB.out.cell (World.block_lt_of_cell? w _ hw125_2)).trans hw125_2)⟩ (fun hHeld => ?_)
                clear hK K
                refine norm_ (a' := ?_) ?_ ?_
                rotate_left
                · show Act.put _ (some 27) _ = _
                  simp only [Act.put, List.setIfInBounds_toArray, List.set_cons_zero, List.set_cons_succ, i64_w, i32_w]
                  rfl
                refine pure_ (i := 14) (N := some 28) (v := ?_) (a' := ?_) #[true, true, true, true, true, true, true, true, true, true, true, true, true, true, true, true, true, true, true, true, false, false, false] rfl rfl (any_of HT_.out (by kernel_rfl)) (fun _ _ _ h => h) (Or.inl ⟨by rfl, ?_⟩) ?_ ?_
                rotate_left
                · intro w'
                  go_simp
                  with_reducible rfl
                rotate_left
                · simp only [Act.put, List.setIfInBounds_toArray, List.set_cons_zero, List.set_cons_succ, i64_w, i32_w]
                  rfl
                refine one_ (i := 20) (N := some 34) #[true, true, true, true, true, true, true, true, true, true, true, true, true, true, true, true, true, true, true, true, true, false, false] rfl rfl (one_of HT_.out (by kernel_rfl)) (by decide) (fun K hK => ?_)
                refine goes_ Try.func22 (by kernel_rfl) rfl #[.int .i64 ((rd_T96 l0 x4_1).f2), .int .i64 1] (by rfl) rfl rfl (by (try simp only [List.map_toArray, List.map_cons, List.map_nil]); first | done | rfl | (simp only [List.length_drop, List.length_take]; rfl)) ?_
                with_reducible refine (emulsionref1_Num.calls k1 ((rd_T96 l0 x4_1).f2) 1 t126 _ A10.out).mono ?_
                rintro e w15 ⟨rfl, hb⟩
                refine ⟨_, rfl, ?_⟩
                have n0_ := Aside0.mk (below_step (by repeat (first | (with_reducible first | exact HB.out | apply below_alloc | apply pw_below_drewN | apply below_drew1) | exact HB.out)) hb)
                clear HB
                have HB := n0_
                clear n0_
                (try clear hb)
                (try clear hb2)
                (try clear hk)
                (try clear hi)
                refine hK.out _ _ ⟨((HB.out.cell (World.block_lt_of_cell? w _ hw121_0)).trans hw121_0), ((HB.out.cell (World.block_lt_of_cell? w _ hw121_1)).trans hw121_1), ((HB.out.cell (World.block_lt_of_cell? w _ hw121_2)).trans hw121_2), ((HB.out.cell (World.block_lt_of_cell? w _ hw123_0)).trans hw123_0), ((HB.out.cell (World.block_lt_of_cell? w _ hw123_1)).trans hw123_1), ((HB.out.cell (World.block_lt_of_cell? w _ hw123_2)).trans hw123_2), ((HB.out.cell (World.block_lt_of_cell? w _ hw125_0)).trans hw125_0), ((HB.out.cell (World.block_lt_of_cell? w _ hw125_1)).trans hw125_1), ((HB.out.cell (World.block_lt_of_cell? w _ hw125_2)).trans hw125_2)⟩ (fun hHeld => ?_)
                clear hK K
                refine norm_ (a' := ?_) ?_ ?_
                rotate_left
                · show Act.put _ (some 34) _ = _
                  simp only [Act.put, List.setIfInBounds_toArray, List.set_cons_zero, List.set_cons_succ, i64_w, i32_w]
                  rfl
                refine pure_ (i := 21) (N := some 35) (v := ?_) (a' := ?_) #[true, true, true, true, true, true, true, true, true, true, true, true, true, true, true, true, true, true, true, true, true, true, false] rfl rfl (any_of HT_.out (by kernel_rfl)) (fun _ _ _ h => h) (Or.inl ⟨by rfl, ?_⟩) ?_ ?_
                rotate_left
                · intro w'
                  go_simp
                  with_reducible rfl
                rotate_left
                · simp only [Act.put, List.setIfInBounds_toArray, List.set_cons_zero, List.set_cons_succ, i64_w, i32_w]
                  rfl
                refine pure_ (i := 22) (N := some 3) (v := ?_) (a' := ?_) #[true, true, true, true, true, true, true, true, true, true, true, true, true, true, true, true, true, true, true, true, true, true, true] rfl rfl (any_of HT_.out (by kernel_rfl)) (fun _ _ _ h => h) (Or.inl ⟨by rfl, ?_⟩) ?_ ?_
                rotate_left
                · intro w'
                  go_simp
                  with_reducible rfl
                rotate_left
                · simp only [Act.put, List.setIfInBounds_toArray, List.set_cons_zero, List.set_cons_succ, i64_w, i32_w]
                  rfl
                refine done_ (done_of HT_.out (by kernel_rfl)) ?_
                try go_wp2
                go_roundg k1
                case measure => have := HK1.out; omega
                case rel => exact ⟨(((x3_1 ++ t122) ++ t124) ++ t126), (wrap64 (x4_1 + 1)), (by first | rfl | (simp; done) | (simp [*]; done)), (by first | rfl | (simp; done) | (simp [*]; done)), H', ⟨by have := HK1.out; omega⟩, ⟨by repeat (first | (with_reducible first | exact HB.out | apply below_alloc | apply pw_below_drewN | apply below_drew1) | exact HB.out)⟩⟩
              · rw [if_neg c11] at H
                exact absurd H (by simp)
            · rw [if_neg c9] at H
              exact absurd H (by simp)
          · rw [if_neg c7] at H
            exact absurd H (by simp)
        · rw [if_neg c5] at H
          exact absurd H (by simp)
      · rw [if_neg c4] at H
        have c4b0 : decide (x4_1 < (l0.length : Int)) = false := decide_eq_false c4
        clear c4
        obtain rfl := Option.some.inj H
        go_wp2
        go_ret
        exact ⟨by first | rfl | (simp [errW_none, errW_some] <;> rfl) | (simp [*, errW_none, errW_some] <;> rfl), by repeat (first | (with_reducible first | exact HB.out | apply below_alloc | apply pw_below_drewN | apply below_drew1) | exact HB.out)⟩
end Go.Proofs.Ytacmfpkmcefcfaa.A
end
