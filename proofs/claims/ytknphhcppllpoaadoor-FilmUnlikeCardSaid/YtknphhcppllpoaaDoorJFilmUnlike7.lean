/- Parts of the proof for FilmUnlike: WaFilmUnlike. -/
import Derived.Deep.WholeRow
import Derived.Test.YtknphhcppllpoaaDoorJFilmUnlike6
import Derived.Test.YtknphhcppllpoaaDoorJFilmUnlike2
import Derived.Test.YtknphhcppllpoaaDoorJFilmUnlike4
import Derived.Test.YtknphhcppllpoaaDoorJFilmUnlike5
section
namespace Go.Proofs.YtknphhcppllpoaaDoor.WFilmUnlike
open Go.RowKit Go.Proofs.YtknphhcppllpoaaDoorW.PrintWords Go.Proofs.YtknphhcppllpoaaDoorW.PrintLast Go.Proofs.YtknphhcppllpoaaDoorW.PrintMore Go.Proofs.YtknphhcppllpoaaDoor.A Go.Proofs.YtknphhcppllpoaaDoor.Hand
set_option linter.unusedVariables false
set_option linter.unusedSimpArgs false
attribute [local go_sem] max2_int min2_int max_two min_two max_three min_three max_four min_four
attribute [local go_sem high] eqA55
abbrev SP := S31
set_option maxRecDepth 100000 in
set_option maxHeartbeats 1600000 in
theorem early (a b : Int) (A : Option Addr) (c : Nat) (l : List SP) (B : Option Addr) (d : Nat) (m : List SP) (z : ByteArray) (w : World) (hc : l.length ≤ c) (hC : Kd.C k31 w A l.length l) (hd : m.length ≤ d) (hD : Kd.C k31 w B m.length m) (hz : (z.size : Int) ≤ 9223372036854775807) (h : a < 1 ∨ (¬ a < 1 ∧ b < 1) ∨ (¬ a < 1 ∧ ¬ b < 1 ∧ 64 < a) ∨ (¬ a < 1 ∧ ¬ b < 1 ∧ ¬ 64 < a ∧ 64 < b) ∨ (¬ a < 1 ∧ ¬ b < 1 ∧ ¬ 64 < a ∧ ¬ 64 < b ∧ 100 < (z.size : Int))) :
    Calls Tryd.prog 4 #[.int .i64 a, .int .i64 b, .slice A l.length c, .slice B m.length d, .string z] w fun e w' => e = .returned (.bool true) ∧ Below w.heap.size w w' := by
  have hln : (l.length : Int) ≤ 9223372036854775807 := by have := hC.2.1; omega
  have hlm : (m.length : Int) ≤ 9223372036854775807 := by have := hD.2.1; omega
  rcases h with h | ⟨h0, h⟩ | ⟨h0, h1, h⟩ | ⟨h0, h1, h2, h⟩ | ⟨h0, h1, h2, h3, h⟩
  all_goals
    have HB0 := Aside0.mk (Below.refl w.heap.size w)
    have HO := Aside0.mk hC
    have HQ := Aside0.mk hD
    have Hc := Aside0.mk hc
    have Hd := Aside0.mk hd
    clear hC hc hD hd
    go_enter Tryd.func4, Tryd.ntmps4
    go_wp2_with fail
    refine (light_any A c l _ HO.out Hc.out).mono ?_
    rintro e w1 ⟨bl, rfl, hB⟩
    have HB1 := Aside0.mk (below_step HB0.out hB)
    clear hB HB0
    cases bl
    · go_wp2_with fail
      refine (alive4 _).mono ?_
      rintro e w4 ⟨rfl, hB4⟩
      have HB4 := Aside0.mk (below_step HB1.out hB4)
      clear hB4
      go_wp2_with fail
      go_ret
      exact ⟨rfl, HB4.out⟩
    · go_wp2_with fail
      refine (light_any B d m _ (Kd.C_below HQ.out HB1.out) Hd.out).mono ?_
      rintro e w2 ⟨bm, rfl, hB⟩
      have HB2 := Aside0.mk (below_step HB1.out hB)
      clear hB HB1
      cases bm
      · go_wp2_with fail
        refine (alive4 _).mono ?_
        rintro e w4 ⟨rfl, hB4⟩
        have HB4 := Aside0.mk (below_step HB2.out hB4)
        clear hB4
        go_wp2_with fail
        go_ret
        exact ⟨rfl, HB4.out⟩
      · go_wp2_with fail
        refine (alive4 _).mono ?_
        rintro e w4 ⟨rfl, hB4⟩
        have HB4 := Aside0.mk (below_step HB2.out hB4)
        clear hB4
        go_wp2_with fail
        go_ret
        exact ⟨rfl, HB4.out⟩
set_option maxRecDepth 100000 in
set_option maxHeartbeats 6400000 in
theorem main (a b : Nat) (A : Option Addr) (c : Nat) (l : List SP) (B : Option Addr) (d : Nat) (m : List SP) (z : ByteArray) (w : World) (hc : l.length ≤ c) (hC : Kd.C k31 w A l.length l) (hd : m.length ≤ d) (hD : Kd.C k31 w B m.length m) (h1 : 1 ≤ a) (h2 : a ≤ 64) (h3 : 1 ≤ b) (h4 : b ≤ 64) (hz : (z.size : Int) ≤ 100) :
    Calls Tryd.prog 4 #[.int .i64 (a : Int), .int .i64 (b : Int), .slice A l.length c, .slice B m.length d, .string z] w fun e w' => e = .returned (.bool true) ∧ Below w.heap.size w w' := by
  have n0 : ¬ (a : Int) < 1 := by omega
  have n1 : ¬ 64 < (a : Int) := by omega
  have n2 : ¬ (b : Int) < 1 := by omega
  have n3 : ¬ 64 < (b : Int) := by omega
  have i1 : (a : Int) ≤ 64 := by omega
  have i2 : (b : Int) ≤ 64 := by omega
  have n4 : ¬ 100 < (z.size : Int) := by omega
  have ha1 := Aside0.mk h1
  have ha2 := Aside0.mk h2
  have hb1 := Aside0.mk h3
  have hb2 := Aside0.mk h4
  have hln : (l.length : Int) ≤ 9223372036854775807 := by have := hC.2.1; omega
  have hlm : (m.length : Int) ≤ 9223372036854775807 := by have := hD.2.1; omega
  clear h1 h2 h3 h4
  have HB0 := Aside0.mk (Below.refl w.heap.size w)
  have HO := Aside0.mk hC
  have HQ := Aside0.mk hD
  have Hc := Aside0.mk hc
  have Hd := Aside0.mk hd
  clear hC hc hD hd
  go_enter Tryd.func4, Tryd.ntmps4
  go_wp2_with fail
  refine (light_any A c l _ HO.out Hc.out).mono ?_
  rintro e w1 ⟨bl, rfl, hB⟩
  have HB1 := Aside0.mk (below_step HB0.out hB)
  clear hB HB0
  cases bl
  · go_wp2_with fail
    refine (alive4 _).mono ?_
    rintro e w4 ⟨rfl, hB4⟩
    have HB4 := Aside0.mk (below_step HB1.out hB4)
    clear hB4
    go_wp2_with fail
    go_ret
    exact ⟨rfl, HB4.out⟩
  · go_wp2_with fail
    refine (light_any B d m _ (Kd.C_below HQ.out HB1.out) Hd.out).mono ?_
    rintro e w2 ⟨bm, rfl, hB⟩
    have HB2 := Aside0.mk (below_step HB1.out hB)
    clear hB HB1
    cases bm
    · go_wp2_with fail
      refine (alive4 _).mono ?_
      rintro e w4 ⟨rfl, hB4⟩
      have HB4 := Aside0.mk (below_step HB2.out hB4)
      clear hB4
      go_wp2_with fail
      go_ret
      exact ⟨rfl, HB4.out⟩
    · go_wp2_with fail
      refine (alive4 _).mono ?_
      rintro e w3 ⟨rfl, hB⟩
      have HB3 := Aside0.mk (below_step HB2.out hB)
      clear hB HB2
      go_wp2_with fail
      refine (film_new a ha1.out ha2.out _).mono ?_
      rintro e w4 ⟨gf, qf, rfl, hg, hq, hf, hB⟩
      have HB4 := Aside0.mk (below_step HB3.out hB)
      have HX4 := Aside0.mk hf
      have Hg : Aside0 (w.heap.size ≤ gf ∧ w.heap.size ≤ qf) := ⟨by have := HB3.out.size; omega⟩
      clear hB HB3 hf hg hq
      go_wp2_with fail
      refine (film_new b hb1.out hb2.out _).mono ?_
      rintro e w5 ⟨gy, qy, rfl, hg, hq, hf, hB⟩
      have HB5 := Aside0.mk (below_step HB4.out hB)
      have HX5 := Aside0.mk (HX4.out.keep hB)
      have HY5 := Aside0.mk hf
      have Hy : Aside0 (w.heap.size ≤ gy ∧ w.heap.size ≤ qy ∧ gf ≠ qy ∧ qf ≠ qy ∧ gy ≠ qf ∧ qy ≠ qf) := ⟨by have := HX4.out.lt; have := HB4.out.size; omega⟩
      clear hB HB4 HX4 hf hg hq
      have hl0 := Aside0.mk (show (List.replicate (8 * a) (0 : UInt8)).length = 8 * a from List.length_replicate)
      generalize List.replicate (8 * a) (0 : UInt8) = l0 at *
      have hm0 := Aside0.mk (show (List.replicate (8 * b) (0 : UInt8)).length = 8 * b from List.length_replicate)
      generalize List.replicate (8 * b) (0 : UInt8) = m0 at *
      have Hsz : Aside0 (a ≤ 64 ∧ b ≤ 64) := ⟨ha2.out, hb2.out⟩
      go_wp2_with fail
      go_loopg [15] l.length (fun kq v wq => ∃ i : Nat, i + kq = l.length ∧ v = .int .i64 (i : Int) ∧ Aside0 (Below w.heap.size w wq) ∧ Aside0 (∃ X : List UInt8, X.length = 8 * a ∧ FilmAt wq gf qf X) ∧ Aside0 (FilmAt wq gy qy m0))
      case atStart => exact ⟨0, by omega, rfl, HB5, ⟨_, hl0.out, HX5.out⟩, HY5⟩
      case round =>
        clear HB5 HX5 HY5
        obtain ⟨i, hi, rfl, HB, HF, HG⟩ := hrel
        obtain ⟨X, hll, hf⟩ := HF.out
        have hll := Aside0.mk hll
        have HL := Aside0.mk hf
        clear hf HF
        by_cases hlt : i < l.length
        · obtain ⟨kk, rfl⟩ : ∃ z, gk = z + 1 := ⟨gk - 1, by omega⟩
          obtain ⟨ad, e1, x0, x1⟩ := at_T31 (Kd.C_below HO.out HB.out) (i : Int) (by omega) (by omega)
          subst e1
          rw [Int.toNat_natCast] at x0 x1
          have hlt' : (i : Int) < (l.length : Int) := by omega
          generalize rd_T31 l (i : Int) = X_ at *
          obtain ⟨N, S⟩ := X_
          simp only at x0 x1
          go_wp2_with fail
          refine start_ (n := 12) (S := fun w' => w'.cell? (ad.add (i * 2)) = some (.int .i64 N) ∧ w'.cell? ⟨(ad.add (i * 2)).block, (ad.add (i * 2)).off + 1, none⟩ = some (.string S) ∧ Below w.heap.size w w' ∧ FilmAt w' gf qf X ∧ FilmAt w' gy qy m0) (ds := [11]) #[false, false, false, false, false, false, false, false, false, false, false, false] (by kernel_rfl) rfl rfl ⟨x0, x1, (below_drew1 HB.out), (FilmAt.move HL.out rfl rfl), (FilmAt.move HG.out rfl rfl)⟩ (fun hHeld => ?_)
          refine pure_ (i := 0) (N := some 89) (v := ?_) (a' := ?_) #[true, false, false, false, false, false, false, false, false, false, false, false] rfl rfl (by kernel_rfl) (fun _ _ _ h => h) (Or.inl ⟨by rfl, ?_⟩) ?_ ?_
          rotate_left
          · intro w'
            go_simp
            with_reducible rfl
          rotate_left
          · simp only [Act.put, List.setIfInBounds_toArray, List.set_cons_zero, List.set_cons_succ, i64_w, i32_w]
            rfl
          refine pure_ (i := 1) (N := some 90) (v := ?_) (a' := ?_) #[true, true, false, false, false, false, false, false, false, false, false, false] rfl rfl (by kernel_rfl) (fun _ _ _ h => h) (Or.inl ⟨by rfl, ?_⟩) ?_ ?_
          rotate_left
          · intro w'
            go_simp
            with_reducible rfl
          rotate_left
          · simp only [Act.put, List.setIfInBounds_toArray, List.set_cons_zero, List.set_cons_succ, i64_w, i32_w]
            rfl
          refine pure_ (i := 2) (N := some 91) (v := ?_) (a' := ?_) #[true, true, true, false, false, false, false, false, false, false, false, false] rfl rfl (by kernel_rfl) (fun _ _ _ h => h) (Or.inl ⟨by rfl, ?_⟩) ?_ ?_
          rotate_left
          · intro w'
            go_simp
            with_reducible rfl
          rotate_left
          · simp only [Act.put, List.setIfInBounds_toArray, List.set_cons_zero, List.set_cons_succ, i64_w, i32_w]
            rfl
          refine pure_ (i := 3) (N := some 92) (v := ?_) (a' := ?_) #[true, true, true, true, false, false, false, false, false, false, false, false] rfl rfl (by kernel_rfl) (fun _ _ _ h => h) (Or.inl ⟨by rfl, ?_⟩) ?_ ?_
          rotate_left
          · intro w'
            go_simp
            with_reducible rfl
          rotate_left
          · simp only [Act.put, List.setIfInBounds_toArray, List.set_cons_zero, List.set_cons_succ, i64_w, i32_w]
            rfl
          refine pure_ (i := 4) (N := some 93) (v := ?_) (a' := ?_) #[true, true, true, true, true, false, false, false, false, false, false, false] rfl rfl (by kernel_rfl) (fun _ _ _ h => h) (Or.inl ⟨by rfl, ?_⟩) ?_ ?_
          rotate_left
          · intro w'
            go_simp
            with_reducible rfl
          rotate_left
          · simp only [Act.put, List.setIfInBounds_toArray, List.set_cons_zero, List.set_cons_succ, i64_w, i32_w]
            rfl
          refine pure_ (i := 6) (N := some 95) (v := ?_) (a' := ?_) #[true, true, true, true, true, false, true, false, false, false, false, false] rfl rfl (by kernel_rfl) (fun _ _ _ h => h) (Or.inl ⟨by rfl, ?_⟩) ?_ ?_
          rotate_left
          · intro w'
            go_simp
            with_reducible rfl
          rotate_left
          · simp only [Act.put, List.setIfInBounds_toArray, List.set_cons_zero, List.set_cons_succ, i64_w, i32_w]
            rfl
          refine pure_ (i := 7) (N := some 96) (v := ?_) (a' := ?_) #[true, true, true, true, true, false, true, true, false, false, false, false] rfl rfl (by kernel_rfl) (fun _ _ _ h => h) (Or.inl ⟨by rfl, ?_⟩) ?_ ?_
          rotate_left
          · intro w'
            go_simp
            with_reducible rfl
          rotate_left
          · simp only [Act.put, List.setIfInBounds_toArray, List.set_cons_zero, List.set_cons_succ, i64_w, i32_w]
            rfl
          refine pure_ (i := 8) (N := some 97) (v := ?_) (a' := ?_) #[true, true, true, true, true, false, true, true, true, false, false, false] rfl rfl (by kernel_rfl) (fun _ _ _ h => h) (Or.inl ⟨by rfl, ?_⟩) ?_ ?_
          rotate_left
          · intro w'
            go_simp
            with_reducible rfl
          rotate_left
          · simp only [Act.put, List.setIfInBounds_toArray, List.set_cons_zero, List.set_cons_succ, i64_w, i32_w]
            rfl
          refine pure_ (i := 9) (N := some 98) (v := ?_) (a' := ?_) #[true, true, true, true, true, false, true, true, true, true, false, false] rfl rfl (by kernel_rfl) (fun _ _ _ h => h) (Or.inl ⟨by rfl, ?_⟩) ?_ ?_
          rotate_left
          · intro w'
            go_simp
            with_reducible rfl
          rotate_left
          · simp only [Act.put, List.setIfInBounds_toArray, List.set_cons_zero, List.set_cons_succ, i64_w, i32_w]
            rfl
          refine take_ (i := 5) (N := some 94) (v := ?_) (a' := ?_) #[true, true, true, true, true, true, true, true, true, true, false, false] rfl rfl (by kernel_rfl) (fun _ _ _ h => h) (Or.inl ⟨by rfl, ?_⟩) hHeld ?_ ?_
          rotate_left
          · rintro w' ⟨s0, s1, s2, s3, s4⟩
            go_simp
            with_reducible rfl
          rotate_left
          · simp only [Act.put, List.setIfInBounds_toArray, List.set_cons_zero, List.set_cons_succ, i64_w, i32_w]
            rfl
          refine take_ (i := 10) (N := some 99) (v := ?_) (a' := ?_) #[true, true, true, true, true, true, true, true, true, true, true, false] rfl rfl (by kernel_rfl) (fun _ _ _ h => h) (Or.inl ⟨by rfl, ?_⟩) hHeld ?_ ?_
          rotate_left
          · rintro w' ⟨s0, s1, s2, s3, s4⟩
            go_simp
            with_reducible rfl
          rotate_left
          · simp only [Act.put, List.setIfInBounds_toArray, List.set_cons_zero, List.set_cons_succ, i64_w, i32_w]
            rfl
          refine last_ (i := 11) (N := some 100) #[true, true, true, true, true, true, true, true, true, true, true, true] rfl rfl (by kernel_rfl) (by decide) (fun K hK => ?_)
          refine goes_ Tryd.func10 (by kernel_rfl) rfl #[.pointer (some ⟨gf, 0, none⟩), .int .i64 N, .string S] (by rfl) rfl rfl (by simp only [List.map_toArray, List.map_cons, List.map_nil]; rfl) ?_
          with_reducible refine (film_write_any gf qf X N S _ hHeld.2.2.2.1 (by have := hll.out; have := Hsz.out; omega)).mono ?_
          rintro e w6 ⟨ce, rfl, hf, ho⟩
          refine ⟨_, rfl, ?_⟩
          refine hK.out _ _ ?_
          clear hK K
          refine norm_ (a' := ?_) ?_ ?_
          rotate_left
          · show Act.put _ (some 100) _ = _
            simp only [Act.put, List.setIfInBounds_toArray, List.set_cons_zero, List.set_cons_succ, i64_w, i32_w]
            rfl
          refine done_ (by kernel_rfl) ?_
          have HB6 := Aside0.mk (below_only hHeld.2.2.1 ho Hg.out.2)
          have HX6 := Aside0.mk hf
          have HY6 := Aside0.mk (hHeld.2.2.2.2.only ho Hy.out.2.2.2.2.1 Hy.out.2.2.2.2.2)
          clear hHeld hf ho HB HL HG x0 x1
          go_wp2_with fail
          go_roundg kk
          case measure => omega
          case rel => exact ⟨i + 1, by omega, by go_num, HB6, ⟨_, (wrV_length _ _ _).trans hll.out, HX6.out⟩, HY6⟩
        · obtain rfl : i = l.length := by omega
          have hlt' : ¬ (l.length : Int) < (l.length : Int) := by omega
          go_wp2_with fail
          obtain ⟨X0, hX0⟩ : ∃ q, q = X := ⟨_, rfl⟩
          rw [← hX0] at hll HL
          clear hX0
          have hx0 := hll
          clear hll
          go_loopg [16] m.length (fun kq v wq => ∃ i : Nat, i + kq = m.length ∧ v = .int .i64 (i : Int) ∧ Aside0 (Below w.heap.size w wq) ∧ Aside0 (∃ X : List UInt8, X.length = 8 * b ∧ FilmAt wq gy qy X) ∧ Aside0 (FilmAt wq gf qf X0))
          case atStart => exact ⟨0, by omega, rfl, HB, ⟨_, hm0.out, HG.out⟩, HL⟩
          case round =>
            clear HB HG HL
            obtain ⟨i, hi, rfl, HB, HF, HG⟩ := hrel
            obtain ⟨X, hll, hf⟩ := HF.out
            have hll := Aside0.mk hll
            have HL := Aside0.mk hf
            clear hf HF
            by_cases hlt : i < m.length
            · obtain ⟨kk, rfl⟩ : ∃ z, gk = z + 1 := ⟨gk - 1, by omega⟩
              obtain ⟨ad, e1, x0, x1⟩ := at_T31 (Kd.C_below HQ.out HB.out) (i : Int) (by omega) (by omega)
              subst e1
              rw [Int.toNat_natCast] at x0 x1
              have hlt' : (i : Int) < (m.length : Int) := by omega
              generalize rd_T31 m (i : Int) = X_ at *
              obtain ⟨N, S⟩ := X_
              simp only at x0 x1
              go_wp2_with fail
              refine start_ (n := 12) (S := fun w' => w'.cell? (ad.add (i * 2)) = some (.int .i64 N) ∧ w'.cell? ⟨(ad.add (i * 2)).block, (ad.add (i * 2)).off + 1, none⟩ = some (.string S) ∧ Below w.heap.size w w' ∧ FilmAt w' gy qy X ∧ FilmAt w' gf qf X0) (ds := [11]) #[false, false, false, false, false, false, false, false, false, false, false, false] (by kernel_rfl) rfl rfl ⟨x0, x1, (below_drew1 HB.out), (FilmAt.move HL.out rfl rfl), (FilmAt.move HG.out rfl rfl)⟩ (fun hHeld => ?_)
              refine pure_ (i := 0) (N := some 107) (v := ?_) (a' := ?_) #[true, false, false, false, false, false, false, false, false, false, false, false] rfl rfl (by kernel_rfl) (fun _ _ _ h => h) (Or.inl ⟨by rfl, ?_⟩) ?_ ?_
              rotate_left
              · intro w'
                go_simp
                with_reducible rfl
              rotate_left
              · simp only [Act.put, List.setIfInBounds_toArray, List.set_cons_zero, List.set_cons_succ, i64_w, i32_w]
                rfl
              refine pure_ (i := 1) (N := some 108) (v := ?_) (a' := ?_) #[true, true, false, false, false, false, false, false, false, false, false, false] rfl rfl (by kernel_rfl) (fun _ _ _ h => h) (Or.inl ⟨by rfl, ?_⟩) ?_ ?_
              rotate_left
              · intro w'
                go_simp
                with_reducible rfl
              rotate_left
              · simp only [Act.put, List.setIfInBounds_toArray, List.set_cons_zero, List.set_cons_succ, i64_w, i32_w]
                rfl
              refine pure_ (i := 2) (N := some 109) (v := ?_) (a' := ?_) #[true, true, true, false, false, false, false, false, false, false, false, false] rfl rfl (by kernel_rfl) (fun _ _ _ h => h) (Or.inl ⟨by rfl, ?_⟩) ?_ ?_
              rotate_left
              · intro w'
                go_simp
                with_reducible rfl
              rotate_left
              · simp only [Act.put, List.setIfInBounds_toArray, List.set_cons_zero, List.set_cons_succ, i64_w, i32_w]
                rfl
              refine pure_ (i := 3) (N := some 110) (v := ?_) (a' := ?_) #[true, true, true, true, false, false, false, false, false, false, false, false] rfl rfl (by kernel_rfl) (fun _ _ _ h => h) (Or.inl ⟨by rfl, ?_⟩) ?_ ?_
              rotate_left
              · intro w'
                go_simp
                with_reducible rfl
              rotate_left
              · simp only [Act.put, List.setIfInBounds_toArray, List.set_cons_zero, List.set_cons_succ, i64_w, i32_w]
                rfl
              refine pure_ (i := 4) (N := some 111) (v := ?_) (a' := ?_) #[true, true, true, true, true, false, false, false, false, false, false, false] rfl rfl (by kernel_rfl) (fun _ _ _ h => h) (Or.inl ⟨by rfl, ?_⟩) ?_ ?_
              rotate_left
              · intro w'
                go_simp
                with_reducible rfl
              rotate_left
              · simp only [Act.put, List.setIfInBounds_toArray, List.set_cons_zero, List.set_cons_succ, i64_w, i32_w]
                rfl
              refine pure_ (i := 6) (N := some 113) (v := ?_) (a' := ?_) #[true, true, true, true, true, false, true, false, false, false, false, false] rfl rfl (by kernel_rfl) (fun _ _ _ h => h) (Or.inl ⟨by rfl, ?_⟩) ?_ ?_
              rotate_left
              · intro w'
                go_simp
                with_reducible rfl
              rotate_left
              · simp only [Act.put, List.setIfInBounds_toArray, List.set_cons_zero, List.set_cons_succ, i64_w, i32_w]
                rfl
              refine pure_ (i := 7) (N := some 114) (v := ?_) (a' := ?_) #[true, true, true, true, true, false, true, true, false, false, false, false] rfl rfl (by kernel_rfl) (fun _ _ _ h => h) (Or.inl ⟨by rfl, ?_⟩) ?_ ?_
              rotate_left
              · intro w'
                go_simp
                with_reducible rfl
              rotate_left
              · simp only [Act.put, List.setIfInBounds_toArray, List.set_cons_zero, List.set_cons_succ, i64_w, i32_w]
                rfl
              refine pure_ (i := 8) (N := some 115) (v := ?_) (a' := ?_) #[true, true, true, true, true, false, true, true, true, false, false, false] rfl rfl (by kernel_rfl) (fun _ _ _ h => h) (Or.inl ⟨by rfl, ?_⟩) ?_ ?_
              rotate_left
              · intro w'
                go_simp
                with_reducible rfl
              rotate_left
              · simp only [Act.put, List.setIfInBounds_toArray, List.set_cons_zero, List.set_cons_succ, i64_w, i32_w]
                rfl
              refine pure_ (i := 9) (N := some 116) (v := ?_) (a' := ?_) #[true, true, true, true, true, false, true, true, true, true, false, false] rfl rfl (by kernel_rfl) (fun _ _ _ h => h) (Or.inl ⟨by rfl, ?_⟩) ?_ ?_
              rotate_left
              · intro w'
                go_simp
                with_reducible rfl
              rotate_left
              · simp only [Act.put, List.setIfInBounds_toArray, List.set_cons_zero, List.set_cons_succ, i64_w, i32_w]
                rfl
              refine take_ (i := 5) (N := some 112) (v := ?_) (a' := ?_) #[true, true, true, true, true, true, true, true, true, true, false, false] rfl rfl (by kernel_rfl) (fun _ _ _ h => h) (Or.inl ⟨by rfl, ?_⟩) hHeld ?_ ?_
              rotate_left
              · rintro w' ⟨s0, s1, s2, s3, s4⟩
                go_simp
                with_reducible rfl
              rotate_left
              · simp only [Act.put, List.setIfInBounds_toArray, List.set_cons_zero, List.set_cons_succ, i64_w, i32_w]
                rfl
              refine take_ (i := 10) (N := some 117) (v := ?_) (a' := ?_) #[true, true, true, true, true, true, true, true, true, true, true, false] rfl rfl (by kernel_rfl) (fun _ _ _ h => h) (Or.inl ⟨by rfl, ?_⟩) hHeld ?_ ?_
              rotate_left
              · rintro w' ⟨s0, s1, s2, s3, s4⟩
                go_simp
                with_reducible rfl
              rotate_left
              · simp only [Act.put, List.setIfInBounds_toArray, List.set_cons_zero, List.set_cons_succ, i64_w, i32_w]
                rfl
              refine last_ (i := 11) (N := some 118) #[true, true, true, true, true, true, true, true, true, true, true, true] rfl rfl (by kernel_rfl) (by decide) (fun K hK => ?_)
              refine goes_ Tryd.func10 (by kernel_rfl) rfl #[.pointer (some ⟨gy, 0, none⟩), .int .i64 N, .string S] (by rfl) rfl rfl (by simp only [List.map_toArray, List.map_cons, List.map_nil]; rfl) ?_
              with_reducible refine (film_write_any gy qy X N S _ hHeld.2.2.2.1 (by have := hll.out; have := Hsz.out; omega)).mono ?_
              rintro e w6 ⟨ce, rfl, hf, ho⟩
              refine ⟨_, rfl, ?_⟩
              refine hK.out _ _ ?_
              clear hK K
              refine norm_ (a' := ?_) ?_ ?_
              rotate_left
              · show Act.put _ (some 118) _ = _
                simp only [Act.put, List.setIfInBounds_toArray, List.set_cons_zero, List.set_cons_succ, i64_w, i32_w]
                rfl
              refine done_ (by kernel_rfl) ?_
              have HB6 := Aside0.mk (below_only hHeld.2.2.1 ho Hy.out.2.1)
              have HY6 := Aside0.mk hf
              have HX6 := Aside0.mk (hHeld.2.2.2.2.only ho Hy.out.2.2.1 Hy.out.2.2.2.1)
              clear hHeld hf ho HB HL HG x0 x1
              go_wp2_with fail
              go_roundg kk
              case measure => omega
              case rel => exact ⟨i + 1, by omega, by go_num, HB6, ⟨_, (wrV_length _ _ _).trans hll.out, HY6.out⟩, HX6⟩
            · obtain rfl : i = m.length := by omega
              have hlt' : ¬ (m.length : Int) < (m.length : Int) := by omega
              have hcx := Aside0.mk (fun (k : Nat) (h : k < a) => blk_ex X0 k (by have := hx0.out; omega))
              have hcy := Aside0.mk (fun (k : Nat) (h : k < b) => blk_ex X k (by have := hll.out; omega))
              have hsx : ((⟨X0.toArray⟩ : ByteArray).size : Int) = (a : Int) * 8 := by
                show ((X0.toArray.size : Nat) : Int) = _
                rw [List.size_toArray, hx0.out]; omega
              have hsy : ((⟨X.toArray⟩ : ByteArray).size : Int) = (b : Int) * 8 := by
                show ((X.toArray.size : Nat) : Int) = _
                rw [List.size_toArray, hll.out]; omega
              have hbx := Aside0.mk (fun (W : World) (h : FilmAt W gf qf X0) => film_bytes gf qf X0 W h)
              have hby := Aside0.mk (fun (W : World) (h : FilmAt W gy qy X) => film_bytes gy qy X W h)
              generalize (⟨X0.toArray⟩ : ByteArray) = CX at hcx hbx hsx
              generalize (⟨X.toArray⟩ : ByteArray) = CY at hcy hby hsy
              go_wp2_with fail
              refine (hbx.out _ HG.out).mono ?_
              rintro e w7 ⟨rfl, rfl⟩
              go_wp2_with fail
              refine (hby.out _ HL.out).mono ?_
              rintro e w8 ⟨rfl, rfl⟩
              go_wp2_with (with_reducible refine wpList_store_row rfl 38 (.tmp 19) (.tmp 135) rfl (w8.heap.size) (setArr (List.replicate 64 false)) rfl rfl 38 _ (heap_alloc_new _ _) (by with_unfolding_all rfl) (by with_unfolding_all rfl) (setArr_one _) ?_)
              rw [World.setRow_alloc_new]
              have HB9 := Aside0.mk (below_alloc HB.out (.cells (setArr (List.replicate 64 false)) 38))
              have HX9 := Aside0.mk (HG.out.keep (below_alloc (Below.refl _ _) (.cells (setArr (List.replicate 64 false)) 38)))
              have HY9 := Aside0.mk (HL.out.keep (below_alloc (Below.refl _ _) (.cells (setArr (List.replicate 64 false)) 38)))
              have HS9 := Aside0.mk (Blk.new w8 38 (setArr (List.replicate 64 false)))
              obtain ⟨gS, hgS⟩ : ∃ g, g = w8.heap.size := ⟨_, rfl⟩
              rw [← hgS] at HS9 ⊢
              have HgS : Aside0 (w.heap.size ≤ gS) := ⟨by rw [hgS]; exact HB.out.size⟩
              clear hgS HB HG HL
              have hcase : ((a : Int) < (b : Int) ∧ max a b = b) ∨ (¬ (a : Int) < (b : Int) ∧ max a b = a) := by omega
              rcases hcase with ⟨hab, hmx⟩ | ⟨hab, hmx⟩
              · have Hmx := Aside0.mk hmx
                clear hmx
                go_wp2_with fail
                go_loopg [20] b (fun kq v wq => ∃ (k : Nat) (s : List Bool), k + kq = b ∧ v = .int .i64 (k : Int) ∧ Aside0 (Below w.heap.size w wq) ∧ Aside0 (FilmAt wq gf qf X0) ∧ Aside0 (FilmAt wq gy qy X) ∧ Aside0 (Blk wq gS 38 (setArr s)) ∧ Aside0 (SetU (blkV X0 a) (blkV X b) s k))
                case atStart => exact ⟨0, _, by omega, rfl, HB9, HX9, HY9, HS9, ⟨SetU.zero _ _⟩⟩
                case round =>
                  clear HB9 HX9 HY9 HS9
                  obtain ⟨k, s, hk, rfl, HB, HX, HY, HS, HU⟩ := hrel
                  by_cases hlt : k < b
                  · have hlt' : (k : Int) < (b : Int) := by omega
                    have hk64 : (k : Int) < 64 := by omega
                    obtain ⟨kk, rfl⟩ : ∃ z, gk = z + 1 := ⟨gk - 1, by omega⟩
                    have Hset := Aside0.mk (fun (h : blkV X0 a k ≠ blkV X b k) => HU.out.yes (by omega) h)
                    have hsl := Aside0.mk HU.out.1
                    have s0 := HS.out.cell (setArr_get s k (by rw [hsl.out]; omega))
                    have sf := HS.out.frozen k
                    rcases Nat.lt_or_ge k a with hka | hka
                    · rcases Nat.lt_or_ge k b with hkb | hkb
                      · have t1 : decide (a ≤ k) = false := decide_eq_false (by omega)
                        have t2 : decide (b ≤ k) = false := decide_eq_false (by omega)
                        obtain ⟨SX, hSX⟩ : ∃ q, q = blkS X0 k := ⟨_, rfl⟩
                        obtain ⟨SY, hSY⟩ : ∃ q, q = blkS X k := ⟨_, rfl⟩
                        have hs1 : ∀ W : World, (Instr.slice 9 (.string CX) (some (.int .i64 (wrap64 ((k : Int) * 8)))) (some (.int .i64 (wrap64 (wrap64 ((k : Int) + 1) * 8)))) none).run Tryd.prog W = .ok (.string SX) W := fun W => by
                          rw [hSX, ← hcx.out k hka, w_id (x := (k : Int) + 1) (by omega) (by omega), w_id (x := (k : Int) * 8) (by omega) (by omega), w_id (by omega) (by omega), show (k : Int) * 8 = ((k * 8 : Nat) : Int) by omega, show ((k : Int) + 1) * 8 = (((k + 1) * 8 : Nat) : Int) by omega]
                          exact run_slice_string W 9 CX .i64 .i64 ((k * 8 : Nat) : Int) (((k + 1) * 8 : Nat) : Int) Tryd.underlying9 (by omega) (by omega) (by omega)
                        have hs2 : ∀ W : World, (Instr.slice 9 (.string CY) (some (.int .i64 (wrap64 ((k : Int) * 8)))) (some (.int .i64 (wrap64 (wrap64 ((k : Int) + 1) * 8)))) none).run Tryd.prog W = .ok (.string SY) W := fun W => by
                          rw [hSY, ← hcy.out k hkb, w_id (x := (k : Int) + 1) (by omega) (by omega), w_id (x := (k : Int) * 8) (by omega) (by omega), w_id (by omega) (by omega), show (k : Int) * 8 = ((k * 8 : Nat) : Int) by omega, show ((k : Int) + 1) * 8 = (((k + 1) * 8 : Nat) : Int) by omega]
                          exact run_slice_string W 9 CY .i64 .i64 ((k * 8 : Nat) : Int) (((k + 1) * 8 : Nat) : Int) Tryd.underlying9 (by omega) (by omega) (by omega)
                        have heq : SX = SY ↔ blkV X0 a k = blkV X b k := by rw [hSX, hSY]; exact (blkV_both hka hkb).symm
                        clear hSX hSY
                        by_cases hss : SX = SY
                        · have HU1 := Aside0.mk (HU.out.no (heq.1 hss))
                          subst hss
                          clear heq
                          go_wp2_with fail
                          refine start_ (n := 25) (S := fun w' => Below w.heap.size w w' ∧ FilmAt w' gf qf X0 ∧ FilmAt w' gy qy X ∧ Blk w' gS 38 (setArr s)) (ds := []) #[false, false, false, false, false, false, false, false, false, false, false, false, false, false, false, false, false, false, false, false, false, false, false, false, false] (by kernel_rfl) rfl rfl ⟨(below_drew1 HB.out), (FilmAt.move HX.out rfl rfl), (FilmAt.move HY.out rfl rfl), HS.out.drew⟩ (fun hHeld => ?_)
                          refine pure_ (i := 0) (N := some 143) (v := ?_) (a' := ?_) #[true, false, false, false, false, false, false, false, false, false, false, false, false, false, false, false, false, false, false, false, false, false, false, false, false] rfl rfl (by kernel_rfl) (fun _ _ _ h => h) (Or.inl ⟨by rfl, ?_⟩) ?_ ?_
                          rotate_left
                          · intro w'
                            go_simp
                            with_reducible rfl
                          rotate_left
                          · simp only [Act.put, List.setIfInBounds_toArray, List.set_cons_zero, List.set_cons_succ, i64_w, i32_w]
                            rfl
                          refine pure_ (i := 1) (N := some 144) (v := ?_) (a' := ?_) #[true, true, false, false, false, false, false, false, false, false, false, false, false, false, false, false, false, false, false, false, false, false, false, false, false] rfl rfl (by kernel_rfl) (fun _ _ _ h => h) (Or.inl ⟨by rfl, ?_⟩) ?_ ?_
                          rotate_left
                          · intro w'
                            go_simp
                            with_reducible rfl
                          rotate_left
                          · simp only [Act.put, List.setIfInBounds_toArray, List.set_cons_zero, List.set_cons_succ, i64_w, i32_w]
                            rfl
                          refine pure_ (i := 2) (N := some 145) (v := ?_) (a' := ?_) #[true, true, true, false, false, false, false, false, false, false, false, false, false, false, false, false, false, false, false, false, false, false, false, false, false] rfl rfl (by kernel_rfl) (fun _ _ _ h => h) (Or.inl ⟨by rfl, ?_⟩) ?_ ?_
                          rotate_left
                          · intro w'
                            go_simp
                            with_reducible rfl
                          rotate_left
                          · simp only [Act.put, List.setIfInBounds_toArray, List.set_cons_zero, List.set_cons_succ, i64_w, i32_w]
                            rfl
                          refine pure_ (i := 3) (N := some 146) (v := ?_) (a' := ?_) #[true, true, true, true, false, false, false, false, false, false, false, false, false, false, false, false, false, false, false, false, false, false, false, false, false] rfl rfl (by kernel_rfl) (fun _ _ _ h => h) (Or.inl ⟨by rfl, ?_⟩) ?_ ?_
                          rotate_left
                          · intro w'
                            go_simp
                            with_reducible rfl
                          rotate_left
                          · simp only [Act.put, List.setIfInBounds_toArray, List.set_cons_zero, List.set_cons_succ, i64_w, i32_w]
                            rfl
                          refine pure_ (i := 4) (N := some 147) (v := ?_) (a' := ?_) #[true, true, true, true, true, false, false, false, false, false, false, false, false, false, false, false, false, false, false, false, false, false, false, false, false] rfl rfl (by kernel_rfl) (fun _ _ _ h => h) (Or.inl ⟨by rfl, ?_⟩) ?_ ?_
                          rotate_left
                          · intro w'
                            go_simp
                            with_reducible rfl
                          rotate_left
                          · simp only [Act.put, List.setIfInBounds_toArray, List.set_cons_zero, List.set_cons_succ, i64_w, i32_w]
                            rfl
                          refine pure_ (i := 5) (N := some 148) (v := ?_) (a' := ?_) #[true, true, true, true, true, true, false, false, false, false, false, false, false, false, false, false, false, false, false, false, false, false, false, false, false] rfl rfl (by kernel_rfl) (fun _ _ _ h => h) (Or.inl ⟨by rfl, ?_⟩) ?_ ?_
                          rotate_left
                          · intro w'
                            go_simp
                            with_reducible rfl
                          rotate_left
                          · simp only [Act.put, List.setIfInBounds_toArray, List.set_cons_zero, List.set_cons_succ, i64_w, i32_w]
                            rfl
                          refine pure_ (i := 6) (N := some 149) (v := ?_) (a' := ?_) #[true, true, true, true, true, true, true, false, false, false, false, false, false, false, false, false, false, false, false, false, false, false, false, false, false] rfl rfl (by kernel_rfl) (fun _ _ _ h => h) (Or.inl ⟨by rfl, ?_⟩) ?_ ?_
                          rotate_left
                          · intro w'
                            go_simp
                            with_reducible rfl
                          rotate_left
                          · simp only [Act.put, List.setIfInBounds_toArray, List.set_cons_zero, List.set_cons_succ, i64_w, i32_w]
                            rfl
                          refine pure_ (i := 7) (N := some 150) (v := ?_) (a' := ?_) #[true, true, true, true, true, true, true, true, false, false, false, false, false, false, false, false, false, false, false, false, false, false, false, false, false] rfl rfl (by kernel_rfl) (fun _ _ _ h => h) (Or.inl ⟨by rfl, ?_⟩) ?_ ?_
                          rotate_left
                          · intro w'
                            go_simp
                            with_reducible rfl
                          rotate_left
                          · simp only [Act.put, List.setIfInBounds_toArray, List.set_cons_zero, List.set_cons_succ, i64_w, i32_w]
                            rfl
                          refine pure_ (i := 8) (N := some 151) (v := ?_) (a' := ?_) #[true, true, true, true, true, true, true, true, true, false, false, false, false, false, false, false, false, false, false, false, false, false, false, false, false] rfl rfl (by kernel_rfl) (fun _ _ _ h => h) (Or.inl ⟨by rfl, ?_⟩) ?_ ?_
                          rotate_left
                          · intro w'
                            go_simp
                            with_reducible rfl
                          rotate_left
                          · simp only [Act.put, List.setIfInBounds_toArray, List.set_cons_zero, List.set_cons_succ, i64_w, i32_w]
                            rfl
                          refine pure_ (i := 9) (N := some 152) (v := ?_) (a' := ?_) #[true, true, true, true, true, true, true, true, true, true, false, false, false, false, false, false, false, false, false, false, false, false, false, false, false] rfl rfl (by kernel_rfl) (fun _ _ _ h => h) (Or.inl ⟨by rfl, ?_⟩) ?_ ?_
                          rotate_left
                          · intro w'
                            go_simp
                            with_reducible rfl
                          rotate_left
                          · simp only [Act.put, List.setIfInBounds_toArray, List.set_cons_zero, List.set_cons_succ, i64_w, i32_w]
                            rfl
                          refine pure_ (i := 10) (N := some 153) (v := ?_) (a' := ?_) #[true, true, true, true, true, true, true, true, true, true, true, false, false, false, false, false, false, false, false, false, false, false, false, false, false] rfl rfl (by kernel_rfl) (fun _ _ _ h => h) (Or.inl ⟨by rfl, ?_⟩) ?_ ?_
                          rotate_left
                          · intro w'
                            go_simp
                            with_reducible rfl
                          rotate_left
                          · simp only [Act.put, List.setIfInBounds_toArray, List.set_cons_zero, List.set_cons_succ, i64_w, i32_w]
                            rfl
                          refine pure_ (i := 11) (N := some 154) (v := ?_) (a' := ?_) #[true, true, true, true, true, true, true, true, true, true, true, true, false, false, false, false, false, false, false, false, false, false, false, false, false] rfl rfl (by kernel_rfl) (fun _ _ _ h => h) (Or.inl ⟨by rfl, ?_⟩) ?_ ?_
                          rotate_left
                          · intro w'
                            go_simp
                            with_reducible rfl
                          rotate_left
                          · simp only [Act.put, List.setIfInBounds_toArray, List.set_cons_zero, List.set_cons_succ, i64_w, i32_w]
                            rfl
                          refine pure_ (i := 12) (N := some 155) (v := ?_) (a' := ?_) #[true, true, true, true, true, true, true, true, true, true, true, true, true, false, false, false, false, false, false, false, false, false, false, false, false] rfl rfl (by kernel_rfl) (fun _ _ _ h => h) (Or.inl ⟨by rfl, ?_⟩) ?_ ?_
                          rotate_left
                          · intro w'
                            go_simp
                            with_reducible rfl
                          rotate_left
                          · simp only [Act.put, List.setIfInBounds_toArray, List.set_cons_zero, List.set_cons_succ, i64_w, i32_w]
                            rfl
                          refine pure_ (i := 13) (N := some 156) (v := ?_) (a' := ?_) #[true, true, true, true, true, true, true, true, true, true, true, true, true, true, false, false, false, false, false, false, false, false, false, false, false] rfl rfl (by kernel_rfl) (fun _ _ _ h => h) (Or.inl ⟨by rfl, ?_⟩) ?_ ?_
                          rotate_left
                          · intro w'
                            go_simp
                            with_reducible rfl
                          rotate_left
                          · simp only [Act.put, List.setIfInBounds_toArray, List.set_cons_zero, List.set_cons_succ, i64_w, i32_w]
                            rfl
                          refine pure_ (i := 14) (N := some 157) (v := ?_) (a' := ?_) #[true, true, true, true, true, true, true, true, true, true, true, true, true, true, true, false, false, false, false, false, false, false, false, false, false] rfl rfl (by kernel_rfl) (fun _ _ _ h => h) (Or.inl ⟨by rfl, ?_⟩) ?_ ?_
                          rotate_left
                          · intro w'
                            go_simp
                            with_reducible rfl
                          rotate_left
                          · simp only [Act.put, List.setIfInBounds_toArray, List.set_cons_zero, List.set_cons_succ, i64_w, i32_w]
                            rfl
                          refine pure_ (i := 15) (N := some 158) (v := ?_) (a' := ?_) #[true, true, true, true, true, true, true, true, true, true, true, true, true, true, true, true, false, false, false, false, false, false, false, false, false] rfl rfl (by kernel_rfl) (fun _ _ _ h => h) (Or.inl ⟨by rfl, ?_⟩) ?_ ?_
                          rotate_left
                          · intro w'
                            go_simp
                            with_reducible rfl
                          rotate_left
                          · simp only [Act.put, List.setIfInBounds_toArray, List.set_cons_zero, List.set_cons_succ, i64_w, i32_w]
                            rfl
                          refine pure_ (i := 16) (N := some 159) (v := ?_) (a' := ?_) #[true, true, true, true, true, true, true, true, true, true, true, true, true, true, true, true, true, false, false, false, false, false, false, false, false] rfl rfl (by kernel_rfl) (fun _ _ _ h => h) (Or.inl ⟨by rfl, ?_⟩) ?_ ?_
                          rotate_left
                          · intro w'
                            go_simp
                            with_reducible rfl
                          rotate_left
                          · simp only [Act.put, List.setIfInBounds_toArray, List.set_cons_zero, List.set_cons_succ, i64_w, i32_w]
                            rfl
                          refine pure_ (i := 17) (N := some 160) (v := ?_) (a' := ?_) #[true, true, true, true, true, true, true, true, true, true, true, true, true, true, true, true, true, true, false, false, false, false, false, false, false] rfl rfl (by kernel_rfl) (fun _ _ _ h => h) (Or.inl ⟨by rfl, ?_⟩) ?_ ?_
                          rotate_left
                          · intro w'
                            go_simp
                            with_reducible rfl
                          rotate_left
                          · simp only [Act.put, List.setIfInBounds_toArray, List.set_cons_zero, List.set_cons_succ, i64_w, i32_w]
                            rfl
                          refine pure_ (i := 18) (N := some 161) (v := ?_) (a' := ?_) #[true, true, true, true, true, true, true, true, true, true, true, true, true, true, true, true, true, true, true, false, false, false, false, false, false] rfl rfl (by kernel_rfl) (fun _ _ _ h => h) (Or.inl ⟨by rfl, ?_⟩) ?_ ?_
                          rotate_left
                          · intro w'
                            go_simp
                            with_reducible rfl
                          rotate_left
                          · simp only [Act.put, List.setIfInBounds_toArray, List.set_cons_zero, List.set_cons_succ, i64_w, i32_w]
                            rfl
                          refine pure_ (i := 19) (N := some 162) (v := ?_) (a' := ?_) #[true, true, true, true, true, true, true, true, true, true, true, true, true, true, true, true, true, true, true, true, false, false, false, false, false] rfl rfl (by kernel_rfl) (fun _ _ _ h => h) (Or.inl ⟨by rfl, ?_⟩) ?_ ?_
                          rotate_left
                          · intro w'
                            go_simp
                            with_reducible rfl
                          rotate_left
                          · simp only [Act.put, List.setIfInBounds_toArray, List.set_cons_zero, List.set_cons_succ, i64_w, i32_w]
                            rfl
                          refine pure_ (i := 20) (N := some 163) (v := ?_) (a' := ?_) #[true, true, true, true, true, true, true, true, true, true, true, true, true, true, true, true, true, true, true, true, true, false, false, false, false] rfl rfl (by kernel_rfl) (fun _ _ _ h => h) (Or.inl ⟨by rfl, ?_⟩) ?_ ?_
                          rotate_left
                          · intro w'
                            go_simp
                            with_reducible rfl
                          rotate_left
                          · simp only [Act.put, List.setIfInBounds_toArray, List.set_cons_zero, List.set_cons_succ, i64_w, i32_w]
                            rfl
                          refine pure_ (i := 21) (N := some 164) (v := ?_) (a' := ?_) #[true, true, true, true, true, true, true, true, true, true, true, true, true, true, true, true, true, true, true, true, true, true, false, false, false] rfl rfl (by kernel_rfl) (fun _ _ _ h => h) (Or.inl ⟨by rfl, ?_⟩) ?_ ?_
                          rotate_left
                          · intro w'
                            go_simp
                            with_reducible rfl
                          rotate_left
                          · simp only [Act.put, List.setIfInBounds_toArray, List.set_cons_zero, List.set_cons_succ, i64_w, i32_w]
                            rfl
                          refine pure_ (i := 22) (N := some 165) (v := ?_) (a' := ?_) #[true, true, true, true, true, true, true, true, true, true, true, true, true, true, true, true, true, true, true, true, true, true, true, false, false] rfl rfl (by kernel_rfl) (fun _ _ _ h => h) (Or.inl ⟨by rfl, ?_⟩) ?_ ?_
                          rotate_left
                          · intro w'
                            go_simp
                            with_reducible rfl
                          rotate_left
                          · simp only [Act.put, List.setIfInBounds_toArray, List.set_cons_zero, List.set_cons_succ, i64_w, i32_w]
                            rfl
                          refine pure_ (i := 23) (N := some 166) (v := ?_) (a' := ?_) #[true, true, true, true, true, true, true, true, true, true, true, true, true, true, true, true, true, true, true, true, true, true, true, true, false] rfl rfl (by kernel_rfl) (fun _ _ _ h => h) (Or.inl ⟨by rfl, ?_⟩) ?_ ?_
                          rotate_left
                          · intro w'
                            go_simp
                            with_reducible rfl
                          rotate_left
                          · simp only [Act.put, List.setIfInBounds_toArray, List.set_cons_zero, List.set_cons_succ, i64_w, i32_w]
                            rfl
                          refine pure_ (i := 24) (N := some 167) (v := ?_) (a' := ?_) #[true, true, true, true, true, true, true, true, true, true, true, true, true, true, true, true, true, true, true, true, true, true, true, true, true] rfl rfl (by kernel_rfl) (fun _ _ _ h => h) (Or.inl ⟨by rfl, ?_⟩) ?_ ?_
                          rotate_left
                          · intro w'
                            go_simp
                            with_reducible rfl
                          rotate_left
                          · simp only [Act.put, List.setIfInBounds_toArray, List.set_cons_zero, List.set_cons_succ, i64_w, i32_w]
                            rfl
                          refine done_ (by kernel_rfl) ?_
                          have HB1 := Aside0.mk hHeld.1
                          have HX1 := Aside0.mk hHeld.2.1
                          have HY1 := Aside0.mk hHeld.2.2.1
                          have HS1 := Aside0.mk hHeld.2.2.2
                          clear hHeld HB HX HY HS s0 sf
                          go_wp2_with fail
                          go_roundg kk
                          case measure => omega
                          case rel => exact ⟨k + 1, _, by omega, by go_num, HB1, HX1, HY1, HS1, HU1⟩
                        · have hne : (SX.toList == SY.toList) = false := beq_eq_false_iff_ne.2 (fun q => hss (by apply ba_ext'; simpa [ByteArray.toList_eq] using q))
                          have HU1 := Hset.out (fun q => hss (heq.2 q))
                          clear heq hss
                          go_wp2_with fail
                          refine start_ (n := 25) (S := fun w' => Below w.heap.size w w' ∧ FilmAt w' gf qf X0 ∧ FilmAt w' gy qy X ∧ Blk w' gS 38 (setArr s)) (ds := []) #[false, false, false, false, false, false, false, false, false, false, false, false, false, false, false, false, false, false, false, false, false, false, false, false, false] (by kernel_rfl) rfl rfl ⟨(below_drew1 HB.out), (FilmAt.move HX.out rfl rfl), (FilmAt.move HY.out rfl rfl), HS.out.drew⟩ (fun hHeld => ?_)
                          refine pure_ (i := 0) (N := some 143) (v := ?_) (a' := ?_) #[true, false, false, false, false, false, false, false, false, false, false, false, false, false, false, false, false, false, false, false, false, false, false, false, false] rfl rfl (by kernel_rfl) (fun _ _ _ h => h) (Or.inl ⟨by rfl, ?_⟩) ?_ ?_
                          rotate_left
                          · intro w'
                            go_simp
                            with_reducible rfl
                          rotate_left
                          · simp only [Act.put, List.setIfInBounds_toArray, List.set_cons_zero, List.set_cons_succ, i64_w, i32_w]
                            rfl
                          refine pure_ (i := 1) (N := some 144) (v := ?_) (a' := ?_) #[true, true, false, false, false, false, false, false, false, false, false, false, false, false, false, false, false, false, false, false, false, false, false, false, false] rfl rfl (by kernel_rfl) (fun _ _ _ h => h) (Or.inl ⟨by rfl, ?_⟩) ?_ ?_
                          rotate_left
                          · intro w'
                            go_simp
                            with_reducible rfl
                          rotate_left
                          · simp only [Act.put, List.setIfInBounds_toArray, List.set_cons_zero, List.set_cons_succ, i64_w, i32_w]
                            rfl
                          refine pure_ (i := 2) (N := some 145) (v := ?_) (a' := ?_) #[true, true, true, false, false, false, false, false, false, false, false, false, false, false, false, false, false, false, false, false, false, false, false, false, false] rfl rfl (by kernel_rfl) (fun _ _ _ h => h) (Or.inl ⟨by rfl, ?_⟩) ?_ ?_
                          rotate_left
                          · intro w'
                            go_simp
                            with_reducible rfl
                          rotate_left
                          · simp only [Act.put, List.setIfInBounds_toArray, List.set_cons_zero, List.set_cons_succ, i64_w, i32_w]
                            rfl
                          refine pure_ (i := 3) (N := some 146) (v := ?_) (a' := ?_) #[true, true, true, true, false, false, false, false, false, false, false, false, false, false, false, false, false, false, false, false, false, false, false, false, false] rfl rfl (by kernel_rfl) (fun _ _ _ h => h) (Or.inl ⟨by rfl, ?_⟩) ?_ ?_
                          rotate_left
                          · intro w'
                            go_simp
                            with_reducible rfl
                          rotate_left
                          · simp only [Act.put, List.setIfInBounds_toArray, List.set_cons_zero, List.set_cons_succ, i64_w, i32_w]
                            rfl
                          refine pure_ (i := 4) (N := some 147) (v := ?_) (a' := ?_) #[true, true, true, true, true, false, false, false, false, false, false, false, false, false, false, false, false, false, false, false, false, false, false, false, false] rfl rfl (by kernel_rfl) (fun _ _ _ h => h) (Or.inl ⟨by rfl, ?_⟩) ?_ ?_
                          rotate_left
                          · intro w'
                            go_simp
                            with_reducible rfl
                          rotate_left
                          · simp only [Act.put, List.setIfInBounds_toArray, List.set_cons_zero, List.set_cons_succ, i64_w, i32_w]
                            rfl
                          refine pure_ (i := 5) (N := some 148) (v := ?_) (a' := ?_) #[true, true, true, true, true, true, false, false, false, false, false, false, false, false, false, false, false, false, false, false, false, false, false, false, false] rfl rfl (by kernel_rfl) (fun _ _ _ h => h) (Or.inl ⟨by rfl, ?_⟩) ?_ ?_
                          rotate_left
                          · intro w'
                            go_simp
                            with_reducible rfl
                          rotate_left
                          · simp only [Act.put, List.setIfInBounds_toArray, List.set_cons_zero, List.set_cons_succ, i64_w, i32_w]
                            rfl
                          refine pure_ (i := 6) (N := some 149) (v := ?_) (a' := ?_) #[true, true, true, true, true, true, true, false, false, false, false, false, false, false, false, false, false, false, false, false, false, false, false, false, false] rfl rfl (by kernel_rfl) (fun _ _ _ h => h) (Or.inl ⟨by rfl, ?_⟩) ?_ ?_
                          rotate_left
                          · intro w'
                            go_simp
                            with_reducible rfl
                          rotate_left
                          · simp only [Act.put, List.setIfInBounds_toArray, List.set_cons_zero, List.set_cons_succ, i64_w, i32_w]
                            rfl
                          refine pure_ (i := 7) (N := some 150) (v := ?_) (a' := ?_) #[true, true, true, true, true, true, true, true, false, false, false, false, false, false, false, false, false, false, false, false, false, false, false, false, false] rfl rfl (by kernel_rfl) (fun _ _ _ h => h) (Or.inl ⟨by rfl, ?_⟩) ?_ ?_
                          rotate_left
                          · intro w'
                            go_simp
                            with_reducible rfl
                          rotate_left
                          · simp only [Act.put, List.setIfInBounds_toArray, List.set_cons_zero, List.set_cons_succ, i64_w, i32_w]
                            rfl
                          refine pure_ (i := 8) (N := some 151) (v := ?_) (a' := ?_) #[true, true, true, true, true, true, true, true, true, false, false, false, false, false, false, false, false, false, false, false, false, false, false, false, false] rfl rfl (by kernel_rfl) (fun _ _ _ h => h) (Or.inl ⟨by rfl, ?_⟩) ?_ ?_
                          rotate_left
                          · intro w'
                            go_simp
                            with_reducible rfl
                          rotate_left
                          · simp only [Act.put, List.setIfInBounds_toArray, List.set_cons_zero, List.set_cons_succ, i64_w, i32_w]
                            rfl
                          refine pure_ (i := 9) (N := some 152) (v := ?_) (a' := ?_) #[true, true, true, true, true, true, true, true, true, true, false, false, false, false, false, false, false, false, false, false, false, false, false, false, false] rfl rfl (by kernel_rfl) (fun _ _ _ h => h) (Or.inl ⟨by rfl, ?_⟩) ?_ ?_
                          rotate_left
                          · intro w'
                            go_simp
                            with_reducible rfl
                          rotate_left
                          · simp only [Act.put, List.setIfInBounds_toArray, List.set_cons_zero, List.set_cons_succ, i64_w, i32_w]
                            rfl
                          refine pure_ (i := 10) (N := some 153) (v := ?_) (a' := ?_) #[true, true, true, true, true, true, true, true, true, true, true, false, false, false, false, false, false, false, false, false, false, false, false, false, false] rfl rfl (by kernel_rfl) (fun _ _ _ h => h) (Or.inl ⟨by rfl, ?_⟩) ?_ ?_
                          rotate_left
                          · intro w'
                            go_simp
                            with_reducible rfl
                          rotate_left
                          · simp only [Act.put, List.setIfInBounds_toArray, List.set_cons_zero, List.set_cons_succ, i64_w, i32_w]
                            rfl
                          refine pure_ (i := 11) (N := some 154) (v := ?_) (a' := ?_) #[true, true, true, true, true, true, true, true, true, true, true, true, false, false, false, false, false, false, false, false, false, false, false, false, false] rfl rfl (by kernel_rfl) (fun _ _ _ h => h) (Or.inl ⟨by rfl, ?_⟩) ?_ ?_
                          rotate_left
                          · intro w'
                            go_simp
                            with_reducible rfl
                          rotate_left
                          · simp only [Act.put, List.setIfInBounds_toArray, List.set_cons_zero, List.set_cons_succ, i64_w, i32_w]
                            rfl
                          refine pure_ (i := 12) (N := some 155) (v := ?_) (a' := ?_) #[true, true, true, true, true, true, true, true, true, true, true, true, true, false, false, false, false, false, false, false, false, false, false, false, false] rfl rfl (by kernel_rfl) (fun _ _ _ h => h) (Or.inl ⟨by rfl, ?_⟩) ?_ ?_
                          rotate_left
                          · intro w'
                            go_simp
                            with_reducible rfl
                          rotate_left
                          · simp only [Act.put, List.setIfInBounds_toArray, List.set_cons_zero, List.set_cons_succ, i64_w, i32_w]
                            rfl
                          refine pure_ (i := 13) (N := some 156) (v := ?_) (a' := ?_) #[true, true, true, true, true, true, true, true, true, true, true, true, true, true, false, false, false, false, false, false, false, false, false, false, false] rfl rfl (by kernel_rfl) (fun _ _ _ h => h) (Or.inl ⟨by rfl, ?_⟩) ?_ ?_
                          rotate_left
                          · intro w'
                            go_simp
                            with_reducible rfl
                          rotate_left
                          · simp only [Act.put, List.setIfInBounds_toArray, List.set_cons_zero, List.set_cons_succ, i64_w, i32_w]
                            rfl
                          refine pure_ (i := 14) (N := some 157) (v := ?_) (a' := ?_) #[true, true, true, true, true, true, true, true, true, true, true, true, true, true, true, false, false, false, false, false, false, false, false, false, false] rfl rfl (by kernel_rfl) (fun _ _ _ h => h) (Or.inl ⟨by rfl, ?_⟩) ?_ ?_
                          rotate_left
                          · intro w'
                            go_simp
                            with_reducible rfl
                          rotate_left
                          · simp only [Act.put, List.setIfInBounds_toArray, List.set_cons_zero, List.set_cons_succ, i64_w, i32_w]
                            rfl
                          refine pure_ (i := 15) (N := some 158) (v := ?_) (a' := ?_) #[true, true, true, true, true, true, true, true, true, true, true, true, true, true, true, true, false, false, false, false, false, false, false, false, false] rfl rfl (by kernel_rfl) (fun _ _ _ h => h) (Or.inl ⟨by rfl, ?_⟩) ?_ ?_
                          rotate_left
                          · intro w'
                            go_simp
                            with_reducible rfl
                          rotate_left
                          · simp only [Act.put, List.setIfInBounds_toArray, List.set_cons_zero, List.set_cons_succ, i64_w, i32_w]
                            rfl
                          refine pure_ (i := 16) (N := some 159) (v := ?_) (a' := ?_) #[true, true, true, true, true, true, true, true, true, true, true, true, true, true, true, true, true, false, false, false, false, false, false, false, false] rfl rfl (by kernel_rfl) (fun _ _ _ h => h) (Or.inl ⟨by rfl, ?_⟩) ?_ ?_
                          rotate_left
                          · intro w'
                            go_simp
                            with_reducible rfl
                          rotate_left
                          · simp only [Act.put, List.setIfInBounds_toArray, List.set_cons_zero, List.set_cons_succ, i64_w, i32_w]
                            rfl
                          refine pure_ (i := 17) (N := some 160) (v := ?_) (a' := ?_) #[true, true, true, true, true, true, true, true, true, true, true, true, true, true, true, true, true, true, false, false, false, false, false, false, false] rfl rfl (by kernel_rfl) (fun _ _ _ h => h) (Or.inl ⟨by rfl, ?_⟩) ?_ ?_
                          rotate_left
                          · intro w'
                            go_simp
                            with_reducible rfl
                          rotate_left
                          · simp only [Act.put, List.setIfInBounds_toArray, List.set_cons_zero, List.set_cons_succ, i64_w, i32_w]
                            rfl
                          refine pure_ (i := 18) (N := some 161) (v := ?_) (a' := ?_) #[true, true, true, true, true, true, true, true, true, true, true, true, true, true, true, true, true, true, true, false, false, false, false, false, false] rfl rfl (by kernel_rfl) (fun _ _ _ h => h) (Or.inl ⟨by rfl, ?_⟩) ?_ ?_
                          rotate_left
                          · intro w'
                            go_simp
                            with_reducible rfl
                          rotate_left
                          · simp only [Act.put, List.setIfInBounds_toArray, List.set_cons_zero, List.set_cons_succ, i64_w, i32_w]
                            rfl
                          refine pure_ (i := 19) (N := some 162) (v := ?_) (a' := ?_) #[true, true, true, true, true, true, true, true, true, true, true, true, true, true, true, true, true, true, true, true, false, false, false, false, false] rfl rfl (by kernel_rfl) (fun _ _ _ h => h) (Or.inl ⟨by rfl, ?_⟩) ?_ ?_
                          rotate_left
                          · intro w'
                            go_simp
                            with_reducible rfl
                          rotate_left
                          · simp only [Act.put, List.setIfInBounds_toArray, List.set_cons_zero, List.set_cons_succ, i64_w, i32_w]
                            rfl
                          refine pure_ (i := 20) (N := some 163) (v := ?_) (a' := ?_) #[true, true, true, true, true, true, true, true, true, true, true, true, true, true, true, true, true, true, true, true, true, false, false, false, false] rfl rfl (by kernel_rfl) (fun _ _ _ h => h) (Or.inl ⟨by rfl, ?_⟩) ?_ ?_
                          rotate_left
                          · intro w'
                            go_simp
                            with_reducible rfl
                          rotate_left
                          · simp only [Act.put, List.setIfInBounds_toArray, List.set_cons_zero, List.set_cons_succ, i64_w, i32_w]
                            rfl
                          refine pure_ (i := 21) (N := some 164) (v := ?_) (a' := ?_) #[true, true, true, true, true, true, true, true, true, true, true, true, true, true, true, true, true, true, true, true, true, true, false, false, false] rfl rfl (by kernel_rfl) (fun _ _ _ h => h) (Or.inl ⟨by rfl, ?_⟩) ?_ ?_
                          rotate_left
                          · intro w'
                            go_simp
                            with_reducible rfl
                          rotate_left
                          · simp only [Act.put, List.setIfInBounds_toArray, List.set_cons_zero, List.set_cons_succ, i64_w, i32_w]
                            rfl
                          refine pure_ (i := 22) (N := some 165) (v := ?_) (a' := ?_) #[true, true, true, true, true, true, true, true, true, true, true, true, true, true, true, true, true, true, true, true, true, true, true, false, false] rfl rfl (by kernel_rfl) (fun _ _ _ h => h) (Or.inl ⟨by rfl, ?_⟩) ?_ ?_
                          rotate_left
                          · intro w'
                            go_simp
                            with_reducible rfl
                          rotate_left
                          · simp only [Act.put, List.setIfInBounds_toArray, List.set_cons_zero, List.set_cons_succ, i64_w, i32_w]
                            rfl
                          refine pure_ (i := 23) (N := some 166) (v := ?_) (a' := ?_) #[true, true, true, true, true, true, true, true, true, true, true, true, true, true, true, true, true, true, true, true, true, true, true, true, false] rfl rfl (by kernel_rfl) (fun _ _ _ h => h) (Or.inl ⟨by rfl, ?_⟩) ?_ ?_
                          rotate_left
                          · intro w'
                            go_simp
                            with_reducible rfl
                          rotate_left
                          · simp only [Act.put, List.setIfInBounds_toArray, List.set_cons_zero, List.set_cons_succ, i64_w, i32_w]
                            rfl
                          refine pure_ (i := 24) (N := some 167) (v := ?_) (a' := ?_) #[true, true, true, true, true, true, true, true, true, true, true, true, true, true, true, true, true, true, true, true, true, true, true, true, true] rfl rfl (by kernel_rfl) (fun _ _ _ h => h) (Or.inl ⟨by rfl, ?_⟩) ?_ ?_
                          rotate_left
                          · intro w'
                            go_simp
                            with_reducible rfl
                          rotate_left
                          · simp only [Act.put, List.setIfInBounds_toArray, List.set_cons_zero, List.set_cons_succ, i64_w, i32_w]
                            rfl
                          refine done_ (by kernel_rfl) ?_
                          have s1 := hHeld.2.2.2.cell (setArr_get s k (by rw [hsl.out]; omega))
                          have sf1 := hHeld.2.2.2.frozen k
                          have HB1 := Aside0.mk (hHeld.1.setCell (p := ⟨gS, k, none⟩) HgS.out (.bool true))
                          have HX1 := Aside0.mk (hHeld.2.1.far (j := k) hHeld.2.2.2 (by decide) (by decide) (.bool true))
                          have HY1 := Aside0.mk (hHeld.2.2.1.far (j := k) hHeld.2.2.2 (by decide) (by decide) (.bool true))
                          have HS1 := Aside0.mk (hHeld.2.2.2.set_ k (.bool true))
                          rw [setArr_set] at HS1
                          clear hHeld HB HX HY HS s0 sf
                          go_wp2_with fail
                          go_roundg kk
                          case measure => omega
                          case rel => exact ⟨k + 1, _, by omega, by go_num, HB1, HX1, HY1, HS1, ⟨HU1⟩⟩
                      · exact absurd hlt (by omega)
                    · have t1 : decide (a ≤ k) = true := decide_eq_true (by omega)
                      have HU1 := Hset.out (blkV_left hka (by omega))
                      go_wp2_with fail
                      refine start_ (n := 25) (S := fun w' => Below w.heap.size w w' ∧ FilmAt w' gf qf X0 ∧ FilmAt w' gy qy X ∧ Blk w' gS 38 (setArr s)) (ds := []) #[false, false, false, false, false, false, false, false, false, false, false, false, false, false, false, false, false, false, false, false, false, false, false, false, false] (by kernel_rfl) rfl rfl ⟨(below_drew1 HB.out), (FilmAt.move HX.out rfl rfl), (FilmAt.move HY.out rfl rfl), HS.out.drew⟩ (fun hHeld => ?_)
                      refine pure_ (i := 0) (N := some 143) (v := ?_) (a' := ?_) #[true, false, false, false, false, false, false, false, false, false, false, false, false, false, false, false, false, false, false, false, false, false, false, false, false] rfl rfl (by kernel_rfl) (fun _ _ _ h => h) (Or.inl ⟨by rfl, ?_⟩) ?_ ?_
                      rotate_left
                      · intro w'
                        go_simp
                        with_reducible rfl
                      rotate_left
                      · simp only [Act.put, List.setIfInBounds_toArray, List.set_cons_zero, List.set_cons_succ, i64_w, i32_w]
                        rfl
                      refine pure_ (i := 1) (N := some 144) (v := ?_) (a' := ?_) #[true, true, false, false, false, false, false, false, false, false, false, false, false, false, false, false, false, false, false, false, false, false, false, false, false] rfl rfl (by kernel_rfl) (fun _ _ _ h => h) (Or.inl ⟨by rfl, ?_⟩) ?_ ?_
                      rotate_left
                      · intro w'
                        go_simp
                        with_reducible rfl
                      rotate_left
                      · simp only [Act.put, List.setIfInBounds_toArray, List.set_cons_zero, List.set_cons_succ, i64_w, i32_w]
                        rfl
                      refine pure_ (i := 2) (N := some 145) (v := ?_) (a' := ?_) #[true, true, true, false, false, false, false, false, false, false, false, false, false, false, false, false, false, false, false, false, false, false, false, false, false] rfl rfl (by kernel_rfl) (fun _ _ _ h => h) (Or.inl ⟨by rfl, ?_⟩) ?_ ?_
                      rotate_left
                      · intro w'
                        go_simp
                        with_reducible rfl
                      rotate_left
                      · simp only [Act.put, List.setIfInBounds_toArray, List.set_cons_zero, List.set_cons_succ, i64_w, i32_w]
                        rfl
                      refine pure_ (i := 3) (N := some 146) (v := ?_) (a' := ?_) #[true, true, true, true, false, false, false, false, false, false, false, false, false, false, false, false, false, false, false, false, false, false, false, false, false] rfl rfl (by kernel_rfl) (fun _ _ _ h => h) (Or.inl ⟨by rfl, ?_⟩) ?_ ?_
                      rotate_left
                      · intro w'
                        go_simp
                        with_reducible rfl
                      rotate_left
                      · simp only [Act.put, List.setIfInBounds_toArray, List.set_cons_zero, List.set_cons_succ, i64_w, i32_w]
                        rfl
                      refine pure_ (i := 4) (N := some 147) (v := undef) (a' := ?_) #[true, true, true, true, true, false, false, false, false, false, false, false, false, false, false, false, false, false, false, false, false, false, false, false, false] rfl rfl (by kernel_rfl) (fun _ _ _ h => h) (Or.inr ⟨by rfl, rfl⟩) ?_ ?_
                      rotate_left
                      · simp only [Act.put, List.setIfInBounds_toArray, List.set_cons_zero, List.set_cons_succ, i64_w, i32_w]
                        rfl
                      refine pure_ (i := 5) (N := some 148) (v := undef) (a' := ?_) #[true, true, true, true, true, true, false, false, false, false, false, false, false, false, false, false, false, false, false, false, false, false, false, false, false] rfl rfl (by kernel_rfl) (fun _ _ _ h => h) (Or.inr ⟨by rfl, rfl⟩) ?_ ?_
                      rotate_left
                      · simp only [Act.put, List.setIfInBounds_toArray, List.set_cons_zero, List.set_cons_succ, i64_w, i32_w]
                        rfl
                      refine pure_ (i := 6) (N := some 149) (v := undef) (a' := ?_) #[true, true, true, true, true, true, true, false, false, false, false, false, false, false, false, false, false, false, false, false, false, false, false, false, false] rfl rfl (by kernel_rfl) (fun _ _ _ h => h) (Or.inr ⟨by rfl, rfl⟩) ?_ ?_
                      rotate_left
                      · simp only [Act.put, List.setIfInBounds_toArray, List.set_cons_zero, List.set_cons_succ, i64_w, i32_w]
                        rfl
                      refine pure_ (i := 7) (N := some 150) (v := ?_) (a' := ?_) #[true, true, true, true, true, true, true, true, false, false, false, false, false, false, false, false, false, false, false, false, false, false, false, false, false] rfl rfl (by kernel_rfl) (fun _ _ _ h => h) (Or.inl ⟨by rfl, ?_⟩) ?_ ?_
                      rotate_left
                      · intro w'
                        go_simp
                        with_reducible rfl
                      rotate_left
                      · simp only [Act.put, List.setIfInBounds_toArray, List.set_cons_zero, List.set_cons_succ, i64_w, i32_w]
                        rfl
                      refine pure_ (i := 8) (N := some 151) (v := ?_) (a' := ?_) #[true, true, true, true, true, true, true, true, true, false, false, false, false, false, false, false, false, false, false, false, false, false, false, false, false] rfl rfl (by kernel_rfl) (fun _ _ _ h => h) (Or.inl ⟨by rfl, ?_⟩) ?_ ?_
                      rotate_left
                      · intro w'
                        go_simp
                        with_reducible rfl
                      rotate_left
                      · simp only [Act.put, List.setIfInBounds_toArray, List.set_cons_zero, List.set_cons_succ, i64_w, i32_w]
                        rfl
                      refine pure_ (i := 9) (N := some 152) (v := undef) (a' := ?_) #[true, true, true, true, true, true, true, true, true, true, false, false, false, false, false, false, false, false, false, false, false, false, false, false, false] rfl rfl (by kernel_rfl) (fun _ _ _ h => h) (Or.inr ⟨by rfl, rfl⟩) ?_ ?_
                      rotate_left
                      · simp only [Act.put, List.setIfInBounds_toArray, List.set_cons_zero, List.set_cons_succ, i64_w, i32_w]
                        rfl
                      refine pure_ (i := 10) (N := some 153) (v := undef) (a' := ?_) #[true, true, true, true, true, true, true, true, true, true, true, false, false, false, false, false, false, false, false, false, false, false, false, false, false] rfl rfl (by kernel_rfl) (fun _ _ _ h => h) (Or.inr ⟨by rfl, rfl⟩) ?_ ?_
                      rotate_left
                      · simp only [Act.put, List.setIfInBounds_toArray, List.set_cons_zero, List.set_cons_succ, i64_w, i32_w]
                        rfl
                      refine pure_ (i := 11) (N := some 154) (v := undef) (a' := ?_) #[true, true, true, true, true, true, true, true, true, true, true, true, false, false, false, false, false, false, false, false, false, false, false, false, false] rfl rfl (by kernel_rfl) (fun _ _ _ h => h) (Or.inr ⟨by rfl, rfl⟩) ?_ ?_
                      rotate_left
                      · simp only [Act.put, List.setIfInBounds_toArray, List.set_cons_zero, List.set_cons_succ, i64_w, i32_w]
                        rfl
                      refine pure_ (i := 12) (N := some 155) (v := undef) (a' := ?_) #[true, true, true, true, true, true, true, true, true, true, true, true, true, false, false, false, false, false, false, false, false, false, false, false, false] rfl rfl (by kernel_rfl) (fun _ _ _ h => h) (Or.inr ⟨by rfl, rfl⟩) ?_ ?_
                      rotate_left
                      · simp only [Act.put, List.setIfInBounds_toArray, List.set_cons_zero, List.set_cons_succ, i64_w, i32_w]
                        rfl
                      refine pure_ (i := 13) (N := some 156) (v := undef) (a' := ?_) #[true, true, true, true, true, true, true, true, true, true, true, true, true, true, false, false, false, false, false, false, false, false, false, false, false] rfl rfl (by kernel_rfl) (fun _ _ _ h => h) (Or.inr ⟨by rfl, rfl⟩) ?_ ?_
                      rotate_left
                      · simp only [Act.put, List.setIfInBounds_toArray, List.set_cons_zero, List.set_cons_succ, i64_w, i32_w]
                        rfl
                      refine pure_ (i := 14) (N := some 157) (v := undef) (a' := ?_) #[true, true, true, true, true, true, true, true, true, true, true, true, true, true, true, false, false, false, false, false, false, false, false, false, false] rfl rfl (by kernel_rfl) (fun _ _ _ h => h) (Or.inr ⟨by rfl, rfl⟩) ?_ ?_
                      rotate_left
                      · simp only [Act.put, List.setIfInBounds_toArray, List.set_cons_zero, List.set_cons_succ, i64_w, i32_w]
                        rfl
                      refine pure_ (i := 15) (N := some 158) (v := undef) (a' := ?_) #[true, true, true, true, true, true, true, true, true, true, true, true, true, true, true, true, false, false, false, false, false, false, false, false, false] rfl rfl (by kernel_rfl) (fun _ _ _ h => h) (Or.inr ⟨by rfl, rfl⟩) ?_ ?_
                      rotate_left
                      · simp only [Act.put, List.setIfInBounds_toArray, List.set_cons_zero, List.set_cons_succ, i64_w, i32_w]
                        rfl
                      refine pure_ (i := 16) (N := some 159) (v := undef) (a' := ?_) #[true, true, true, true, true, true, true, true, true, true, true, true, true, true, true, true, true, false, false, false, false, false, false, false, false] rfl rfl (by kernel_rfl) (fun _ _ _ h => h) (Or.inr ⟨by rfl, rfl⟩) ?_ ?_
                      rotate_left
                      · simp only [Act.put, List.setIfInBounds_toArray, List.set_cons_zero, List.set_cons_succ, i64_w, i32_w]
                        rfl
                      refine pure_ (i := 17) (N := some 160) (v := undef) (a' := ?_) #[true, true, true, true, true, true, true, true, true, true, true, true, true, true, true, true, true, true, false, false, false, false, false, false, false] rfl rfl (by kernel_rfl) (fun _ _ _ h => h) (Or.inr ⟨by rfl, rfl⟩) ?_ ?_
                      rotate_left
                      · simp only [Act.put, List.setIfInBounds_toArray, List.set_cons_zero, List.set_cons_succ, i64_w, i32_w]
                        rfl
                      refine pure_ (i := 18) (N := some 161) (v := undef) (a' := ?_) #[true, true, true, true, true, true, true, true, true, true, true, true, true, true, true, true, true, true, true, false, false, false, false, false, false] rfl rfl (by kernel_rfl) (fun _ _ _ h => h) (Or.inr ⟨by rfl, rfl⟩) ?_ ?_
                      rotate_left
                      · simp only [Act.put, List.setIfInBounds_toArray, List.set_cons_zero, List.set_cons_succ, i64_w, i32_w]
                        rfl
                      refine pure_ (i := 19) (N := some 162) (v := undef) (a' := ?_) #[true, true, true, true, true, true, true, true, true, true, true, true, true, true, true, true, true, true, true, true, false, false, false, false, false] rfl rfl (by kernel_rfl) (fun _ _ _ h => h) (Or.inr ⟨by rfl, rfl⟩) ?_ ?_
                      rotate_left
                      · simp only [Act.put, List.setIfInBounds_toArray, List.set_cons_zero, List.set_cons_succ, i64_w, i32_w]
                        rfl
                      refine pure_ (i := 20) (N := some 163) (v := undef) (a' := ?_) #[true, true, true, true, true, true, true, true, true, true, true, true, true, true, true, true, true, true, true, true, true, false, false, false, false] rfl rfl (by kernel_rfl) (fun _ _ _ h => h) (Or.inr ⟨by rfl, rfl⟩) ?_ ?_
                      rotate_left
                      · simp only [Act.put, List.setIfInBounds_toArray, List.set_cons_zero, List.set_cons_succ, i64_w, i32_w]
                        rfl
                      refine pure_ (i := 21) (N := some 164) (v := undef) (a' := ?_) #[true, true, true, true, true, true, true, true, true, true, true, true, true, true, true, true, true, true, true, true, true, true, false, false, false] rfl rfl (by kernel_rfl) (fun _ _ _ h => h) (Or.inr ⟨by rfl, rfl⟩) ?_ ?_
                      rotate_left
                      · simp only [Act.put, List.setIfInBounds_toArray, List.set_cons_zero, List.set_cons_succ, i64_w, i32_w]
                        rfl
                      refine pure_ (i := 22) (N := some 165) (v := undef) (a' := ?_) #[true, true, true, true, true, true, true, true, true, true, true, true, true, true, true, true, true, true, true, true, true, true, true, false, false] rfl rfl (by kernel_rfl) (fun _ _ _ h => h) (Or.inr ⟨by rfl, rfl⟩) ?_ ?_
                      rotate_left
                      · simp only [Act.put, List.setIfInBounds_toArray, List.set_cons_zero, List.set_cons_succ, i64_w, i32_w]
                        rfl
                      refine pure_ (i := 23) (N := some 166) (v := undef) (a' := ?_) #[true, true, true, true, true, true, true, true, true, true, true, true, true, true, true, true, true, true, true, true, true, true, true, true, false] rfl rfl (by kernel_rfl) (fun _ _ _ h => h) (Or.inr ⟨by rfl, rfl⟩) ?_ ?_
                      rotate_left
                      · simp only [Act.put, List.setIfInBounds_toArray, List.set_cons_zero, List.set_cons_succ, i64_w, i32_w]
                        rfl
                      refine pure_ (i := 24) (N := some 167) (v := ?_) (a' := ?_) #[true, true, true, true, true, true, true, true, true, true, true, true, true, true, true, true, true, true, true, true, true, true, true, true, true] rfl rfl (by kernel_rfl) (fun _ _ _ h => h) (Or.inl ⟨by rfl, ?_⟩) ?_ ?_
                      rotate_left
                      · intro w'
                        go_simp
                        with_reducible rfl
                      rotate_left
                      · simp only [Act.put, List.setIfInBounds_toArray, List.set_cons_zero, List.set_cons_succ, i64_w, i32_w]
                        rfl
                      refine done_ (by kernel_rfl) ?_
                      have s1 := hHeld.2.2.2.cell (setArr_get s k (by rw [hsl.out]; omega))
                      have sf1 := hHeld.2.2.2.frozen k
                      have HB1 := Aside0.mk (hHeld.1.setCell (p := ⟨gS, k, none⟩) HgS.out (.bool true))
                      have HX1 := Aside0.mk (hHeld.2.1.far (j := k) hHeld.2.2.2 (by decide) (by decide) (.bool true))
                      have HY1 := Aside0.mk (hHeld.2.2.1.far (j := k) hHeld.2.2.2 (by decide) (by decide) (.bool true))
                      have HS1 := Aside0.mk (hHeld.2.2.2.set_ k (.bool true))
                      rw [setArr_set] at HS1
                      clear hHeld HB HX HY HS s0 sf
                      go_wp2_with fail
                      go_roundg kk
                      case measure => omega
                      case rel => exact ⟨k + 1, _, by omega, by go_num, HB1, HX1, HY1, HS1, ⟨HU1⟩⟩
                  · obtain rfl : b = k := by omega
                    have hlt' : ¬ (b : Int) < (b : Int) := by omega
                    have hsp := Aside0.mk (HU.out.all (by omega))
                    obtain ⟨T, hT⟩ : ∃ T, T = unlV (blkV X0 a) (blkV X b) b := ⟨_, rfl⟩
                    have HT := Aside0.mk hT
                    have hTl : T.length ≤ 65 := by rw [hT]; have := (unlV_spec (blkV X0 a) (blkV X b) b (by omega)).1.length (by decide); omega
                    rw [← hT] at hsp
                    have hTl' := Aside0.mk hTl
                    clear hT hTl
                    have hm1 : Aside0 (unlV (blkV X0 a) (blkV X b) (max a b) = T) := ⟨by rw [HT.out, Hmx.out]⟩
                    have hm2 : Aside0 (unlV (blkV X b) (blkV X0 a) (max b a) = T) := ⟨by rw [HT.out, Nat.max_comm, Hmx.out, unlV_comm]⟩
                    have HB0 := Aside0.mk (below_alloc HB.out (.cells (bookC (.slice none 0 0) (.slice none 0 0) (.slice none 0 0) (.slice none 0 0) (.slice none 0 0) (.slice none 0 0)) 48))
                    have HX0 := Aside0.mk (HX.out.keep (below_alloc (Below.refl _ _) (.cells (bookC (.slice none 0 0) (.slice none 0 0) (.slice none 0 0) (.slice none 0 0) (.slice none 0 0) (.slice none 0 0)) 48)))
                    have HY0 := Aside0.mk (HY.out.keep (below_alloc (Below.refl _ _) (.cells (bookC (.slice none 0 0) (.slice none 0 0) (.slice none 0 0) (.slice none 0 0) (.slice none 0 0) (.slice none 0 0)) 48)))
                    have HS0 := Aside0.mk (HS.out.alloc (.cells (bookC (.slice none 0 0) (.slice none 0 0) (.slice none 0 0) (.slice none 0 0) (.slice none 0 0) (.slice none 0 0)) 48))
                    have HK0 := Aside0.mk (Blk.new wr 48 (bookC (.slice none 0 0) (.slice none 0 0) (.slice none 0 0) (.slice none 0 0) (.slice none 0 0) (.slice none 0 0)))
                    obtain ⟨gB, hgB⟩ : ∃ g, g = wr.heap.size := ⟨_, rfl⟩
                    have HN : Aside0 (w.heap.size ≤ gB ∧ gf ≠ gB ∧ qf ≠ gB ∧ gy ≠ gB ∧ qy ≠ gB ∧ gS ≠ gB) := ⟨by have h1 := HB.out.size; have h2 := HX.out.lt; have h3 := HY.out.lt; have h4 := HS.out.lt; omega⟩
                    clear HB HX HY HS
                    go_wp2_with fail
                    rw [← hgB] at HK0 ⊢
                    clear hgB
                    refine (film_unlike gf qf gy qy X0 X a b _ HX0.out HY0.out hx0.out ha2.out hll.out hb2.out).mono ?_
                    rintro e w11 ⟨u, rfl, hu, hB⟩
                    rw [hm1.out] at hu
                    have HU1 := Aside0.mk (Kd.R_lower hu.to_R HB0.out.size)
                    replace HB0 := Aside0.mk (below_step HB0.out hB)
                    replace HX0 := Aside0.mk (HX0.out.keep hB)
                    replace HY0 := Aside0.mk (HY0.out.keep hB)
                    replace HS0 := Aside0.mk (HS0.out.keep hB)
                    replace HK0 := Aside0.mk (HK0.out.keep hB)
                    have Hub : Aside0 (∀ k, u.ownBlock = some k → k < w11.heap.size ∧ k ≠ gB) := ⟨fun k hk => ⟨Kd.R_lt HU1.out k hk, fun e => own_ne hu HK0.out.hd (by decide) (by rw [hk, e])⟩⟩
                    clear hu hB
                    obtain ⟨Au, cu, hue, hcu, hCu⟩ := Kd.R_reads HU1.out
                    subst hue
                    have hCu' := Aside0.mk hCu
                    clear hCu
                    go_wp2_with fail
                    refine (film_unlike gy qy gf qf X X0 b a _ HY0.out HX0.out hll.out hb2.out hx0.out ha2.out).mono ?_
                    rintro e w12 ⟨v, rfl, hv, hB⟩
                    rw [hm2.out] at hv
                    have HV1 := Aside0.mk (Kd.R_lower hv.to_R HB0.out.size)
                    replace HU1 := Aside0.mk (Kd.R_below HU1.out hB)
                    replace HB0 := Aside0.mk (below_step HB0.out hB)
                    replace HX0 := Aside0.mk (HX0.out.keep hB)
                    replace HY0 := Aside0.mk (HY0.out.keep hB)
                    replace HS0 := Aside0.mk (HS0.out.keep hB)
                    replace HK0 := Aside0.mk (HK0.out.keep hB)
                    have Huv : Aside0 (NeRow (.slice Au T.length cu) v) := ⟨fun k hk hk' => by have h1 := (Hub.out k hk).1; have h2 := own_base hv k hk'; omega⟩
                    have Hvb : Aside0 (∀ k, v.ownBlock = some k → k < w12.heap.size ∧ k ≠ gB) := ⟨fun k hk => ⟨Kd.R_lt HV1.out k hk, fun e => own_ne hv HK0.out.hd (by decide) (by rw [hk, e])⟩⟩
                    clear hv hB hCu'
                    obtain ⟨Av, cv, hve, hcv, hCv⟩ := Kd.R_reads HV1.out
                    subst hve
                    clear hCv
                    go_wp2_with fail
                    refine (add_Spans gB w.heap.size _ _ _ _ _ _ [] [] [] _ T _ HK0.out (Pile.nil _ _ _ _ _) HU1.out (by have := hTl'.out; omega) (by decide) (fun x hx => absurd hx (by simp)) HB0.out.size HN.out.1).mono ?_
                    rintro e w13 ⟨rfl, V1, U1, u1, hk, hp, hu1, hfx⟩
                    replace HX0 := Aside0.mk (hfx.film HX0.out (by decide) (by decide) HN.out.2.1 HN.out.2.2.1)
                    replace HY0 := Aside0.mk (hfx.film HY0.out (by decide) (by decide) HN.out.2.2.2.1 HN.out.2.2.2.2.1)
                    replace HS0 := Aside0.mk (hfx.blk HS0.out (by decide) HN.out.2.2.2.2.2)
                    replace HU1 := Aside0.mk (hfx.R rfl HU1.out (by decide) (fun k hk => (Hub.out k hk).2))
                    replace HV1 := Aside0.mk (hfx.R rfl HV1.out (by decide) (fun k hk => (Hvb.out k hk).2))
                    replace HB0 := Aside0.mk (HB0.out.trans hfx.1)
                    replace HK0 := Aside0.mk hk
                    have HP := Aside0.mk hp
                    have Hn2 : Aside0 (∀ x ∈ [.slice Au T.length cu] ++ [u1], NeRow x (.slice Av T.length cv)) := ⟨fun x hx => by
                      rcases List.mem_append.1 hx with hx | hx
                      · rw [List.mem_singleton.1 hx]; exact Huv.out
                      · rw [List.mem_singleton.1 hx]; exact fun k hk hk' => by have h1 := hu1 k hk; have h2 := (Hvb.out k hk').1; omega⟩
                    clear hk hp hu1 hfx
                    go_wp2_with fail
                    refine (add_Spans gB w.heap.size _ _ _ _ _ _ [.slice Au T.length cu] [u1] [T] _ T _ HK0.out HP.out HV1.out (by have := hTl'.out; omega) (by simp) Hn2.out HB0.out.size HN.out.1).mono ?_
                    rintro e w14 ⟨rfl, V2, U2, u2, hk, hp, hu2, hfx⟩
                    replace HX0 := Aside0.mk (hfx.film HX0.out (by decide) (by decide) HN.out.2.1 HN.out.2.2.1)
                    replace HY0 := Aside0.mk (hfx.film HY0.out (by decide) (by decide) HN.out.2.2.2.1 HN.out.2.2.2.2.1)
                    replace HS0 := Aside0.mk (hfx.blk HS0.out (by decide) HN.out.2.2.2.2.2)
                    replace HU1 := Aside0.mk (hfx.R rfl HU1.out (by decide) (fun k hk => (Hub.out k hk).2))
                    replace HV1 := Aside0.mk (hfx.R rfl HV1.out (by decide) (fun k hk => (Hvb.out k hk).2))
                    replace HB0 := Aside0.mk (HB0.out.trans hfx.1)
                    replace HK0 := Aside0.mk hk
                    replace HP := Aside0.mk hp
                    clear hk hp hu2 hfx Hn2
                    go_wp2_with fail
                    refine (film_unlike_nil gf qf X0 a _ HX0.out hx0.out ha2.out).mono ?_
                    rintro e w15 ⟨ws, rfl, hw, hB⟩
                    rw [unl_nil X0 a ha1.out ha2.out] at hw
                    obtain ⟨gw, cw, hwe, _, _, _, hwc, _⟩ := hw.opened (by simp)
                    have y0 := (hwc 0 _ rfl).1
                    have y1 := (hwc 0 _ rfl).2
                    simp only [Nat.zero_mul, Nat.zero_add] at y0 y1
                    subst hwe
                    replace HX0 := Aside0.mk (HX0.out.keep hB)
                    replace HS0 := Aside0.mk (HS0.out.keep hB)
                    replace HK0 := Aside0.mk (HK0.out.keep hB)
                    replace HU1 := Aside0.mk (Kd.R_below HU1.out hB)
                    replace HV1 := Aside0.mk (Kd.R_below HV1.out hB)
                    replace HP := Aside0.mk (HP.out.below hB)
                    replace HB0 := Aside0.mk (below_step HB0.out hB)
                    clear hw hwc hB HY0
                    have Hsz2 : (Tryd.prog.info? 38).map (·.size) = some (setArr s).size := by rw [setArr_size, HU.out.1]; exact info38
                    have Hsh := Aside0.mk HS0.out.hd
                    have Hsz3 := Aside0.mk Hsz2
                    clear Hsz2
                    go_wp2_with ((with_reducible refine gate_ (.load 38 (.tmp 19)) rfl ?_); (first | (refine wpList_load_row rfl 38 (.tmp 19) (by rfl) gS (by rfl) 38 _ (0, 0) _ Hsh.out Tryd.underlying38 rfl Hsz3.out ?_) | (trace_state; fail)))
                    refine (set_spans s HU.out.1 _).mono ?_
                    rintro e w16 ⟨sp, rfl, hsp1, hB⟩
                    rw [← hsp.out] at hsp1
                    obtain ⟨As, cs, hse, hcs, hCs, _⟩ := hsp1.reads
                    subst hse
                    replace HX0 := Aside0.mk (HX0.out.keep hB)
                    replace HS0 := Aside0.mk (HS0.out.keep hB)
                    replace HK0 := Aside0.mk (HK0.out.keep hB)
                    replace HU1 := Aside0.mk (Kd.R_below HU1.out hB)
                    replace HV1 := Aside0.mk (Kd.R_below HV1.out hB)
                    replace HP := Aside0.mk (HP.out.below hB)
                    replace HB0 := Aside0.mk (below_step HB0.out hB)
                    have y0 := keep hB y0
                    have y1 := keep hB y1
                    have HCs := Aside0.mk hCs
                    clear hsp1 hB hCs
                    go_wp2_with fail
                    refine (emulsionbook_SameSpans.calls (T.length + 1) Au cu T As cs T true _ (C_of_R HU1.out).1 hcu HCs.out hcs (sameSpans_f T (by have := hTl'.out; omega) _ (by omega))).mono ?_
                    rintro e w17 ⟨rfl, hd⟩
                    have hB := drawnB hd
                    replace HX0 := Aside0.mk (HX0.out.keep hB)
                    replace HS0 := Aside0.mk (HS0.out.keep hB)
                    replace HK0 := Aside0.mk (HK0.out.keep hB)
                    replace HU1 := Aside0.mk (Kd.R_below HU1.out hB)
                    replace HV1 := Aside0.mk (Kd.R_below HV1.out hB)
                    replace HP := Aside0.mk (HP.out.below hB)
                    replace HB0 := Aside0.mk (below_step HB0.out hB)
                    have y0 := keep hB y0
                    have y1 := keep hB y1
                    clear hB hd HCs
                    go_wp2_with fail
                    refine (emulsionbook_SameSpans.calls (T.length + 1) Av cv T Au cu T true _ (C_of_R HV1.out).1 hcv (C_of_R HU1.out).1 hcu (sameSpans_f T (by have := hTl'.out; omega) _ (by omega))).mono ?_
                    rintro e w17 ⟨rfl, hd⟩
                    have hB := drawnB hd
                    replace HX0 := Aside0.mk (HX0.out.keep hB)
                    replace HS0 := Aside0.mk (HS0.out.keep hB)
                    replace HK0 := Aside0.mk (HK0.out.keep hB)
                    replace HU1 := Aside0.mk (Kd.R_below HU1.out hB)
                    replace HV1 := Aside0.mk (Kd.R_below HV1.out hB)
                    replace HP := Aside0.mk (HP.out.below hB)
                    replace HB0 := Aside0.mk (below_step HB0.out hB)
                    have y0 := keep hB y0
                    have y1 := keep hB y1
                    clear hB hd
                    go_wp2_with fail
                    refine (film_unlike gf qf gf qf X0 X0 a a _ HX0.out HX0.out hx0.out ha2.out hx0.out ha2.out).mono ?_
                    rintro e w18 ⟨x, rfl, hx, hB⟩
                    rw [unlV_same] at hx
                    obtain ⟨Ax, cx, hxe, _, _, _⟩ := hx.reads
                    subst hxe
                    replace HX0 := Aside0.mk (HX0.out.keep hB)
                    replace HS0 := Aside0.mk (HS0.out.keep hB)
                    replace HK0 := Aside0.mk (HK0.out.keep hB)
                    replace HU1 := Aside0.mk (Kd.R_below HU1.out hB)
                    replace HV1 := Aside0.mk (Kd.R_below HV1.out hB)
                    replace HP := Aside0.mk (HP.out.below hB)
                    replace HB0 := Aside0.mk (below_step HB0.out hB)
                    have y0 := keep hB y0
                    have y1 := keep hB y1
                    clear hB hx
                    go_wp2_with fail
                    refine (film_zero z (by omega) _).mono ?_
                    rintro e w19 ⟨rfl, hB⟩
                    replace HX0 := Aside0.mk (HX0.out.keep hB)
                    replace HS0 := Aside0.mk (HS0.out.keep hB)
                    replace HK0 := Aside0.mk (HK0.out.keep hB)
                    replace HU1 := Aside0.mk (Kd.R_below HU1.out hB)
                    replace HV1 := Aside0.mk (Kd.R_below HV1.out hB)
                    replace HP := Aside0.mk (HP.out.below hB)
                    replace HB0 := Aside0.mk (below_step HB0.out hB)
                    clear hB
                    obtain ⟨zb, hzb⟩ : ∃ q, q = zeroB z := ⟨_, rfl⟩
                    have hzr := zero_ref z (by omega)
                    rw [← hzb] at hzr ⊢
                    clear hzb
                    go_wp2_with fail
                    refine (emulsionref1_Zero.calls 1001 z zb _ hzr).mono ?_
                    rintro e w20 ⟨rfl, hd⟩
                    have hB : Below w19.heap.size w19 w20 := by first | exact hd | exact drawnB hd
                    replace HK0 := Aside0.mk (HK0.out.keep hB)
                    replace HP := Aside0.mk (HP.out.below hB)
                    replace HB0 := Aside0.mk (below_step HB0.out hB)
                    clear hB hd hzr
                    go_wp2_with fail
                    refine (apart gB w.heap.size _ _ _ _ _ _ [] [] _ _ [] [] [] _ [] _ HK0.out (Pile.nil _ _ _ _ _) HP.out (Pile.nil _ _ _ _ _) ⟨by simp, fun i l hl => by simp at hl⟩ ⟨by simp, fun i l hl => by
                      have hm := List.mem_of_getElem? hl
                      simp at hm
                      subst hm
                      have := hTl'.out
                      omega⟩ ⟨by simp, fun i l hl => by simp at hl⟩ HB0.out.size).mono ?_
                    rintro e w21 ⟨rfl, hB⟩
                    have HB9 := Aside0.mk (HB0.out.trans hB)
                    clear hB
                    go_wp2_with fail
                    go_ret
                    exact ⟨rfl, HB9.out⟩
              · have Hmx := Aside0.mk hmx
                clear hmx
                go_wp2_with fail
                go_loopg [20] a (fun kq v wq => ∃ (k : Nat) (s : List Bool), k + kq = a ∧ v = .int .i64 (k : Int) ∧ Aside0 (Below w.heap.size w wq) ∧ Aside0 (FilmAt wq gf qf X0) ∧ Aside0 (FilmAt wq gy qy X) ∧ Aside0 (Blk wq gS 38 (setArr s)) ∧ Aside0 (SetU (blkV X0 a) (blkV X b) s k))
                case atStart => exact ⟨0, _, by omega, rfl, HB9, HX9, HY9, HS9, ⟨SetU.zero _ _⟩⟩
                case round =>
                  clear HB9 HX9 HY9 HS9
                  obtain ⟨k, s, hk, rfl, HB, HX, HY, HS, HU⟩ := hrel
                  by_cases hlt : k < a
                  · have hlt' : (k : Int) < (a : Int) := by omega
                    have hk64 : (k : Int) < 64 := by omega
                    obtain ⟨kk, rfl⟩ : ∃ z, gk = z + 1 := ⟨gk - 1, by omega⟩
                    have Hset := Aside0.mk (fun (h : blkV X0 a k ≠ blkV X b k) => HU.out.yes (by omega) h)
                    have hsl := Aside0.mk HU.out.1
                    have s0 := HS.out.cell (setArr_get s k (by rw [hsl.out]; omega))
                    have sf := HS.out.frozen k
                    rcases Nat.lt_or_ge k a with hka | hka
                    · rcases Nat.lt_or_ge k b with hkb | hkb
                      · have t1 : decide (a ≤ k) = false := decide_eq_false (by omega)
                        have t2 : decide (b ≤ k) = false := decide_eq_false (by omega)
                        obtain ⟨SX, hSX⟩ : ∃ q, q = blkS X0 k := ⟨_, rfl⟩
                        obtain ⟨SY, hSY⟩ : ∃ q, q = blkS X k := ⟨_, rfl⟩
                        have hs1 : ∀ W : World, (Instr.slice 9 (.string CX) (some (.int .i64 (wrap64 ((k : Int) * 8)))) (some (.int .i64 (wrap64 (wrap64 ((k : Int) + 1) * 8)))) none).run Tryd.prog W = .ok (.string SX) W := fun W => by
                          rw [hSX, ← hcx.out k hka, w_id (x := (k : Int) + 1) (by omega) (by omega), w_id (x := (k : Int) * 8) (by omega) (by omega), w_id (by omega) (by omega), show (k : Int) * 8 = ((k * 8 : Nat) : Int) by omega, show ((k : Int) + 1) * 8 = (((k + 1) * 8 : Nat) : Int) by omega]
                          exact run_slice_string W 9 CX .i64 .i64 ((k * 8 : Nat) : Int) (((k + 1) * 8 : Nat) : Int) Tryd.underlying9 (by omega) (by omega) (by omega)
                        have hs2 : ∀ W : World, (Instr.slice 9 (.string CY) (some (.int .i64 (wrap64 ((k : Int) * 8)))) (some (.int .i64 (wrap64 (wrap64 ((k : Int) + 1) * 8)))) none).run Tryd.prog W = .ok (.string SY) W := fun W => by
                          rw [hSY, ← hcy.out k hkb, w_id (x := (k : Int) + 1) (by omega) (by omega), w_id (x := (k : Int) * 8) (by omega) (by omega), w_id (by omega) (by omega), show (k : Int) * 8 = ((k * 8 : Nat) : Int) by omega, show ((k : Int) + 1) * 8 = (((k + 1) * 8 : Nat) : Int) by omega]
                          exact run_slice_string W 9 CY .i64 .i64 ((k * 8 : Nat) : Int) (((k + 1) * 8 : Nat) : Int) Tryd.underlying9 (by omega) (by omega) (by omega)
                        have heq : SX = SY ↔ blkV X0 a k = blkV X b k := by rw [hSX, hSY]; exact (blkV_both hka hkb).symm
                        clear hSX hSY
                        by_cases hss : SX = SY
                        · have HU1 := Aside0.mk (HU.out.no (heq.1 hss))
                          subst hss
                          clear heq
                          go_wp2_with fail
                          refine start_ (n := 25) (S := fun w' => Below w.heap.size w w' ∧ FilmAt w' gf qf X0 ∧ FilmAt w' gy qy X ∧ Blk w' gS 38 (setArr s)) (ds := []) #[false, false, false, false, false, false, false, false, false, false, false, false, false, false, false, false, false, false, false, false, false, false, false, false, false] (by kernel_rfl) rfl rfl ⟨(below_drew1 HB.out), (FilmAt.move HX.out rfl rfl), (FilmAt.move HY.out rfl rfl), HS.out.drew⟩ (fun hHeld => ?_)
                          refine pure_ (i := 0) (N := some 143) (v := ?_) (a' := ?_) #[true, false, false, false, false, false, false, false, false, false, false, false, false, false, false, false, false, false, false, false, false, false, false, false, false] rfl rfl (by kernel_rfl) (fun _ _ _ h => h) (Or.inl ⟨by rfl, ?_⟩) ?_ ?_
                          rotate_left
                          · intro w'
                            go_simp
                            with_reducible rfl
                          rotate_left
                          · simp only [Act.put, List.setIfInBounds_toArray, List.set_cons_zero, List.set_cons_succ, i64_w, i32_w]
                            rfl
                          refine pure_ (i := 1) (N := some 144) (v := ?_) (a' := ?_) #[true, true, false, false, false, false, false, false, false, false, false, false, false, false, false, false, false, false, false, false, false, false, false, false, false] rfl rfl (by kernel_rfl) (fun _ _ _ h => h) (Or.inl ⟨by rfl, ?_⟩) ?_ ?_
                          rotate_left
                          · intro w'
                            go_simp
                            with_reducible rfl
                          rotate_left
                          · simp only [Act.put, List.setIfInBounds_toArray, List.set_cons_zero, List.set_cons_succ, i64_w, i32_w]
                            rfl
                          refine pure_ (i := 2) (N := some 145) (v := ?_) (a' := ?_) #[true, true, true, false, false, false, false, false, false, false, false, false, false, false, false, false, false, false, false, false, false, false, false, false, false] rfl rfl (by kernel_rfl) (fun _ _ _ h => h) (Or.inl ⟨by rfl, ?_⟩) ?_ ?_
                          rotate_left
                          · intro w'
                            go_simp
                            with_reducible rfl
                          rotate_left
                          · simp only [Act.put, List.setIfInBounds_toArray, List.set_cons_zero, List.set_cons_succ, i64_w, i32_w]
                            rfl
                          refine pure_ (i := 3) (N := some 146) (v := ?_) (a' := ?_) #[true, true, true, true, false, false, false, false, false, false, false, false, false, false, false, false, false, false, false, false, false, false, false, false, false] rfl rfl (by kernel_rfl) (fun _ _ _ h => h) (Or.inl ⟨by rfl, ?_⟩) ?_ ?_
                          rotate_left
                          · intro w'
                            go_simp
                            with_reducible rfl
                          rotate_left
                          · simp only [Act.put, List.setIfInBounds_toArray, List.set_cons_zero, List.set_cons_succ, i64_w, i32_w]
                            rfl
                          refine pure_ (i := 4) (N := some 147) (v := ?_) (a' := ?_) #[true, true, true, true, true, false, false, false, false, false, false, false, false, false, false, false, false, false, false, false, false, false, false, false, false] rfl rfl (by kernel_rfl) (fun _ _ _ h => h) (Or.inl ⟨by rfl, ?_⟩) ?_ ?_
                          rotate_left
                          · intro w'
                            go_simp
                            with_reducible rfl
                          rotate_left
                          · simp only [Act.put, List.setIfInBounds_toArray, List.set_cons_zero, List.set_cons_succ, i64_w, i32_w]
                            rfl
                          refine pure_ (i := 5) (N := some 148) (v := ?_) (a' := ?_) #[true, true, true, true, true, true, false, false, false, false, false, false, false, false, false, false, false, false, false, false, false, false, false, false, false] rfl rfl (by kernel_rfl) (fun _ _ _ h => h) (Or.inl ⟨by rfl, ?_⟩) ?_ ?_
                          rotate_left
                          · intro w'
                            go_simp
                            with_reducible rfl
                          rotate_left
                          · simp only [Act.put, List.setIfInBounds_toArray, List.set_cons_zero, List.set_cons_succ, i64_w, i32_w]
                            rfl
                          refine pure_ (i := 6) (N := some 149) (v := ?_) (a' := ?_) #[true, true, true, true, true, true, true, false, false, false, false, false, false, false, false, false, false, false, false, false, false, false, false, false, false] rfl rfl (by kernel_rfl) (fun _ _ _ h => h) (Or.inl ⟨by rfl, ?_⟩) ?_ ?_
                          rotate_left
                          · intro w'
                            go_simp
                            with_reducible rfl
                          rotate_left
                          · simp only [Act.put, List.setIfInBounds_toArray, List.set_cons_zero, List.set_cons_succ, i64_w, i32_w]
                            rfl
                          refine pure_ (i := 7) (N := some 150) (v := ?_) (a' := ?_) #[true, true, true, true, true, true, true, true, false, false, false, false, false, false, false, false, false, false, false, false, false, false, false, false, false] rfl rfl (by kernel_rfl) (fun _ _ _ h => h) (Or.inl ⟨by rfl, ?_⟩) ?_ ?_
                          rotate_left
                          · intro w'
                            go_simp
                            with_reducible rfl
                          rotate_left
                          · simp only [Act.put, List.setIfInBounds_toArray, List.set_cons_zero, List.set_cons_succ, i64_w, i32_w]
                            rfl
                          refine pure_ (i := 8) (N := some 151) (v := ?_) (a' := ?_) #[true, true, true, true, true, true, true, true, true, false, false, false, false, false, false, false, false, false, false, false, false, false, false, false, false] rfl rfl (by kernel_rfl) (fun _ _ _ h => h) (Or.inl ⟨by rfl, ?_⟩) ?_ ?_
                          rotate_left
                          · intro w'
                            go_simp
                            with_reducible rfl
                          rotate_left
                          · simp only [Act.put, List.setIfInBounds_toArray, List.set_cons_zero, List.set_cons_succ, i64_w, i32_w]
                            rfl
                          refine pure_ (i := 9) (N := some 152) (v := ?_) (a' := ?_) #[true, true, true, true, true, true, true, true, true, true, false, false, false, false, false, false, false, false, false, false, false, false, false, false, false] rfl rfl (by kernel_rfl) (fun _ _ _ h => h) (Or.inl ⟨by rfl, ?_⟩) ?_ ?_
                          rotate_left
                          · intro w'
                            go_simp
                            with_reducible rfl
                          rotate_left
                          · simp only [Act.put, List.setIfInBounds_toArray, List.set_cons_zero, List.set_cons_succ, i64_w, i32_w]
                            rfl
                          refine pure_ (i := 10) (N := some 153) (v := ?_) (a' := ?_) #[true, true, true, true, true, true, true, true, true, true, true, false, false, false, false, false, false, false, false, false, false, false, false, false, false] rfl rfl (by kernel_rfl) (fun _ _ _ h => h) (Or.inl ⟨by rfl, ?_⟩) ?_ ?_
                          rotate_left
                          · intro w'
                            go_simp
                            with_reducible rfl
                          rotate_left
                          · simp only [Act.put, List.setIfInBounds_toArray, List.set_cons_zero, List.set_cons_succ, i64_w, i32_w]
                            rfl
                          refine pure_ (i := 11) (N := some 154) (v := ?_) (a' := ?_) #[true, true, true, true, true, true, true, true, true, true, true, true, false, false, false, false, false, false, false, false, false, false, false, false, false] rfl rfl (by kernel_rfl) (fun _ _ _ h => h) (Or.inl ⟨by rfl, ?_⟩) ?_ ?_
                          rotate_left
                          · intro w'
                            go_simp
                            with_reducible rfl
                          rotate_left
                          · simp only [Act.put, List.setIfInBounds_toArray, List.set_cons_zero, List.set_cons_succ, i64_w, i32_w]
                            rfl
                          refine pure_ (i := 12) (N := some 155) (v := ?_) (a' := ?_) #[true, true, true, true, true, true, true, true, true, true, true, true, true, false, false, false, false, false, false, false, false, false, false, false, false] rfl rfl (by kernel_rfl) (fun _ _ _ h => h) (Or.inl ⟨by rfl, ?_⟩) ?_ ?_
                          rotate_left
                          · intro w'
                            go_simp
                            with_reducible rfl
                          rotate_left
                          · simp only [Act.put, List.setIfInBounds_toArray, List.set_cons_zero, List.set_cons_succ, i64_w, i32_w]
                            rfl
                          refine pure_ (i := 13) (N := some 156) (v := ?_) (a' := ?_) #[true, true, true, true, true, true, true, true, true, true, true, true, true, true, false, false, false, false, false, false, false, false, false, false, false] rfl rfl (by kernel_rfl) (fun _ _ _ h => h) (Or.inl ⟨by rfl, ?_⟩) ?_ ?_
                          rotate_left
                          · intro w'
                            go_simp
                            with_reducible rfl
                          rotate_left
                          · simp only [Act.put, List.setIfInBounds_toArray, List.set_cons_zero, List.set_cons_succ, i64_w, i32_w]
                            rfl
                          refine pure_ (i := 14) (N := some 157) (v := ?_) (a' := ?_) #[true, true, true, true, true, true, true, true, true, true, true, true, true, true, true, false, false, false, false, false, false, false, false, false, false] rfl rfl (by kernel_rfl) (fun _ _ _ h => h) (Or.inl ⟨by rfl, ?_⟩) ?_ ?_
                          rotate_left
                          · intro w'
                            go_simp
                            with_reducible rfl
                          rotate_left
                          · simp only [Act.put, List.setIfInBounds_toArray, List.set_cons_zero, List.set_cons_succ, i64_w, i32_w]
                            rfl
                          refine pure_ (i := 15) (N := some 158) (v := ?_) (a' := ?_) #[true, true, true, true, true, true, true, true, true, true, true, true, true, true, true, true, false, false, false, false, false, false, false, false, false] rfl rfl (by kernel_rfl) (fun _ _ _ h => h) (Or.inl ⟨by rfl, ?_⟩) ?_ ?_
                          rotate_left
                          · intro w'
                            go_simp
                            with_reducible rfl
                          rotate_left
                          · simp only [Act.put, List.setIfInBounds_toArray, List.set_cons_zero, List.set_cons_succ, i64_w, i32_w]
                            rfl
                          refine pure_ (i := 16) (N := some 159) (v := ?_) (a' := ?_) #[true, true, true, true, true, true, true, true, true, true, true, true, true, true, true, true, true, false, false, false, false, false, false, false, false] rfl rfl (by kernel_rfl) (fun _ _ _ h => h) (Or.inl ⟨by rfl, ?_⟩) ?_ ?_
                          rotate_left
                          · intro w'
                            go_simp
                            with_reducible rfl
                          rotate_left
                          · simp only [Act.put, List.setIfInBounds_toArray, List.set_cons_zero, List.set_cons_succ, i64_w, i32_w]
                            rfl
                          refine pure_ (i := 17) (N := some 160) (v := ?_) (a' := ?_) #[true, true, true, true, true, true, true, true, true, true, true, true, true, true, true, true, true, true, false, false, false, false, false, false, false] rfl rfl (by kernel_rfl) (fun _ _ _ h => h) (Or.inl ⟨by rfl, ?_⟩) ?_ ?_
                          rotate_left
                          · intro w'
                            go_simp
                            with_reducible rfl
                          rotate_left
                          · simp only [Act.put, List.setIfInBounds_toArray, List.set_cons_zero, List.set_cons_succ, i64_w, i32_w]
                            rfl
                          refine pure_ (i := 18) (N := some 161) (v := ?_) (a' := ?_) #[true, true, true, true, true, true, true, true, true, true, true, true, true, true, true, true, true, true, true, false, false, false, false, false, false] rfl rfl (by kernel_rfl) (fun _ _ _ h => h) (Or.inl ⟨by rfl, ?_⟩) ?_ ?_
                          rotate_left
                          · intro w'
                            go_simp
                            with_reducible rfl
                          rotate_left
                          · simp only [Act.put, List.setIfInBounds_toArray, List.set_cons_zero, List.set_cons_succ, i64_w, i32_w]
                            rfl
                          refine pure_ (i := 19) (N := some 162) (v := ?_) (a' := ?_) #[true, true, true, true, true, true, true, true, true, true, true, true, true, true, true, true, true, true, true, true, false, false, false, false, false] rfl rfl (by kernel_rfl) (fun _ _ _ h => h) (Or.inl ⟨by rfl, ?_⟩) ?_ ?_
                          rotate_left
                          · intro w'
                            go_simp
                            with_reducible rfl
                          rotate_left
                          · simp only [Act.put, List.setIfInBounds_toArray, List.set_cons_zero, List.set_cons_succ, i64_w, i32_w]
                            rfl
                          refine pure_ (i := 20) (N := some 163) (v := ?_) (a' := ?_) #[true, true, true, true, true, true, true, true, true, true, true, true, true, true, true, true, true, true, true, true, true, false, false, false, false] rfl rfl (by kernel_rfl) (fun _ _ _ h => h) (Or.inl ⟨by rfl, ?_⟩) ?_ ?_
                          rotate_left
                          · intro w'
                            go_simp
                            with_reducible rfl
                          rotate_left
                          · simp only [Act.put, List.setIfInBounds_toArray, List.set_cons_zero, List.set_cons_succ, i64_w, i32_w]
                            rfl
                          refine pure_ (i := 21) (N := some 164) (v := ?_) (a' := ?_) #[true, true, true, true, true, true, true, true, true, true, true, true, true, true, true, true, true, true, true, true, true, true, false, false, false] rfl rfl (by kernel_rfl) (fun _ _ _ h => h) (Or.inl ⟨by rfl, ?_⟩) ?_ ?_
                          rotate_left
                          · intro w'
                            go_simp
                            with_reducible rfl
                          rotate_left
                          · simp only [Act.put, List.setIfInBounds_toArray, List.set_cons_zero, List.set_cons_succ, i64_w, i32_w]
                            rfl
                          refine pure_ (i := 22) (N := some 165) (v := ?_) (a' := ?_) #[true, true, true, true, true, true, true, true, true, true, true, true, true, true, true, true, true, true, true, true, true, true, true, false, false] rfl rfl (by kernel_rfl) (fun _ _ _ h => h) (Or.inl ⟨by rfl, ?_⟩) ?_ ?_
                          rotate_left
                          · intro w'
                            go_simp
                            with_reducible rfl
                          rotate_left
                          · simp only [Act.put, List.setIfInBounds_toArray, List.set_cons_zero, List.set_cons_succ, i64_w, i32_w]
                            rfl
                          refine pure_ (i := 23) (N := some 166) (v := ?_) (a' := ?_) #[true, true, true, true, true, true, true, true, true, true, true, true, true, true, true, true, true, true, true, true, true, true, true, true, false] rfl rfl (by kernel_rfl) (fun _ _ _ h => h) (Or.inl ⟨by rfl, ?_⟩) ?_ ?_
                          rotate_left
                          · intro w'
                            go_simp
                            with_reducible rfl
                          rotate_left
                          · simp only [Act.put, List.setIfInBounds_toArray, List.set_cons_zero, List.set_cons_succ, i64_w, i32_w]
                            rfl
                          refine pure_ (i := 24) (N := some 167) (v := ?_) (a' := ?_) #[true, true, true, true, true, true, true, true, true, true, true, true, true, true, true, true, true, true, true, true, true, true, true, true, true] rfl rfl (by kernel_rfl) (fun _ _ _ h => h) (Or.inl ⟨by rfl, ?_⟩) ?_ ?_
                          rotate_left
                          · intro w'
                            go_simp
                            with_reducible rfl
                          rotate_left
                          · simp only [Act.put, List.setIfInBounds_toArray, List.set_cons_zero, List.set_cons_succ, i64_w, i32_w]
                            rfl
                          refine done_ (by kernel_rfl) ?_
                          have HB1 := Aside0.mk hHeld.1
                          have HX1 := Aside0.mk hHeld.2.1
                          have HY1 := Aside0.mk hHeld.2.2.1
                          have HS1 := Aside0.mk hHeld.2.2.2
                          clear hHeld HB HX HY HS s0 sf
                          go_wp2_with fail
                          go_roundg kk
                          case measure => omega
                          case rel => exact ⟨k + 1, _, by omega, by go_num, HB1, HX1, HY1, HS1, HU1⟩
                        · have hne : (SX.toList == SY.toList) = false := beq_eq_false_iff_ne.2 (fun q => hss (by apply ba_ext'; simpa [ByteArray.toList_eq] using q))
                          have HU1 := Hset.out (fun q => hss (heq.2 q))
                          clear heq hss
                          go_wp2_with fail
                          refine start_ (n := 25) (S := fun w' => Below w.heap.size w w' ∧ FilmAt w' gf qf X0 ∧ FilmAt w' gy qy X ∧ Blk w' gS 38 (setArr s)) (ds := []) #[false, false, false, false, false, false, false, false, false, false, false, false, false, false, false, false, false, false, false, false, false, false, false, false, false] (by kernel_rfl) rfl rfl ⟨(below_drew1 HB.out), (FilmAt.move HX.out rfl rfl), (FilmAt.move HY.out rfl rfl), HS.out.drew⟩ (fun hHeld => ?_)
                          refine pure_ (i := 0) (N := some 143) (v := ?_) (a' := ?_) #[true, false, false, false, false, false, false, false, false, false, false, false, false, false, false, false, false, false, false, false, false, false, false, false, false] rfl rfl (by kernel_rfl) (fun _ _ _ h => h) (Or.inl ⟨by rfl, ?_⟩) ?_ ?_
                          rotate_left
                          · intro w'
                            go_simp
                            with_reducible rfl
                          rotate_left
                          · simp only [Act.put, List.setIfInBounds_toArray, List.set_cons_zero, List.set_cons_succ, i64_w, i32_w]
                            rfl
                          refine pure_ (i := 1) (N := some 144) (v := ?_) (a' := ?_) #[true, true, false, false, false, false, false, false, false, false, false, false, false, false, false, false, false, false, false, false, false, false, false, false, false] rfl rfl (by kernel_rfl) (fun _ _ _ h => h) (Or.inl ⟨by rfl, ?_⟩) ?_ ?_
                          rotate_left
                          · intro w'
                            go_simp
                            with_reducible rfl
                          rotate_left
                          · simp only [Act.put, List.setIfInBounds_toArray, List.set_cons_zero, List.set_cons_succ, i64_w, i32_w]
                            rfl
                          refine pure_ (i := 2) (N := some 145) (v := ?_) (a' := ?_) #[true, true, true, false, false, false, false, false, false, false, false, false, false, false, false, false, false, false, false, false, false, false, false, false, false] rfl rfl (by kernel_rfl) (fun _ _ _ h => h) (Or.inl ⟨by rfl, ?_⟩) ?_ ?_
                          rotate_left
                          · intro w'
                            go_simp
                            with_reducible rfl
                          rotate_left
                          · simp only [Act.put, List.setIfInBounds_toArray, List.set_cons_zero, List.set_cons_succ, i64_w, i32_w]
                            rfl
                          refine pure_ (i := 3) (N := some 146) (v := ?_) (a' := ?_) #[true, true, true, true, false, false, false, false, false, false, false, false, false, false, false, false, false, false, false, false, false, false, false, false, false] rfl rfl (by kernel_rfl) (fun _ _ _ h => h) (Or.inl ⟨by rfl, ?_⟩) ?_ ?_
                          rotate_left
                          · intro w'
                            go_simp
                            with_reducible rfl
                          rotate_left
                          · simp only [Act.put, List.setIfInBounds_toArray, List.set_cons_zero, List.set_cons_succ, i64_w, i32_w]
                            rfl
                          refine pure_ (i := 4) (N := some 147) (v := ?_) (a' := ?_) #[true, true, true, true, true, false, false, false, false, false, false, false, false, false, false, false, false, false, false, false, false, false, false, false, false] rfl rfl (by kernel_rfl) (fun _ _ _ h => h) (Or.inl ⟨by rfl, ?_⟩) ?_ ?_
                          rotate_left
                          · intro w'
                            go_simp
                            with_reducible rfl
                          rotate_left
                          · simp only [Act.put, List.setIfInBounds_toArray, List.set_cons_zero, List.set_cons_succ, i64_w, i32_w]
                            rfl
                          refine pure_ (i := 5) (N := some 148) (v := ?_) (a' := ?_) #[true, true, true, true, true, true, false, false, false, false, false, false, false, false, false, false, false, false, false, false, false, false, false, false, false] rfl rfl (by kernel_rfl) (fun _ _ _ h => h) (Or.inl ⟨by rfl, ?_⟩) ?_ ?_
                          rotate_left
                          · intro w'
                            go_simp
                            with_reducible rfl
                          rotate_left
                          · simp only [Act.put, List.setIfInBounds_toArray, List.set_cons_zero, List.set_cons_succ, i64_w, i32_w]
                            rfl
                          refine pure_ (i := 6) (N := some 149) (v := ?_) (a' := ?_) #[true, true, true, true, true, true, true, false, false, false, false, false, false, false, false, false, false, false, false, false, false, false, false, false, false] rfl rfl (by kernel_rfl) (fun _ _ _ h => h) (Or.inl ⟨by rfl, ?_⟩) ?_ ?_
                          rotate_left
                          · intro w'
                            go_simp
                            with_reducible rfl
                          rotate_left
                          · simp only [Act.put, List.setIfInBounds_toArray, List.set_cons_zero, List.set_cons_succ, i64_w, i32_w]
                            rfl
                          refine pure_ (i := 7) (N := some 150) (v := ?_) (a' := ?_) #[true, true, true, true, true, true, true, true, false, false, false, false, false, false, false, false, false, false, false, false, false, false, false, false, false] rfl rfl (by kernel_rfl) (fun _ _ _ h => h) (Or.inl ⟨by rfl, ?_⟩) ?_ ?_
                          rotate_left
                          · intro w'
                            go_simp
                            with_reducible rfl
                          rotate_left
                          · simp only [Act.put, List.setIfInBounds_toArray, List.set_cons_zero, List.set_cons_succ, i64_w, i32_w]
                            rfl
                          refine pure_ (i := 8) (N := some 151) (v := ?_) (a' := ?_) #[true, true, true, true, true, true, true, true, true, false, false, false, false, false, false, false, false, false, false, false, false, false, false, false, false] rfl rfl (by kernel_rfl) (fun _ _ _ h => h) (Or.inl ⟨by rfl, ?_⟩) ?_ ?_
                          rotate_left
                          · intro w'
                            go_simp
                            with_reducible rfl
                          rotate_left
                          · simp only [Act.put, List.setIfInBounds_toArray, List.set_cons_zero, List.set_cons_succ, i64_w, i32_w]
                            rfl
                          refine pure_ (i := 9) (N := some 152) (v := ?_) (a' := ?_) #[true, true, true, true, true, true, true, true, true, true, false, false, false, false, false, false, false, false, false, false, false, false, false, false, false] rfl rfl (by kernel_rfl) (fun _ _ _ h => h) (Or.inl ⟨by rfl, ?_⟩) ?_ ?_
                          rotate_left
                          · intro w'
                            go_simp
                            with_reducible rfl
                          rotate_left
                          · simp only [Act.put, List.setIfInBounds_toArray, List.set_cons_zero, List.set_cons_succ, i64_w, i32_w]
                            rfl
                          refine pure_ (i := 10) (N := some 153) (v := ?_) (a' := ?_) #[true, true, true, true, true, true, true, true, true, true, true, false, false, false, false, false, false, false, false, false, false, false, false, false, false] rfl rfl (by kernel_rfl) (fun _ _ _ h => h) (Or.inl ⟨by rfl, ?_⟩) ?_ ?_
                          rotate_left
                          · intro w'
                            go_simp
                            with_reducible rfl
                          rotate_left
                          · simp only [Act.put, List.setIfInBounds_toArray, List.set_cons_zero, List.set_cons_succ, i64_w, i32_w]
                            rfl
                          refine pure_ (i := 11) (N := some 154) (v := ?_) (a' := ?_) #[true, true, true, true, true, true, true, true, true, true, true, true, false, false, false, false, false, false, false, false, false, false, false, false, false] rfl rfl (by kernel_rfl) (fun _ _ _ h => h) (Or.inl ⟨by rfl, ?_⟩) ?_ ?_
                          rotate_left
                          · intro w'
                            go_simp
                            with_reducible rfl
                          rotate_left
                          · simp only [Act.put, List.setIfInBounds_toArray, List.set_cons_zero, List.set_cons_succ, i64_w, i32_w]
                            rfl
                          refine pure_ (i := 12) (N := some 155) (v := ?_) (a' := ?_) #[true, true, true, true, true, true, true, true, true, true, true, true, true, false, false, false, false, false, false, false, false, false, false, false, false] rfl rfl (by kernel_rfl) (fun _ _ _ h => h) (Or.inl ⟨by rfl, ?_⟩) ?_ ?_
                          rotate_left
                          · intro w'
                            go_simp
                            with_reducible rfl
                          rotate_left
                          · simp only [Act.put, List.setIfInBounds_toArray, List.set_cons_zero, List.set_cons_succ, i64_w, i32_w]
                            rfl
                          refine pure_ (i := 13) (N := some 156) (v := ?_) (a' := ?_) #[true, true, true, true, true, true, true, true, true, true, true, true, true, true, false, false, false, false, false, false, false, false, false, false, false] rfl rfl (by kernel_rfl) (fun _ _ _ h => h) (Or.inl ⟨by rfl, ?_⟩) ?_ ?_
                          rotate_left
                          · intro w'
                            go_simp
                            with_reducible rfl
                          rotate_left
                          · simp only [Act.put, List.setIfInBounds_toArray, List.set_cons_zero, List.set_cons_succ, i64_w, i32_w]
                            rfl
                          refine pure_ (i := 14) (N := some 157) (v := ?_) (a' := ?_) #[true, true, true, true, true, true, true, true, true, true, true, true, true, true, true, false, false, false, false, false, false, false, false, false, false] rfl rfl (by kernel_rfl) (fun _ _ _ h => h) (Or.inl ⟨by rfl, ?_⟩) ?_ ?_
                          rotate_left
                          · intro w'
                            go_simp
                            with_reducible rfl
                          rotate_left
                          · simp only [Act.put, List.setIfInBounds_toArray, List.set_cons_zero, List.set_cons_succ, i64_w, i32_w]
                            rfl
                          refine pure_ (i := 15) (N := some 158) (v := ?_) (a' := ?_) #[true, true, true, true, true, true, true, true, true, true, true, true, true, true, true, true, false, false, false, false, false, false, false, false, false] rfl rfl (by kernel_rfl) (fun _ _ _ h => h) (Or.inl ⟨by rfl, ?_⟩) ?_ ?_
                          rotate_left
                          · intro w'
                            go_simp
                            with_reducible rfl
                          rotate_left
                          · simp only [Act.put, List.setIfInBounds_toArray, List.set_cons_zero, List.set_cons_succ, i64_w, i32_w]
                            rfl
                          refine pure_ (i := 16) (N := some 159) (v := ?_) (a' := ?_) #[true, true, true, true, true, true, true, true, true, true, true, true, true, true, true, true, true, false, false, false, false, false, false, false, false] rfl rfl (by kernel_rfl) (fun _ _ _ h => h) (Or.inl ⟨by rfl, ?_⟩) ?_ ?_
                          rotate_left
                          · intro w'
                            go_simp
                            with_reducible rfl
                          rotate_left
                          · simp only [Act.put, List.setIfInBounds_toArray, List.set_cons_zero, List.set_cons_succ, i64_w, i32_w]
                            rfl
                          refine pure_ (i := 17) (N := some 160) (v := ?_) (a' := ?_) #[true, true, true, true, true, true, true, true, true, true, true, true, true, true, true, true, true, true, false, false, false, false, false, false, false] rfl rfl (by kernel_rfl) (fun _ _ _ h => h) (Or.inl ⟨by rfl, ?_⟩) ?_ ?_
                          rotate_left
                          · intro w'
                            go_simp
                            with_reducible rfl
                          rotate_left
                          · simp only [Act.put, List.setIfInBounds_toArray, List.set_cons_zero, List.set_cons_succ, i64_w, i32_w]
                            rfl
                          refine pure_ (i := 18) (N := some 161) (v := ?_) (a' := ?_) #[true, true, true, true, true, true, true, true, true, true, true, true, true, true, true, true, true, true, true, false, false, false, false, false, false] rfl rfl (by kernel_rfl) (fun _ _ _ h => h) (Or.inl ⟨by rfl, ?_⟩) ?_ ?_
                          rotate_left
                          · intro w'
                            go_simp
                            with_reducible rfl
                          rotate_left
                          · simp only [Act.put, List.setIfInBounds_toArray, List.set_cons_zero, List.set_cons_succ, i64_w, i32_w]
                            rfl
                          refine pure_ (i := 19) (N := some 162) (v := ?_) (a' := ?_) #[true, true, true, true, true, true, true, true, true, true, true, true, true, true, true, true, true, true, true, true, false, false, false, false, false] rfl rfl (by kernel_rfl) (fun _ _ _ h => h) (Or.inl ⟨by rfl, ?_⟩) ?_ ?_
                          rotate_left
                          · intro w'
                            go_simp
                            with_reducible rfl
                          rotate_left
                          · simp only [Act.put, List.setIfInBounds_toArray, List.set_cons_zero, List.set_cons_succ, i64_w, i32_w]
                            rfl
                          refine pure_ (i := 20) (N := some 163) (v := ?_) (a' := ?_) #[true, true, true, true, true, true, true, true, true, true, true, true, true, true, true, true, true, true, true, true, true, false, false, false, false] rfl rfl (by kernel_rfl) (fun _ _ _ h => h) (Or.inl ⟨by rfl, ?_⟩) ?_ ?_
                          rotate_left
                          · intro w'
                            go_simp
                            with_reducible rfl
                          rotate_left
                          · simp only [Act.put, List.setIfInBounds_toArray, List.set_cons_zero, List.set_cons_succ, i64_w, i32_w]
                            rfl
                          refine pure_ (i := 21) (N := some 164) (v := ?_) (a' := ?_) #[true, true, true, true, true, true, true, true, true, true, true, true, true, true, true, true, true, true, true, true, true, true, false, false, false] rfl rfl (by kernel_rfl) (fun _ _ _ h => h) (Or.inl ⟨by rfl, ?_⟩) ?_ ?_
                          rotate_left
                          · intro w'
                            go_simp
                            with_reducible rfl
                          rotate_left
                          · simp only [Act.put, List.setIfInBounds_toArray, List.set_cons_zero, List.set_cons_succ, i64_w, i32_w]
                            rfl
                          refine pure_ (i := 22) (N := some 165) (v := ?_) (a' := ?_) #[true, true, true, true, true, true, true, true, true, true, true, true, true, true, true, true, true, true, true, true, true, true, true, false, false] rfl rfl (by kernel_rfl) (fun _ _ _ h => h) (Or.inl ⟨by rfl, ?_⟩) ?_ ?_
                          rotate_left
                          · intro w'
                            go_simp
                            with_reducible rfl
                          rotate_left
                          · simp only [Act.put, List.setIfInBounds_toArray, List.set_cons_zero, List.set_cons_succ, i64_w, i32_w]
                            rfl
                          refine pure_ (i := 23) (N := some 166) (v := ?_) (a' := ?_) #[true, true, true, true, true, true, true, true, true, true, true, true, true, true, true, true, true, true, true, true, true, true, true, true, false] rfl rfl (by kernel_rfl) (fun _ _ _ h => h) (Or.inl ⟨by rfl, ?_⟩) ?_ ?_
                          rotate_left
                          · intro w'
                            go_simp
                            with_reducible rfl
                          rotate_left
                          · simp only [Act.put, List.setIfInBounds_toArray, List.set_cons_zero, List.set_cons_succ, i64_w, i32_w]
                            rfl
                          refine pure_ (i := 24) (N := some 167) (v := ?_) (a' := ?_) #[true, true, true, true, true, true, true, true, true, true, true, true, true, true, true, true, true, true, true, true, true, true, true, true, true] rfl rfl (by kernel_rfl) (fun _ _ _ h => h) (Or.inl ⟨by rfl, ?_⟩) ?_ ?_
                          rotate_left
                          · intro w'
                            go_simp
                            with_reducible rfl
                          rotate_left
                          · simp only [Act.put, List.setIfInBounds_toArray, List.set_cons_zero, List.set_cons_succ, i64_w, i32_w]
                            rfl
                          refine done_ (by kernel_rfl) ?_
                          have s1 := hHeld.2.2.2.cell (setArr_get s k (by rw [hsl.out]; omega))
                          have sf1 := hHeld.2.2.2.frozen k
                          have HB1 := Aside0.mk (hHeld.1.setCell (p := ⟨gS, k, none⟩) HgS.out (.bool true))
                          have HX1 := Aside0.mk (hHeld.2.1.far (j := k) hHeld.2.2.2 (by decide) (by decide) (.bool true))
                          have HY1 := Aside0.mk (hHeld.2.2.1.far (j := k) hHeld.2.2.2 (by decide) (by decide) (.bool true))
                          have HS1 := Aside0.mk (hHeld.2.2.2.set_ k (.bool true))
                          rw [setArr_set] at HS1
                          clear hHeld HB HX HY HS s0 sf
                          go_wp2_with fail
                          go_roundg kk
                          case measure => omega
                          case rel => exact ⟨k + 1, _, by omega, by go_num, HB1, HX1, HY1, HS1, ⟨HU1⟩⟩
                      · have t1 : decide (a ≤ k) = false := decide_eq_false (by omega)
                        have t2 : decide (b ≤ k) = true := decide_eq_true (by omega)
                        have HU1 := Hset.out (blkV_right hka hkb)
                        go_wp2_with fail
                        refine start_ (n := 25) (S := fun w' => Below w.heap.size w w' ∧ FilmAt w' gf qf X0 ∧ FilmAt w' gy qy X ∧ Blk w' gS 38 (setArr s)) (ds := []) #[false, false, false, false, false, false, false, false, false, false, false, false, false, false, false, false, false, false, false, false, false, false, false, false, false] (by kernel_rfl) rfl rfl ⟨(below_drew1 HB.out), (FilmAt.move HX.out rfl rfl), (FilmAt.move HY.out rfl rfl), HS.out.drew⟩ (fun hHeld => ?_)
                        refine pure_ (i := 0) (N := some 143) (v := ?_) (a' := ?_) #[true, false, false, false, false, false, false, false, false, false, false, false, false, false, false, false, false, false, false, false, false, false, false, false, false] rfl rfl (by kernel_rfl) (fun _ _ _ h => h) (Or.inl ⟨by rfl, ?_⟩) ?_ ?_
                        rotate_left
                        · intro w'
                          go_simp
                          with_reducible rfl
                        rotate_left
                        · simp only [Act.put, List.setIfInBounds_toArray, List.set_cons_zero, List.set_cons_succ, i64_w, i32_w]
                          rfl
                        refine pure_ (i := 1) (N := some 144) (v := ?_) (a' := ?_) #[true, true, false, false, false, false, false, false, false, false, false, false, false, false, false, false, false, false, false, false, false, false, false, false, false] rfl rfl (by kernel_rfl) (fun _ _ _ h => h) (Or.inl ⟨by rfl, ?_⟩) ?_ ?_
                        rotate_left
                        · intro w'
                          go_simp
                          with_reducible rfl
                        rotate_left
                        · simp only [Act.put, List.setIfInBounds_toArray, List.set_cons_zero, List.set_cons_succ, i64_w, i32_w]
                          rfl
                        refine pure_ (i := 2) (N := some 145) (v := ?_) (a' := ?_) #[true, true, true, false, false, false, false, false, false, false, false, false, false, false, false, false, false, false, false, false, false, false, false, false, false] rfl rfl (by kernel_rfl) (fun _ _ _ h => h) (Or.inl ⟨by rfl, ?_⟩) ?_ ?_
                        rotate_left
                        · intro w'
                          go_simp
                          with_reducible rfl
                        rotate_left
                        · simp only [Act.put, List.setIfInBounds_toArray, List.set_cons_zero, List.set_cons_succ, i64_w, i32_w]
                          rfl
                        refine pure_ (i := 3) (N := some 146) (v := ?_) (a' := ?_) #[true, true, true, true, false, false, false, false, false, false, false, false, false, false, false, false, false, false, false, false, false, false, false, false, false] rfl rfl (by kernel_rfl) (fun _ _ _ h => h) (Or.inl ⟨by rfl, ?_⟩) ?_ ?_
                        rotate_left
                        · intro w'
                          go_simp
                          with_reducible rfl
                        rotate_left
                        · simp only [Act.put, List.setIfInBounds_toArray, List.set_cons_zero, List.set_cons_succ, i64_w, i32_w]
                          rfl
                        refine pure_ (i := 4) (N := some 147) (v := ?_) (a' := ?_) #[true, true, true, true, true, false, false, false, false, false, false, false, false, false, false, false, false, false, false, false, false, false, false, false, false] rfl rfl (by kernel_rfl) (fun _ _ _ h => h) (Or.inl ⟨by rfl, ?_⟩) ?_ ?_
                        rotate_left
                        · intro w'
                          go_simp
                          with_reducible rfl
                        rotate_left
                        · simp only [Act.put, List.setIfInBounds_toArray, List.set_cons_zero, List.set_cons_succ, i64_w, i32_w]
                          rfl
                        refine pure_ (i := 5) (N := some 148) (v := ?_) (a' := ?_) #[true, true, true, true, true, true, false, false, false, false, false, false, false, false, false, false, false, false, false, false, false, false, false, false, false] rfl rfl (by kernel_rfl) (fun _ _ _ h => h) (Or.inl ⟨by rfl, ?_⟩) ?_ ?_
                        rotate_left
                        · intro w'
                          go_simp
                          with_reducible rfl
                        rotate_left
                        · simp only [Act.put, List.setIfInBounds_toArray, List.set_cons_zero, List.set_cons_succ, i64_w, i32_w]
                          rfl
                        refine pure_ (i := 6) (N := some 149) (v := ?_) (a' := ?_) #[true, true, true, true, true, true, true, false, false, false, false, false, false, false, false, false, false, false, false, false, false, false, false, false, false] rfl rfl (by kernel_rfl) (fun _ _ _ h => h) (Or.inl ⟨by rfl, ?_⟩) ?_ ?_
                        rotate_left
                        · intro w'
                          go_simp
                          with_reducible rfl
                        rotate_left
                        · simp only [Act.put, List.setIfInBounds_toArray, List.set_cons_zero, List.set_cons_succ, i64_w, i32_w]
                          rfl
                        refine pure_ (i := 7) (N := some 150) (v := ?_) (a' := ?_) #[true, true, true, true, true, true, true, true, false, false, false, false, false, false, false, false, false, false, false, false, false, false, false, false, false] rfl rfl (by kernel_rfl) (fun _ _ _ h => h) (Or.inl ⟨by rfl, ?_⟩) ?_ ?_
                        rotate_left
                        · intro w'
                          go_simp
                          with_reducible rfl
                        rotate_left
                        · simp only [Act.put, List.setIfInBounds_toArray, List.set_cons_zero, List.set_cons_succ, i64_w, i32_w]
                          rfl
                        refine pure_ (i := 8) (N := some 151) (v := ?_) (a' := ?_) #[true, true, true, true, true, true, true, true, true, false, false, false, false, false, false, false, false, false, false, false, false, false, false, false, false] rfl rfl (by kernel_rfl) (fun _ _ _ h => h) (Or.inl ⟨by rfl, ?_⟩) ?_ ?_
                        rotate_left
                        · intro w'
                          go_simp
                          with_reducible rfl
                        rotate_left
                        · simp only [Act.put, List.setIfInBounds_toArray, List.set_cons_zero, List.set_cons_succ, i64_w, i32_w]
                          rfl
                        refine pure_ (i := 9) (N := some 152) (v := undef) (a' := ?_) #[true, true, true, true, true, true, true, true, true, true, false, false, false, false, false, false, false, false, false, false, false, false, false, false, false] rfl rfl (by kernel_rfl) (fun _ _ _ h => h) (Or.inr ⟨by rfl, rfl⟩) ?_ ?_
                        rotate_left
                        · simp only [Act.put, List.setIfInBounds_toArray, List.set_cons_zero, List.set_cons_succ, i64_w, i32_w]
                          rfl
                        refine pure_ (i := 10) (N := some 153) (v := undef) (a' := ?_) #[true, true, true, true, true, true, true, true, true, true, true, false, false, false, false, false, false, false, false, false, false, false, false, false, false] rfl rfl (by kernel_rfl) (fun _ _ _ h => h) (Or.inr ⟨by rfl, rfl⟩) ?_ ?_
                        rotate_left
                        · simp only [Act.put, List.setIfInBounds_toArray, List.set_cons_zero, List.set_cons_succ, i64_w, i32_w]
                          rfl
                        refine pure_ (i := 11) (N := some 154) (v := undef) (a' := ?_) #[true, true, true, true, true, true, true, true, true, true, true, true, false, false, false, false, false, false, false, false, false, false, false, false, false] rfl rfl (by kernel_rfl) (fun _ _ _ h => h) (Or.inr ⟨by rfl, rfl⟩) ?_ ?_
                        rotate_left
                        · simp only [Act.put, List.setIfInBounds_toArray, List.set_cons_zero, List.set_cons_succ, i64_w, i32_w]
                          rfl
                        refine pure_ (i := 12) (N := some 155) (v := undef) (a' := ?_) #[true, true, true, true, true, true, true, true, true, true, true, true, true, false, false, false, false, false, false, false, false, false, false, false, false] rfl rfl (by kernel_rfl) (fun _ _ _ h => h) (Or.inr ⟨by rfl, rfl⟩) ?_ ?_
                        rotate_left
                        · simp only [Act.put, List.setIfInBounds_toArray, List.set_cons_zero, List.set_cons_succ, i64_w, i32_w]
                          rfl
                        refine pure_ (i := 13) (N := some 156) (v := undef) (a' := ?_) #[true, true, true, true, true, true, true, true, true, true, true, true, true, true, false, false, false, false, false, false, false, false, false, false, false] rfl rfl (by kernel_rfl) (fun _ _ _ h => h) (Or.inr ⟨by rfl, rfl⟩) ?_ ?_
                        rotate_left
                        · simp only [Act.put, List.setIfInBounds_toArray, List.set_cons_zero, List.set_cons_succ, i64_w, i32_w]
                          rfl
                        refine pure_ (i := 14) (N := some 157) (v := undef) (a' := ?_) #[true, true, true, true, true, true, true, true, true, true, true, true, true, true, true, false, false, false, false, false, false, false, false, false, false] rfl rfl (by kernel_rfl) (fun _ _ _ h => h) (Or.inr ⟨by rfl, rfl⟩) ?_ ?_
                        rotate_left
                        · simp only [Act.put, List.setIfInBounds_toArray, List.set_cons_zero, List.set_cons_succ, i64_w, i32_w]
                          rfl
                        refine pure_ (i := 15) (N := some 158) (v := undef) (a' := ?_) #[true, true, true, true, true, true, true, true, true, true, true, true, true, true, true, true, false, false, false, false, false, false, false, false, false] rfl rfl (by kernel_rfl) (fun _ _ _ h => h) (Or.inr ⟨by rfl, rfl⟩) ?_ ?_
                        rotate_left
                        · simp only [Act.put, List.setIfInBounds_toArray, List.set_cons_zero, List.set_cons_succ, i64_w, i32_w]
                          rfl
                        refine pure_ (i := 16) (N := some 159) (v := undef) (a' := ?_) #[true, true, true, true, true, true, true, true, true, true, true, true, true, true, true, true, true, false, false, false, false, false, false, false, false] rfl rfl (by kernel_rfl) (fun _ _ _ h => h) (Or.inr ⟨by rfl, rfl⟩) ?_ ?_
                        rotate_left
                        · simp only [Act.put, List.setIfInBounds_toArray, List.set_cons_zero, List.set_cons_succ, i64_w, i32_w]
                          rfl
                        refine pure_ (i := 17) (N := some 160) (v := undef) (a' := ?_) #[true, true, true, true, true, true, true, true, true, true, true, true, true, true, true, true, true, true, false, false, false, false, false, false, false] rfl rfl (by kernel_rfl) (fun _ _ _ h => h) (Or.inr ⟨by rfl, rfl⟩) ?_ ?_
                        rotate_left
                        · simp only [Act.put, List.setIfInBounds_toArray, List.set_cons_zero, List.set_cons_succ, i64_w, i32_w]
                          rfl
                        refine pure_ (i := 18) (N := some 161) (v := undef) (a' := ?_) #[true, true, true, true, true, true, true, true, true, true, true, true, true, true, true, true, true, true, true, false, false, false, false, false, false] rfl rfl (by kernel_rfl) (fun _ _ _ h => h) (Or.inr ⟨by rfl, rfl⟩) ?_ ?_
                        rotate_left
                        · simp only [Act.put, List.setIfInBounds_toArray, List.set_cons_zero, List.set_cons_succ, i64_w, i32_w]
                          rfl
                        refine pure_ (i := 19) (N := some 162) (v := undef) (a' := ?_) #[true, true, true, true, true, true, true, true, true, true, true, true, true, true, true, true, true, true, true, true, false, false, false, false, false] rfl rfl (by kernel_rfl) (fun _ _ _ h => h) (Or.inr ⟨by rfl, rfl⟩) ?_ ?_
                        rotate_left
                        · simp only [Act.put, List.setIfInBounds_toArray, List.set_cons_zero, List.set_cons_succ, i64_w, i32_w]
                          rfl
                        refine pure_ (i := 20) (N := some 163) (v := undef) (a' := ?_) #[true, true, true, true, true, true, true, true, true, true, true, true, true, true, true, true, true, true, true, true, true, false, false, false, false] rfl rfl (by kernel_rfl) (fun _ _ _ h => h) (Or.inr ⟨by rfl, rfl⟩) ?_ ?_
                        rotate_left
                        · simp only [Act.put, List.setIfInBounds_toArray, List.set_cons_zero, List.set_cons_succ, i64_w, i32_w]
                          rfl
                        refine pure_ (i := 21) (N := some 164) (v := undef) (a' := ?_) #[true, true, true, true, true, true, true, true, true, true, true, true, true, true, true, true, true, true, true, true, true, true, false, false, false] rfl rfl (by kernel_rfl) (fun _ _ _ h => h) (Or.inr ⟨by rfl, rfl⟩) ?_ ?_
                        rotate_left
                        · simp only [Act.put, List.setIfInBounds_toArray, List.set_cons_zero, List.set_cons_succ, i64_w, i32_w]
                          rfl
                        refine pure_ (i := 22) (N := some 165) (v := undef) (a' := ?_) #[true, true, true, true, true, true, true, true, true, true, true, true, true, true, true, true, true, true, true, true, true, true, true, false, false] rfl rfl (by kernel_rfl) (fun _ _ _ h => h) (Or.inr ⟨by rfl, rfl⟩) ?_ ?_
                        rotate_left
                        · simp only [Act.put, List.setIfInBounds_toArray, List.set_cons_zero, List.set_cons_succ, i64_w, i32_w]
                          rfl
                        refine pure_ (i := 23) (N := some 166) (v := undef) (a' := ?_) #[true, true, true, true, true, true, true, true, true, true, true, true, true, true, true, true, true, true, true, true, true, true, true, true, false] rfl rfl (by kernel_rfl) (fun _ _ _ h => h) (Or.inr ⟨by rfl, rfl⟩) ?_ ?_
                        rotate_left
                        · simp only [Act.put, List.setIfInBounds_toArray, List.set_cons_zero, List.set_cons_succ, i64_w, i32_w]
                          rfl
                        refine pure_ (i := 24) (N := some 167) (v := ?_) (a' := ?_) #[true, true, true, true, true, true, true, true, true, true, true, true, true, true, true, true, true, true, true, true, true, true, true, true, true] rfl rfl (by kernel_rfl) (fun _ _ _ h => h) (Or.inl ⟨by rfl, ?_⟩) ?_ ?_
                        rotate_left
                        · intro w'
                          go_simp
                          with_reducible rfl
                        rotate_left
                        · simp only [Act.put, List.setIfInBounds_toArray, List.set_cons_zero, List.set_cons_succ, i64_w, i32_w]
                          rfl
                        refine done_ (by kernel_rfl) ?_
                        have s1 := hHeld.2.2.2.cell (setArr_get s k (by rw [hsl.out]; omega))
                        have sf1 := hHeld.2.2.2.frozen k
                        have HB1 := Aside0.mk (hHeld.1.setCell (p := ⟨gS, k, none⟩) HgS.out (.bool true))
                        have HX1 := Aside0.mk (hHeld.2.1.far (j := k) hHeld.2.2.2 (by decide) (by decide) (.bool true))
                        have HY1 := Aside0.mk (hHeld.2.2.1.far (j := k) hHeld.2.2.2 (by decide) (by decide) (.bool true))
                        have HS1 := Aside0.mk (hHeld.2.2.2.set_ k (.bool true))
                        rw [setArr_set] at HS1
                        clear hHeld HB HX HY HS s0 sf
                        go_wp2_with fail
                        go_roundg kk
                        case measure => omega
                        case rel => exact ⟨k + 1, _, by omega, by go_num, HB1, HX1, HY1, HS1, ⟨HU1⟩⟩
                    · exact absurd hlt (by omega)
                  · obtain rfl : a = k := by omega
                    have hlt' : ¬ (a : Int) < (a : Int) := by omega
                    have hsp := Aside0.mk (HU.out.all (by omega))
                    obtain ⟨T, hT⟩ : ∃ T, T = unlV (blkV X0 a) (blkV X b) a := ⟨_, rfl⟩
                    have HT := Aside0.mk hT
                    have hTl : T.length ≤ 65 := by rw [hT]; have := (unlV_spec (blkV X0 a) (blkV X b) a (by omega)).1.length (by decide); omega
                    rw [← hT] at hsp
                    have hTl' := Aside0.mk hTl
                    clear hT hTl
                    have hm1 : Aside0 (unlV (blkV X0 a) (blkV X b) (max a b) = T) := ⟨by rw [HT.out, Hmx.out]⟩
                    have hm2 : Aside0 (unlV (blkV X b) (blkV X0 a) (max b a) = T) := ⟨by rw [HT.out, Nat.max_comm, Hmx.out, unlV_comm]⟩
                    have HB0 := Aside0.mk (below_alloc HB.out (.cells (bookC (.slice none 0 0) (.slice none 0 0) (.slice none 0 0) (.slice none 0 0) (.slice none 0 0) (.slice none 0 0)) 48))
                    have HX0 := Aside0.mk (HX.out.keep (below_alloc (Below.refl _ _) (.cells (bookC (.slice none 0 0) (.slice none 0 0) (.slice none 0 0) (.slice none 0 0) (.slice none 0 0) (.slice none 0 0)) 48)))
                    have HY0 := Aside0.mk (HY.out.keep (below_alloc (Below.refl _ _) (.cells (bookC (.slice none 0 0) (.slice none 0 0) (.slice none 0 0) (.slice none 0 0) (.slice none 0 0) (.slice none 0 0)) 48)))
                    have HS0 := Aside0.mk (HS.out.alloc (.cells (bookC (.slice none 0 0) (.slice none 0 0) (.slice none 0 0) (.slice none 0 0) (.slice none 0 0) (.slice none 0 0)) 48))
                    have HK0 := Aside0.mk (Blk.new wr 48 (bookC (.slice none 0 0) (.slice none 0 0) (.slice none 0 0) (.slice none 0 0) (.slice none 0 0) (.slice none 0 0)))
                    obtain ⟨gB, hgB⟩ : ∃ g, g = wr.heap.size := ⟨_, rfl⟩
                    have HN : Aside0 (w.heap.size ≤ gB ∧ gf ≠ gB ∧ qf ≠ gB ∧ gy ≠ gB ∧ qy ≠ gB ∧ gS ≠ gB) := ⟨by have h1 := HB.out.size; have h2 := HX.out.lt; have h3 := HY.out.lt; have h4 := HS.out.lt; omega⟩
                    clear HB HX HY HS
                    go_wp2_with fail
                    rw [← hgB] at HK0 ⊢
                    clear hgB
                    refine (film_unlike gf qf gy qy X0 X a b _ HX0.out HY0.out hx0.out ha2.out hll.out hb2.out).mono ?_
                    rintro e w11 ⟨u, rfl, hu, hB⟩
                    rw [hm1.out] at hu
                    have HU1 := Aside0.mk (Kd.R_lower hu.to_R HB0.out.size)
                    replace HB0 := Aside0.mk (below_step HB0.out hB)
                    replace HX0 := Aside0.mk (HX0.out.keep hB)
                    replace HY0 := Aside0.mk (HY0.out.keep hB)
                    replace HS0 := Aside0.mk (HS0.out.keep hB)
                    replace HK0 := Aside0.mk (HK0.out.keep hB)
                    have Hub : Aside0 (∀ k, u.ownBlock = some k → k < w11.heap.size ∧ k ≠ gB) := ⟨fun k hk => ⟨Kd.R_lt HU1.out k hk, fun e => own_ne hu HK0.out.hd (by decide) (by rw [hk, e])⟩⟩
                    clear hu hB
                    obtain ⟨Au, cu, hue, hcu, hCu⟩ := Kd.R_reads HU1.out
                    subst hue
                    have hCu' := Aside0.mk hCu
                    clear hCu
                    go_wp2_with fail
                    refine (film_unlike gy qy gf qf X X0 b a _ HY0.out HX0.out hll.out hb2.out hx0.out ha2.out).mono ?_
                    rintro e w12 ⟨v, rfl, hv, hB⟩
                    rw [hm2.out] at hv
                    have HV1 := Aside0.mk (Kd.R_lower hv.to_R HB0.out.size)
                    replace HU1 := Aside0.mk (Kd.R_below HU1.out hB)
                    replace HB0 := Aside0.mk (below_step HB0.out hB)
                    replace HX0 := Aside0.mk (HX0.out.keep hB)
                    replace HY0 := Aside0.mk (HY0.out.keep hB)
                    replace HS0 := Aside0.mk (HS0.out.keep hB)
                    replace HK0 := Aside0.mk (HK0.out.keep hB)
                    have Huv : Aside0 (NeRow (.slice Au T.length cu) v) := ⟨fun k hk hk' => by have h1 := (Hub.out k hk).1; have h2 := own_base hv k hk'; omega⟩
                    have Hvb : Aside0 (∀ k, v.ownBlock = some k → k < w12.heap.size ∧ k ≠ gB) := ⟨fun k hk => ⟨Kd.R_lt HV1.out k hk, fun e => own_ne hv HK0.out.hd (by decide) (by rw [hk, e])⟩⟩
                    clear hv hB hCu'
                    obtain ⟨Av, cv, hve, hcv, hCv⟩ := Kd.R_reads HV1.out
                    subst hve
                    clear hCv
                    go_wp2_with fail
                    refine (add_Spans gB w.heap.size _ _ _ _ _ _ [] [] [] _ T _ HK0.out (Pile.nil _ _ _ _ _) HU1.out (by have := hTl'.out; omega) (by decide) (fun x hx => absurd hx (by simp)) HB0.out.size HN.out.1).mono ?_
                    rintro e w13 ⟨rfl, V1, U1, u1, hk, hp, hu1, hfx⟩
                    replace HX0 := Aside0.mk (hfx.film HX0.out (by decide) (by decide) HN.out.2.1 HN.out.2.2.1)
                    replace HY0 := Aside0.mk (hfx.film HY0.out (by decide) (by decide) HN.out.2.2.2.1 HN.out.2.2.2.2.1)
                    replace HS0 := Aside0.mk (hfx.blk HS0.out (by decide) HN.out.2.2.2.2.2)
                    replace HU1 := Aside0.mk (hfx.R rfl HU1.out (by decide) (fun k hk => (Hub.out k hk).2))
                    replace HV1 := Aside0.mk (hfx.R rfl HV1.out (by decide) (fun k hk => (Hvb.out k hk).2))
                    replace HB0 := Aside0.mk (HB0.out.trans hfx.1)
                    replace HK0 := Aside0.mk hk
                    have HP := Aside0.mk hp
                    have Hn2 : Aside0 (∀ x ∈ [.slice Au T.length cu] ++ [u1], NeRow x (.slice Av T.length cv)) := ⟨fun x hx => by
                      rcases List.mem_append.1 hx with hx | hx
                      · rw [List.mem_singleton.1 hx]; exact Huv.out
                      · rw [List.mem_singleton.1 hx]; exact fun k hk hk' => by have h1 := hu1 k hk; have h2 := (Hvb.out k hk').1; omega⟩
                    clear hk hp hu1 hfx
                    go_wp2_with fail
                    refine (add_Spans gB w.heap.size _ _ _ _ _ _ [.slice Au T.length cu] [u1] [T] _ T _ HK0.out HP.out HV1.out (by have := hTl'.out; omega) (by simp) Hn2.out HB0.out.size HN.out.1).mono ?_
                    rintro e w14 ⟨rfl, V2, U2, u2, hk, hp, hu2, hfx⟩
                    replace HX0 := Aside0.mk (hfx.film HX0.out (by decide) (by decide) HN.out.2.1 HN.out.2.2.1)
                    replace HY0 := Aside0.mk (hfx.film HY0.out (by decide) (by decide) HN.out.2.2.2.1 HN.out.2.2.2.2.1)
                    replace HS0 := Aside0.mk (hfx.blk HS0.out (by decide) HN.out.2.2.2.2.2)
                    replace HU1 := Aside0.mk (hfx.R rfl HU1.out (by decide) (fun k hk => (Hub.out k hk).2))
                    replace HV1 := Aside0.mk (hfx.R rfl HV1.out (by decide) (fun k hk => (Hvb.out k hk).2))
                    replace HB0 := Aside0.mk (HB0.out.trans hfx.1)
                    replace HK0 := Aside0.mk hk
                    replace HP := Aside0.mk hp
                    clear hk hp hu2 hfx Hn2
                    go_wp2_with fail
                    refine (film_unlike_nil gf qf X0 a _ HX0.out hx0.out ha2.out).mono ?_
                    rintro e w15 ⟨ws, rfl, hw, hB⟩
                    rw [unl_nil X0 a ha1.out ha2.out] at hw
                    obtain ⟨gw, cw, hwe, _, _, _, hwc, _⟩ := hw.opened (by simp)
                    have y0 := (hwc 0 _ rfl).1
                    have y1 := (hwc 0 _ rfl).2
                    simp only [Nat.zero_mul, Nat.zero_add] at y0 y1
                    subst hwe
                    replace HX0 := Aside0.mk (HX0.out.keep hB)
                    replace HS0 := Aside0.mk (HS0.out.keep hB)
                    replace HK0 := Aside0.mk (HK0.out.keep hB)
                    replace HU1 := Aside0.mk (Kd.R_below HU1.out hB)
                    replace HV1 := Aside0.mk (Kd.R_below HV1.out hB)
                    replace HP := Aside0.mk (HP.out.below hB)
                    replace HB0 := Aside0.mk (below_step HB0.out hB)
                    clear hw hwc hB HY0
                    have Hsz2 : (Tryd.prog.info? 38).map (·.size) = some (setArr s).size := by rw [setArr_size, HU.out.1]; exact info38
                    have Hsh := Aside0.mk HS0.out.hd
                    have Hsz3 := Aside0.mk Hsz2
                    clear Hsz2
                    go_wp2_with ((with_reducible refine gate_ (.load 38 (.tmp 19)) rfl ?_); (first | (refine wpList_load_row rfl 38 (.tmp 19) (by rfl) gS (by rfl) 38 _ (0, 0) _ Hsh.out Tryd.underlying38 rfl Hsz3.out ?_) | (trace_state; fail)))
                    refine (set_spans s HU.out.1 _).mono ?_
                    rintro e w16 ⟨sp, rfl, hsp1, hB⟩
                    rw [← hsp.out] at hsp1
                    obtain ⟨As, cs, hse, hcs, hCs, _⟩ := hsp1.reads
                    subst hse
                    replace HX0 := Aside0.mk (HX0.out.keep hB)
                    replace HS0 := Aside0.mk (HS0.out.keep hB)
                    replace HK0 := Aside0.mk (HK0.out.keep hB)
                    replace HU1 := Aside0.mk (Kd.R_below HU1.out hB)
                    replace HV1 := Aside0.mk (Kd.R_below HV1.out hB)
                    replace HP := Aside0.mk (HP.out.below hB)
                    replace HB0 := Aside0.mk (below_step HB0.out hB)
                    have y0 := keep hB y0
                    have y1 := keep hB y1
                    have HCs := Aside0.mk hCs
                    clear hsp1 hB hCs
                    go_wp2_with fail
                    refine (emulsionbook_SameSpans.calls (T.length + 1) Au cu T As cs T true _ (C_of_R HU1.out).1 hcu HCs.out hcs (sameSpans_f T (by have := hTl'.out; omega) _ (by omega))).mono ?_
                    rintro e w17 ⟨rfl, hd⟩
                    have hB := drawnB hd
                    replace HX0 := Aside0.mk (HX0.out.keep hB)
                    replace HS0 := Aside0.mk (HS0.out.keep hB)
                    replace HK0 := Aside0.mk (HK0.out.keep hB)
                    replace HU1 := Aside0.mk (Kd.R_below HU1.out hB)
                    replace HV1 := Aside0.mk (Kd.R_below HV1.out hB)
                    replace HP := Aside0.mk (HP.out.below hB)
                    replace HB0 := Aside0.mk (below_step HB0.out hB)
                    have y0 := keep hB y0
                    have y1 := keep hB y1
                    clear hB hd HCs
                    go_wp2_with fail
                    refine (emulsionbook_SameSpans.calls (T.length + 1) Av cv T Au cu T true _ (C_of_R HV1.out).1 hcv (C_of_R HU1.out).1 hcu (sameSpans_f T (by have := hTl'.out; omega) _ (by omega))).mono ?_
                    rintro e w17 ⟨rfl, hd⟩
                    have hB := drawnB hd
                    replace HX0 := Aside0.mk (HX0.out.keep hB)
                    replace HS0 := Aside0.mk (HS0.out.keep hB)
                    replace HK0 := Aside0.mk (HK0.out.keep hB)
                    replace HU1 := Aside0.mk (Kd.R_below HU1.out hB)
                    replace HV1 := Aside0.mk (Kd.R_below HV1.out hB)
                    replace HP := Aside0.mk (HP.out.below hB)
                    replace HB0 := Aside0.mk (below_step HB0.out hB)
                    have y0 := keep hB y0
                    have y1 := keep hB y1
                    clear hB hd
                    go_wp2_with fail
                    refine (film_unlike gf qf gf qf X0 X0 a a _ HX0.out HX0.out hx0.out ha2.out hx0.out ha2.out).mono ?_
                    rintro e w18 ⟨x, rfl, hx, hB⟩
                    rw [unlV_same] at hx
                    obtain ⟨Ax, cx, hxe, _, _, _⟩ := hx.reads
                    subst hxe
                    replace HX0 := Aside0.mk (HX0.out.keep hB)
                    replace HS0 := Aside0.mk (HS0.out.keep hB)
                    replace HK0 := Aside0.mk (HK0.out.keep hB)
                    replace HU1 := Aside0.mk (Kd.R_below HU1.out hB)
                    replace HV1 := Aside0.mk (Kd.R_below HV1.out hB)
                    replace HP := Aside0.mk (HP.out.below hB)
                    replace HB0 := Aside0.mk (below_step HB0.out hB)
                    have y0 := keep hB y0
                    have y1 := keep hB y1
                    clear hB hx
                    go_wp2_with fail
                    refine (film_zero z (by omega) _).mono ?_
                    rintro e w19 ⟨rfl, hB⟩
                    replace HX0 := Aside0.mk (HX0.out.keep hB)
                    replace HS0 := Aside0.mk (HS0.out.keep hB)
                    replace HK0 := Aside0.mk (HK0.out.keep hB)
                    replace HU1 := Aside0.mk (Kd.R_below HU1.out hB)
                    replace HV1 := Aside0.mk (Kd.R_below HV1.out hB)
                    replace HP := Aside0.mk (HP.out.below hB)
                    replace HB0 := Aside0.mk (below_step HB0.out hB)
                    clear hB
                    obtain ⟨zb, hzb⟩ : ∃ q, q = zeroB z := ⟨_, rfl⟩
                    have hzr := zero_ref z (by omega)
                    rw [← hzb] at hzr ⊢
                    clear hzb
                    go_wp2_with fail
                    refine (emulsionref1_Zero.calls 1001 z zb _ hzr).mono ?_
                    rintro e w20 ⟨rfl, hd⟩
                    have hB : Below w19.heap.size w19 w20 := by first | exact hd | exact drawnB hd
                    replace HK0 := Aside0.mk (HK0.out.keep hB)
                    replace HP := Aside0.mk (HP.out.below hB)
                    replace HB0 := Aside0.mk (below_step HB0.out hB)
                    clear hB hd hzr
                    go_wp2_with fail
                    refine (apart gB w.heap.size _ _ _ _ _ _ [] [] _ _ [] [] [] _ [] _ HK0.out (Pile.nil _ _ _ _ _) HP.out (Pile.nil _ _ _ _ _) ⟨by simp, fun i l hl => by simp at hl⟩ ⟨by simp, fun i l hl => by
                      have hm := List.mem_of_getElem? hl
                      simp at hm
                      subst hm
                      have := hTl'.out
                      omega⟩ ⟨by simp, fun i l hl => by simp at hl⟩ HB0.out.size).mono ?_
                    rintro e w21 ⟨rfl, hB⟩
                    have HB9 := Aside0.mk (HB0.out.trans hB)
                    clear hB
                    go_wp2_with fail
                    go_ret
                    exact ⟨rfl, HB9.out⟩
theorem walk (a b : Int) (A : Option Addr) (c : Nat) (l : List SP) (B : Option Addr) (d : Nat) (m : List SP) (z : ByteArray) (w : World) (_ : (Lit.int .i64 a).wf = true) (_ : (Lit.int .i64 b).wf = true) (hc : l.length ≤ c) (hC : Kd.C k31 w A l.length l) (hd : m.length ≤ d) (hD : Kd.C k31 w B m.length m) (hz : z.size ≤ 140737488351232) :
    Calls Tryd.prog 4 #[.int .i64 a, .int .i64 b, .slice A l.length c, .slice B m.length d, .string z] w fun e w' => e = .returned (.bool true) ∧ Below w.heap.size w w' := by
  by_cases h : a < 1 ∨ (¬ a < 1 ∧ b < 1) ∨ (¬ a < 1 ∧ ¬ b < 1 ∧ 64 < a) ∨ (¬ a < 1 ∧ ¬ b < 1 ∧ ¬ 64 < a ∧ 64 < b) ∨ (¬ a < 1 ∧ ¬ b < 1 ∧ ¬ 64 < a ∧ ¬ 64 < b ∧ 100 < (z.size : Int))
  · exact early a b A c l B d m z w hc hC hd hD (by omega) h
  · obtain ⟨a', rfl⟩ := Int.eq_ofNat_of_zero_le (show 0 ≤ a by omega)
    obtain ⟨b', rfl⟩ := Int.eq_ofNat_of_zero_le (show 0 ≤ b by omega)
    exact main a' b' A c l B d m z w hc hC hd hD (by omega) (by omega) (by omega) (by omega) (by omega)
end Go.Proofs.YtknphhcppllpoaaDoor.WFilmUnlike
end
