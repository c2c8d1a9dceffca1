/- FilmBlocks, walked: the blocks, one behind the other, are all bytes. -/
import Derived.Test.YtknphhcppllpoaaDoorAlive4
import Derived.Test.YtknphhcppllpoaaDoorAx0
namespace Go.Proofs.YtknphhcppllpoaaDoor.WFilmBlocks
open Go.RowKit Go.Proofs.YtknphhcppllpoaaDoorW.PrintWords Go.Proofs.YtknphhcppllpoaaDoorW.PrintLast Go.Proofs.YtknphhcppllpoaaDoorW.PrintMore Go.Proofs.YtknphhcppllpoaaDoor.A Go.Proofs.YtknphhcppllpoaaDoor.Hand
set_option linter.unusedVariables false
set_option linter.unusedSimpArgs false
attribute [local go_sem] max2_int min2_int max_two min_two max_three min_three max_four min_four
abbrev SP := S31
set_option maxRecDepth 100000 in
set_option maxHeartbeats 800000 in
theorem early (B : Int) (A : Option Addr) (n c : Nat) (w : World) (h : B < 1 ∨ (¬ B < 1 ∧ 64 < B)) :
    Calls Tryd.prog 3 #[.int .i64 B, .slice A n c] w fun e w' => e = .returned (.bool true) ∧ Below w.heap.size w w' := by
  rcases h with h | ⟨h0, h⟩
  all_goals
    go_enter Tryd.func3, Tryd.ntmps3
    go_wp2_with (go_at_call 8; refine (alive4 _).mono ?_; rintro e w1 ⟨rfl, hB⟩)
    go_ret
    exact ⟨rfl, hB⟩
set_option maxRecDepth 100000 in
set_option maxHeartbeats 3200000 in
theorem main (B : Nat) (A : Option Addr) (c : Nat) (ops : List SP) (w : World) (h0 : 1 ≤ B) (h1 : B ≤ 64) (hc : ops.length ≤ c) (hC : Kd.C k31 w A ops.length ops) :
    Calls Tryd.prog 3 #[.int .i64 B, .slice A ops.length c] w fun e w' => e = .returned (.bool true) ∧ Below w.heap.size w w' := by
  have n0 : ¬ (B : Int) < 1 := by omega
  have n1 : ¬ 64 < (B : Int) := by omega
  have i0 : (1 : Int) ≤ (B : Int) := by omega
  have i1 : (B : Int) ≤ 64 := by omega
  have h0' := Aside0.mk h0
  have h1' := Aside0.mk h1
  have hln : (ops.length : Int) ≤ 9223372036854775807 := by have := hC.2.1; omega
  have HB0 := Aside0.mk (Below.refl w.heap.size w)
  have HO := Aside0.mk hC
  have Hc := Aside0.mk hc
  clear h0 h1 hC hc
  go_enter Tryd.func3, Tryd.ntmps3
  go_wp2_with fail
  refine (light_any A c ops _ HO.out Hc.out).mono ?_
  rintro e w1 ⟨b, rfl, hB⟩
  have HB1 := Aside0.mk (below_step HB0.out hB)
  clear hB HB0
  cases b
  · go_wp2_with fail
    refine (alive4 _).mono ?_
    rintro e w2 ⟨rfl, hB⟩
    have HB2 := Aside0.mk (below_step HB1.out hB)
    clear hB HB1
    go_wp2_with fail
    go_ret
    exact ⟨rfl, HB2.out⟩
  · go_wp2_with fail
    refine (alive4 _).mono ?_
    rintro e w2 ⟨rfl, hB⟩
    have HB2 := Aside0.mk (below_step HB1.out hB)
    clear hB HB1
    go_wp2_with fail
    refine (film_new B h0'.out h1'.out _).mono ?_
    rintro e w3 ⟨gf, q, rfl, hg, hq, hf, hB⟩
    have HB3 := Aside0.mk (below_step HB2.out hB)
    have HF3 := Aside0.mk hf
    have Hg : Aside0 (w.heap.size ≤ gf ∧ w.heap.size ≤ q) := ⟨by have := HB2.out.size; omega⟩
    clear hB HB2 hf hg hq
    have hl0 := Aside0.mk (show (List.replicate (8 * B) (0 : UInt8)).length = 8 * B from List.length_replicate)
    generalize List.replicate (8 * B) (0 : UInt8) = l0 at *
    go_wp2_with fail
    go_loopg [7] ops.length (fun kq v wq => ∃ i : Nat, i + kq = ops.length ∧ v = .int .i64 (i : Int) ∧ Aside0 (Below w.heap.size w wq) ∧ Aside0 (∃ l : List UInt8, l.length = 8 * B ∧ FilmAt wq gf q l))
    case atStart => exact ⟨0, by omega, rfl, HB3, ⟨l0, hl0.out, HF3.out⟩⟩
    case round =>
      obtain ⟨i, hi, rfl, HB, HF⟩ := hrel
      obtain ⟨l, hll, hf⟩ := HF.out
      have hll := Aside0.mk hll
      have HL := Aside0.mk hf
      clear hf HF
      by_cases hlt : i < ops.length
      · obtain ⟨kk, rfl⟩ : ∃ z, gk = z + 1 := ⟨gk - 1, by omega⟩
        obtain ⟨ad, e1, x0, x1⟩ := at_T31 (Kd.C_below HO.out HB.out) (i : Int) (by omega) (by omega)
        subst e1
        rw [Int.toNat_natCast] at x0 x1
        have hlt' : (i : Int) < (ops.length : Int) := by omega
        generalize rd_T31 ops (i : Int) = X at *
        obtain ⟨N, S⟩ := X
        simp only at x0 x1
        go_wp2_with fail
        refine start_ (n := 12) (S := fun w' => w'.cell? (ad.add (i * 2)) = some (.int .i64 N) ∧ w'.cell? ⟨(ad.add (i * 2)).block, (ad.add (i * 2)).off + 1, none⟩ = some (.string S) ∧ Below w.heap.size w w' ∧ FilmAt w' gf q l) (ds := [11]) #[false, false, false, false, false, false, false, false, false, false, false, false] (by kernel_rfl) rfl rfl ⟨x0, x1, (below_drew1 HB.out), (FilmAt.move HL.out rfl rfl)⟩ (fun hHeld => ?_)
        refine pure_ (i := 0) (N := some 47) (v := ?_) (a' := ?_) #[true, false, false, false, false, false, false, false, false, false, false, false] rfl rfl (by kernel_rfl) (fun _ _ _ h => h) (Or.inl ⟨by rfl, ?_⟩) ?_ ?_
        rotate_left
        · intro w'
          go_simp
          with_reducible rfl
        rotate_left
        · simp only [Act.put, List.setIfInBounds_toArray, List.set_cons_zero, List.set_cons_succ, i64_w, i32_w]
          rfl
        refine pure_ (i := 1) (N := some 48) (v := ?_) (a' := ?_) #[true, true, false, false, false, false, false, false, false, false, false, false] rfl rfl (by kernel_rfl) (fun _ _ _ h => h) (Or.inl ⟨by rfl, ?_⟩) ?_ ?_
        rotate_left
        · intro w'
          go_simp
          with_reducible rfl
        rotate_left
        · simp only [Act.put, List.setIfInBounds_toArray, List.set_cons_zero, List.set_cons_succ, i64_w, i32_w]
          rfl
        refine pure_ (i := 2) (N := some 49) (v := ?_) (a' := ?_) #[true, true, true, false, false, false, false, false, false, false, false, false] rfl rfl (by kernel_rfl) (fun _ _ _ h => h) (Or.inl ⟨by rfl, ?_⟩) ?_ ?_
        rotate_left
        · intro w'
          go_simp
          with_reducible rfl
        rotate_left
        · simp only [Act.put, List.setIfInBounds_toArray, List.set_cons_zero, List.set_cons_succ, i64_w, i32_w]
          rfl
        refine pure_ (i := 3) (N := some 50) (v := ?_) (a' := ?_) #[true, true, true, true, false, false, false, false, false, false, false, false] rfl rfl (by kernel_rfl) (fun _ _ _ h => h) (Or.inl ⟨by rfl, ?_⟩) ?_ ?_
        rotate_left
        · intro w'
          go_simp
          with_reducible rfl
        rotate_left
        · simp only [Act.put, List.setIfInBounds_toArray, List.set_cons_zero, List.set_cons_succ, i64_w, i32_w]
          rfl
        refine pure_ (i := 4) (N := some 51) (v := ?_) (a' := ?_) #[true, true, true, true, true, false, false, false, false, false, false, false] rfl rfl (by kernel_rfl) (fun _ _ _ h => h) (Or.inl ⟨by rfl, ?_⟩) ?_ ?_
        rotate_left
        · intro w'
          go_simp
          with_reducible rfl
        rotate_left
        · simp only [Act.put, List.setIfInBounds_toArray, List.set_cons_zero, List.set_cons_succ, i64_w, i32_w]
          rfl
        refine pure_ (i := 6) (N := some 53) (v := ?_) (a' := ?_) #[true, true, true, true, true, false, true, false, false, false, false, false] rfl rfl (by kernel_rfl) (fun _ _ _ h => h) (Or.inl ⟨by rfl, ?_⟩) ?_ ?_
        rotate_left
        · intro w'
          go_simp
          with_reducible rfl
        rotate_left
        · simp only [Act.put, List.setIfInBounds_toArray, List.set_cons_zero, List.set_cons_succ, i64_w, i32_w]
          rfl
        refine pure_ (i := 7) (N := some 54) (v := ?_) (a' := ?_) #[true, true, true, true, true, false, true, true, false, false, false, false] rfl rfl (by kernel_rfl) (fun _ _ _ h => h) (Or.inl ⟨by rfl, ?_⟩) ?_ ?_
        rotate_left
        · intro w'
          go_simp
          with_reducible rfl
        rotate_left
        · simp only [Act.put, List.setIfInBounds_toArray, List.set_cons_zero, List.set_cons_succ, i64_w, i32_w]
          rfl
        refine pure_ (i := 8) (N := some 55) (v := ?_) (a' := ?_) #[true, true, true, true, true, false, true, true, true, false, false, false] rfl rfl (by kernel_rfl) (fun _ _ _ h => h) (Or.inl ⟨by rfl, ?_⟩) ?_ ?_
        rotate_left
        · intro w'
          go_simp
          with_reducible rfl
        rotate_left
        · simp only [Act.put, List.setIfInBounds_toArray, List.set_cons_zero, List.set_cons_succ, i64_w, i32_w]
          rfl
        refine pure_ (i := 9) (N := some 56) (v := ?_) (a' := ?_) #[true, true, true, true, true, false, true, true, true, true, false, false] rfl rfl (by kernel_rfl) (fun _ _ _ h => h) (Or.inl ⟨by rfl, ?_⟩) ?_ ?_
        rotate_left
        · intro w'
          go_simp
          with_reducible rfl
        rotate_left
        · simp only [Act.put, List.setIfInBounds_toArray, List.set_cons_zero, List.set_cons_succ, i64_w, i32_w]
          rfl
        refine take_ (i := 5) (N := some 52) (v := ?_) (a' := ?_) #[true, true, true, true, true, true, true, true, true, true, false, false] rfl rfl (by kernel_rfl) (fun _ _ _ h => h) (Or.inl ⟨by rfl, ?_⟩) hHeld ?_ ?_
        rotate_left
        · rintro w' ⟨s0, s1, s2, s3⟩
          go_simp
          with_reducible rfl
        rotate_left
        · simp only [Act.put, List.setIfInBounds_toArray, List.set_cons_zero, List.set_cons_succ, i64_w, i32_w]
          rfl
        refine take_ (i := 10) (N := some 57) (v := ?_) (a' := ?_) #[true, true, true, true, true, true, true, true, true, true, true, false] rfl rfl (by kernel_rfl) (fun _ _ _ h => h) (Or.inl ⟨by rfl, ?_⟩) hHeld ?_ ?_
        rotate_left
        · rintro w' ⟨s0, s1, s2, s3⟩
          go_simp
          with_reducible rfl
        rotate_left
        · simp only [Act.put, List.setIfInBounds_toArray, List.set_cons_zero, List.set_cons_succ, i64_w, i32_w]
          rfl
        refine last_ (i := 11) (N := some 58) #[true, true, true, true, true, true, true, true, true, true, true, true] rfl rfl (by kernel_rfl) (by decide) (fun K hK => ?_)
        refine goes_ Tryd.func10 (by kernel_rfl) rfl #[.pointer (some ⟨gf, 0, none⟩), .int .i64 N, .string S] (by rfl) rfl rfl (by simp only [List.map_toArray, List.map_cons, List.map_nil]; rfl) ?_
        with_reducible refine (film_write_any gf q l N S _ hHeld.2.2.2 (by have := hll.out; have := h1'.out; omega)).mono ?_
        rintro e w6 ⟨ce, rfl, hf, ho⟩
        refine ⟨_, rfl, ?_⟩
        refine hK.out _ _ ?_
        clear hK K
        refine norm_ (a' := ?_) ?_ ?_
        rotate_left
        · show Act.put _ (some 58) _ = _
          simp only [Act.put, List.setIfInBounds_toArray, List.set_cons_zero, List.set_cons_succ, i64_w, i32_w]
          rfl
        refine done_ (by kernel_rfl) ?_
        have HB6 := Aside0.mk (below_only hHeld.2.2.1 ho Hg.out.2)
        have HF6 := Aside0.mk hf
        clear hHeld hf ho HB HL x0 x1
        go_wp2_with fail
        go_roundg kk
        case measure => omega
        case rel => exact ⟨i + 1, by omega, by go_num, HB6, ⟨_, (wrV_length _ _ _).trans hll.out, HF6.out⟩⟩
      · obtain rfl : i = ops.length := by omega
        have hlt' : ¬ (ops.length : Int) < (ops.length : Int) := by omega
        go_wp2_with fail
        go_loopg [8, 9] B (fun kq u v wq => ∃ k : Nat, k + kq = B ∧ u = .string ⟨(l.take (8 * k)).toArray⟩ ∧ v = .int .i64 (k : Int) ∧ wq = wr)
        case atStart => exact ⟨0, by omega, rfl, rfl, rfl⟩
        case round =>
          obtain ⟨k, hk, rfl, rfl, rfl⟩ := hrel
          by_cases hlt : k < B
          · obtain ⟨kk, rfl⟩ : ∃ z, gk = z + 1 := ⟨gk - 1, by omega⟩
            have hlt' : (k : Int) < (B : Int) := by omega
            have hk64 : (k : Int) ≤ 64 := by omega
            have hsx := blkS_size l B k hll.out hlt
            have hone := Aside0.mk (take_blk l B k hll.out hlt)
            have hsa : ((⟨(l.take (8 * k)).toArray⟩ : ByteArray).size : Int) ≤ 512 := by
              show ((((l.take (8 * k)).toArray.size : Nat)) : Int) ≤ 512
              rw [List.size_toArray, List.length_take]; omega
            have hb1 : Aside0 (Calls Tryd.prog 11 #[.pointer (some ⟨gf, 0, none⟩), .int .i64 k] wr fun e w' => e = .returned (.tuple #[.string (blkS l k), .int .i64 0]) ∧ w' = wr) := ⟨film_block gf q l B k wr HL.out hll.out h1'.out hlt⟩
            have hb2 : Aside0 (Calls Tryd.prog 12 #[.pointer (some ⟨gf, 0, none⟩), .int .i64 ((k : Int) * 8), .int .i64 8] wr fun e w' => e = .returned (.tuple #[.string (blkS l k), .int .i64 0]) ∧ w' = wr) := ⟨by
              have h := film_read gf q l (8 * k) 8 wr HL.out (by have := hll.out; omega) (by have := hll.out; omega)
              rwa [show ((8 * k : Nat) : Int) = (k : Int) * 8 by omega] at h⟩
            generalize blkS l k = X at *
            generalize (⟨(l.take (8 * k)).toArray⟩ : ByteArray) = Y at *
            go_wp2_with fail
            refine hb1.out.mono ?_
            rintro e w8 ⟨rfl, rfl⟩
            go_wp2_with fail
            refine hb2.out.mono ?_
            rintro e w9 ⟨rfl, rfl⟩
            go_wp2_with fail
            go_roundg kk
            case measure => omega
            case rel => exact ⟨k + 1, by omega, by rw [← hone.out], by go_num, rfl⟩
          · obtain rfl : k = B := by omega
            have hlt' : ¬ (k : Int) < (k : Int) := by omega
            have hby := Aside0.mk (film_bytes gf q l wr HL.out)
            rw [List.take_of_length_le (by have := hll.out; omega)]
            generalize (⟨l.toArray⟩ : ByteArray) = W at *
            go_wp2_with fail
            refine hby.out.mono ?_
            rintro e w8 ⟨rfl, rfl⟩
            go_wp2_with fail
            go_ret
            exact ⟨rfl, HB.out⟩
theorem walk (B : Int) (A : Option Addr) (c : Nat) (ops : List SP) (w : World) (wB : (Lit.int .i64 B).wf = true) (hc : ops.length ≤ c) (hC : Kd.C k31 w A ops.length ops) :
    Calls Tryd.prog 3 #[.int .i64 B, .slice A ops.length c] w fun e w' => e = .returned (.bool true) ∧ Below w.heap.size w w' := by
  by_cases h : B < 1 ∨ (¬ B < 1 ∧ 64 < B)
  · exact early B A ops.length c w h
  · obtain ⟨B', rfl⟩ := Int.eq_ofNat_of_zero_le (show 0 ≤ B by omega)
    exact main B' A c ops w (by omega) (by omega) hc hC
end Go.Proofs.YtknphhcppllpoaaDoor.WFilmBlocks
