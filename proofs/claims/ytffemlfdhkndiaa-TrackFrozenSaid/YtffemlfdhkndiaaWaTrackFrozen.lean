/- TrackFrozen, walked: what is marked while a backup goes on is not among what it looks at, but is behind it. -/
import Derived.Test.YtffemlfdhkndiaaTrackC
import Derived.Test.YtffemlfdhkndiaaAbs
import Derived.Test.YtffemlfdhkndiaaAx0
namespace Go.Proofs.Ytffemlfdhkndiaa.WTrackFrozen
open Go.RowKit Go.Proofs.YtffemlfdhkndiaaW.PrintWords Go.Proofs.YtffemlfdhkndiaaW.PrintLast Go.Proofs.YtffemlfdhkndiaaW.PrintMore Go.Proofs.Ytffemlfdhkndiaa.A Go.Proofs.Ytffemlfdhkndiaa.Bits Go.Proofs.Ytffemlfdhkndiaa.Hand
set_option linter.unusedVariables false
set_option linter.unusedSimpArgs false
attribute [local go_sem] max2_int min2_int max_two min_two max_three min_three max_four min_four
set_option maxRecDepth 100000 in
theorem early (b : Int) (A : Option Addr) (c : Nat) (l : List S31) (B : Option Addr) (d : Nat) (m : List S31) (w : World) (h : b < 1 ∨ (¬ b < 1 ∧ 64 < b) ∨ (¬ b < 1 ∧ ¬ 64 < b ∧ 20 < (l.length : Int)) ∨ (¬ b < 1 ∧ ¬ 64 < b ∧ ¬ 20 < (l.length : Int) ∧ 20 < (m.length : Int))) :
    Calls Try.prog 8 #[.int .i64 b, .slice A l.length c, .slice B m.length d] w fun e w' => e = .returned (.bool true) ∧ Below w.heap.size w w' := by
  rcases h with h | ⟨h0, h⟩ | ⟨h0, h1, h⟩ | ⟨h0, h1, h2, h⟩
  all_goals
    go_enter Try.func8, Try.ntmps8
    go_wp2_with (go_at_call 35; refine (alive6 _).mono ?_; rintro e w1 ⟨rfl, hB⟩)
    go_ret
    exact ⟨rfl, hB⟩
theorem all_sum (n x : Nat) (hn : n ≤ 64) : sumN (spansOf (markS n x true)) = (n : Int) := by
  rw [sumN_cnt (Int.le_refl _) (spansOf_tidy _), cntB_congr (g := fun k => decide ((0 : Int) ≤ (k : Int) ∧ (k : Int) < 0 + (n : Int))) 64 (fun k hk => by
    rw [Bool.eq_iff_iff, memB_iff]
    show mem (spansOf (bitsS n allX)) _ ↔ _
    rw [bits_mem, decide_eq_true_eq]
    constructor
    · rintro ⟨h1, h2, h3, h4⟩; omega
    · rintro ⟨h1, h2⟩; exact ⟨h1, by omega, by omega, allX_bit _ (by omega)⟩), cntB_span 0 n (by omega) (by omega) 64]
  omega
theorem marked (n : Nat) (hn : n ≤ 64) (l : List S31) (k : Nat) (hk : k < n) : memB (spansOf (markS n (orAll n l 0) false)) (k : Int) = (putS none64 l true).getD k false := by
  rw [Bool.eq_iff_iff, memB_iff]
  show mem (spansOf (bitsS n (orAll n l 0))) _ ↔ _
  rw [bits_mem, Int.toNat_natCast, orAll_put n k hk l 0 none64 (by simp) (by rw [Nat.zero_testBit, none64_get])]
  constructor
  · exact fun h => h.2.2.2
  · exact fun h => ⟨by omega, by omega, by omega, h⟩
set_option maxRecDepth 100000 in
set_option maxHeartbeats 3200000 in
theorem main (n : Nat) (A : Option Addr) (c : Nat) (a : List S31) (B : Option Addr) (d : Nat) (b : List S31) (w : World) (h1 : 1 ≤ n) (h2 : n ≤ 64) (h3 : a.length ≤ 20) (h4 : b.length ≤ 20) (hc : a.length ≤ c) (hd : b.length ≤ d) (hA : Kd.C k31 w A a.length a) (hB0 : Kd.C k31 w B b.length b) :
    Calls Try.prog 8 #[.int .i64 (n : Int), .slice A a.length c, .slice B b.length d] w fun e w' => e = .returned (.bool true) ∧ Below w.heap.size w w' := by
  have CA := Aside0.mk hA
  have CB := Aside0.mk hB0
  have Hc := Aside0.mk hc
  have Hd := Aside0.mk hd
  have i1 : ¬ (n : Int) < 1 := by omega
  have i2 : ¬ (64 : Int) < (n : Int) := by omega
  have i3 : ¬ (20 : Int) < (a.length : Int) := by omega
  have i4 : ¬ (20 : Int) < (b.length : Int) := by omega
  have i5 : (1 : Int) ≤ (n : Int) := by omega
  have i6 : (n : Int) ≤ 64 := by omega
  have i7 : (a.length : Int) ≤ 20 := by omega
  have i8 : (b.length : Int) ≤ 20 := by omega
  have HB0 := Aside0.mk (Below.refl w.heap.size w)
  clear hA hB0 hc hd
  go_enter Try.func8, Try.ntmps8
  go_wp2_with fail
  refine (alive6 _).mono ?_
  rintro e w1 ⟨rfl, hB⟩
  have HB1 := Aside0.mk (below_step HB0.out hB)
  clear hB HB0
  go_wp2_with fail
  refine (track_new n h1 h2 _).mono ?_
  rintro e w2 ⟨gt, rfl, ht, hB⟩
  obtain ⟨tb, htb⟩ : ∃ n, n = w1.heap.size := ⟨_, rfl⟩
  rw [← htb] at ht
  have GB : Aside0 (w.heap.size ≤ tb) := ⟨by rw [htb]; exact HB1.out.size⟩
  have T2 := Aside0.mk ht
  have HB2 := Aside0.mk (below_step HB1.out hB)
  clear ht hB htb HB1
  go_wp2_with fail
  refine (freeze_ok tb gt n 0 0 true false _ h2 T2.out).mono ?_
  rintro e w3 ⟨rfl, ht, hB⟩
  have T3 := Aside0.mk ht
  have HB3 := Aside0.mk (below_mix HB2.out GB.out hB)
  clear hB ht HB2 T2
  go_wp2_with fail
  refine (frozen_ok tb gt n 0 0 false true _ h2 (by decide) T3.out).mono ?_
  rintro e w4 ⟨gr, rfl, hg, hr, hB⟩
  have T4 := Aside0.mk (T3.out.keep hB)
  have R_4 := Aside0.mk hr
  have GE_R : Aside0 (w.heap.size ≤ gr) := ⟨Nat.le_trans HB3.out.size hg⟩
  have HB4 := Aside0.mk (below_step HB3.out hB)
  clear hB hr hg HB3 T3
  go_wp2_with fail
  refine (runs_count _ gr _ _ (spansOf_tidy _) R_4.out).mono ?_
  rintro e w5 ⟨rfl, hB⟩
  rw [all_sum n 0 h2]
  have T5 := Aside0.mk (T4.out.keep hB)
  have R_5 := Aside0.mk (R_4.out.keep hB)
  clear R_4
  have HB5 := Aside0.mk (below_step HB4.out hB)
  clear hB HB4 T4
  clear R_5
  go_wp2_with fail
  refine (commit_ok tb gt n 0 0 false true _ h2 T5.out).mono ?_
  rintro e w6 ⟨rfl, ht, hB⟩
  have T6 := Aside0.mk ht
  have HB6 := Aside0.mk (below_mix HB5.out GB.out hB)
  clear hB ht HB5 T5
  go_wp2_with fail
  refine (track_lost tb gt n 0 0 false false false _ T6.out).mono ?_
  rintro e w7 ⟨rfl, hB⟩
  have T7 := Aside0.mk (T6.out.keep hB)
  have HB7 := Aside0.mk (below_step HB6.out hB)
  clear hB HB6 T6
  go_wp2_with fail
  go_loopg [10] a.length (fun kq v wq => ∃ i : Nat, i + kq = a.length ∧ v = .int .i64 (i : Int) ∧ Aside0 (Below w.heap.size w wq) ∧ Aside0 (TrackAt wq tb gt n (orAll n (a.take i) 0) 0 false false false))
  case atStart => exact ⟨0, by omega, rfl, HB7, T7⟩
  case round =>
    clear HB7 T7
    obtain ⟨i, hi, rfl, HB, HT⟩ := hrel
    by_cases hlt : i < a.length
    · have hlt' : (i : Int) < (a.length : Int) := by omega
      obtain ⟨ad, e1, x0, x1⟩ := at_T31 (Kd.C_below CA.out HB.out) (i : Int) (by omega) (by omega)
      subst e1
      rw [Int.toNat_natCast] at x0 x1
      have hone := Aside0.mk (orAll_snoc n a 0 i hlt)
      have hyl := Aside0.mk (orAll_lt n (a.take i) 0 (by decide))
      generalize rd_T31 a (i : Int) = X at *
      generalize orAll n (a.take i) 0 = y at *
      obtain ⟨F, M⟩ := X
      simp only at x0 x1
      obtain ⟨kk, rfl⟩ : ∃ z, gk = z + 1 := ⟨gk - 1, by omega⟩
      go_wp2_with fail
      refine (track_mark tb gt n y 0 false false false _ HT.out F M h2 hyl.out).mono ?_
      rintro e w8 ⟨rfl, ht, hB⟩
      have T8 := Aside0.mk ht
      have HB8 := Aside0.mk (below_mix HB.out GB.out hB)
      clear hB ht HB HT
      generalize ((cnt (minus (markV n F M) y) : Nat) : Int) = zz at *
      go_wp2_with fail
      go_roundg kk
      case measure => omega
      case rel => exact ⟨i + 1, by omega, by go_num, HB8, by rw [hone.out]; exact T8⟩
    · have hlt' : ¬ (i : Int) < (a.length : Int) := by omega
      obtain rfl : i = a.length := by omega
      rw [List.take_length] at HT
      obtain ⟨HBa, HTa⟩ := And.intro HB HT
      clear HB HT hlt hi
      have iga := True.intro
      go_wp2_with fail
      refine (freeze_ok tb gt n (orAll n a 0) 0 false false _ h2 HTa.out).mono ?_
      rintro e w18 ⟨rfl, ht, hB⟩
      have T18 := Aside0.mk ht
      have HB18 := Aside0.mk (below_mix HBa.out GB.out hB)
      clear hB ht HBa HTa
      go_wp2_with fail
      go_loopg [11] b.length (fun kq v wq => ∃ i : Nat, i + kq = b.length ∧ v = .int .i64 (i : Int) ∧ Aside0 (Below w.heap.size w wq) ∧ Aside0 (TrackAt wq tb gt n (orAll n (b.take i) 0) (orAll n a 0) false false true))
      case atStart => exact ⟨0, by omega, rfl, HB18, T18⟩
      case round =>
        clear HB18 T18
        obtain ⟨i, hi, rfl, HB, HT⟩ := hrel
        by_cases hlt : i < b.length
        · have hlt' : (i : Int) < (b.length : Int) := by omega
          obtain ⟨ad, e1, x0, x1⟩ := at_T31 (Kd.C_below CB.out HB.out) (i : Int) (by omega) (by omega)
          subst e1
          rw [Int.toNat_natCast] at x0 x1
          have hone := Aside0.mk (orAll_snoc n b 0 i hlt)
          have hyl := Aside0.mk (orAll_lt n (b.take i) 0 (by decide))
          generalize rd_T31 b (i : Int) = X at *
          generalize orAll n (b.take i) 0 = y at *
          obtain ⟨F, M⟩ := X
          simp only at x0 x1
          obtain ⟨kk, rfl⟩ : ∃ z, gk = z + 1 := ⟨gk - 1, by omega⟩
          go_wp2_with fail
          refine (track_mark tb gt n y (orAll n a 0) false false true _ HT.out F M h2 hyl.out).mono ?_
          rintro e w19 ⟨rfl, ht, hB⟩
          have T19 := Aside0.mk ht
          have HB19 := Aside0.mk (below_mix HB.out GB.out hB)
          clear hB ht HB HT
          generalize ((cnt (minus (markV n F M) y) : Nat) : Int) = zz at *
          go_wp2_with fail
          go_roundg kk
          case measure => omega
          case rel => exact ⟨i + 1, by omega, by go_num, HB19, by rw [hone.out]; exact T19⟩
        · have hlt' : ¬ (i : Int) < (b.length : Int) := by omega
          obtain rfl : i = b.length := by omega
          rw [List.take_length] at HT
          obtain ⟨HBb, HTb⟩ := And.intro HB HT
          clear HB HT hlt hi
          have igb := True.intro
          go_wp2_with fail
          refine (emulsionref1_Set_Put.calls none64 ⟨by simp⟩ A c a true _ (Kd.C_below CA.out HBb.out) Hc.out).mono ?_
          rintro e w29 ⟨rfl, hB⟩
          have T29 := Aside0.mk (HTb.out.keep hB)
          have HB29 := Aside0.mk (below_step HBb.out hB)
          clear hB HBb HTb
          go_wp2_with fail
          refine (emulsionref1_Set_Put.calls none64 ⟨by simp⟩ B d b true _ (Kd.C_below CB.out HB29.out) Hd.out).mono ?_
          rintro e w30 ⟨rfl, hB⟩
          have T30 := Aside0.mk (T29.out.keep hB)
          have HB30 := Aside0.mk (below_step HB29.out hB)
          clear hB HB29 T29
          have hla : Aside0 ((putS none64 a true).length = 64) := ⟨(putS_length _ _ _).trans (by simp)⟩
          have hlb : Aside0 ((putS none64 b true).length = 64) := ⟨(putS_length _ _ _).trans (by simp)⟩
          have Ma := Aside0.mk (marked n h2 a)
          have Mb := Aside0.mk (marked n h2 b)
          generalize putS none64 a true = sa at *
          generalize putS none64 b true = sb at *
          have hg0 : Aside0 (Blk ((w30.alloc (.cells (setArr none64) 27)).alloc (.cells (setArr none64) 27)) w30.heap.size 27 (setArr none64)) := ⟨(Blk.new _ _ _).alloc _⟩
          have hg1 : Aside0 (Blk ((w30.alloc (.cells (setArr none64) 27)).alloc (.cells (setArr none64) 27)) (w30.heap.size + 1) 27 (setArr none64)) := ⟨by have := Blk.new (w30.alloc (.cells (setArr none64) 27)) 27 (setArr none64); simpa using this⟩
          go_wp2_with (first | (with_reducible refine wpList_store_row rfl 27 (.tmp 12) (.tmp 102) rfl (w30.heap.size) (setArr sa) rfl rfl 27 _ (heap_alloc2_old _ _ _) (by rw [setArr_size, hla.out] <;> exact info27) (by rw [setArr_size, hla.out] <;> with_unfolding_all rfl) (setArr_one _) ?_) | (with_reducible refine wpList_store_row rfl 27 (.tmp 13) (.tmp 105) rfl (w30.heap.size + 1) (setArr sb) rfl rfl 27 _ ((setRow_other _ _ _ _ (by omega)).trans (heap_alloc2_new _ _ _)) (by rw [setArr_size, hlb.out] <;> exact info27) (by rw [setArr_size, hlb.out] <;> with_unfolding_all rfl) (setArr_one _) ?_))
          refine calls_abs (fun X => Below w.heap.size w X ∧ TrackAt X tb gt n (orAll n b 0) (orAll n a 0) false false true ∧ Blk X w30.heap.size 27 (setArr sa) ∧ Blk X (w30.heap.size + 1) 27 (setArr sb)) ⟨below_setRow (below_setRow (below_alloc (below_alloc HB30.out _) _) HB30.out.size _) (Nat.le_trans HB30.out.size (Nat.le_succ _)) _, (((T30.out.keep (below_alloc (Below.refl _ _) _)).keep (below_alloc (Below.refl _ _) _)).onlyB (only_row _ _ _) ((Blk.new _ _ _).alloc _) (by decide) (by decide)).onlyB (only_row _ _ _) ((Blk.new2 _ _ _ _).rowFar (by omega) _) (by decide) (by decide), (((Blk.new _ _ _).alloc _).row _).rowFar (by omega) _, ((Blk.new2 _ _ _ _).rowFar (by omega) _).row _⟩ ?_
          rintro wq ⟨hb, ht, hsa, hsb⟩
          have HBq := Aside0.mk hb
          have Tq := Aside0.mk ht
          have SA := Aside0.mk hsa
          have SB := Aside0.mk hsb
          clear hb ht hsa hsb hg0 hg1 HB30 T30
          generalize w30.heap.size = gx at *
          refine (frozen_ok tb gt n (orAll n b 0) (orAll n a 0) false false _ h2 (orAll_lt n a 0 (by decide)) Tq.out).mono ?_
          rintro e w31 ⟨gf, rfl, hg, hr, hB⟩
          have SA_31 := Aside0.mk (SA.out.keep hB)
          clear SA
          have SB_31 := Aside0.mk (SB.out.keep hB)
          clear SB
          have T31 := Aside0.mk (Tq.out.keep hB)
          have RF_31 := Aside0.mk hr
          have GE_RF : Aside0 (w.heap.size ≤ gf) := ⟨Nat.le_trans HBq.out.size hg⟩
          have HB31 := Aside0.mk (below_step HBq.out hB)
          clear hB hr hg HBq Tq
          go_wp2_with fail
          refine (track_now tb gt n (orAll n b 0) (orAll n a 0) false false true _ T31.out h2 (orAll_lt n b 0 (by decide))).mono ?_
          rintro e w32 ⟨gn, rfl, hg, hr, hB⟩
          have SA_32 := Aside0.mk (SA_31.out.keep hB)
          clear SA_31
          have SB_32 := Aside0.mk (SB_31.out.keep hB)
          clear SB_31
          have RF_32 := Aside0.mk (RF_31.out.keep hB)
          clear RF_31
          have T32 := Aside0.mk (T31.out.keep hB)
          have RN_32 := Aside0.mk hr
          have GE_RN : Aside0 (w.heap.size ≤ gn) := ⟨Nat.le_trans HB31.out.size hg⟩
          have HB32 := Aside0.mk (below_step HB31.out hB)
          clear hB hr hg HB31 T31
          go_wp2_with fail
          generalize hla2 : spansOf (markS n (orAll n a 0) false) = La at *
          generalize hlb2 : spansOf (markS n (orAll n b 0) false) = Lb at *
          have TLa : Aside0 (Tidy 0 La) := ⟨hla2 ▸ spansOf_tidy _⟩
          have TLb : Aside0 (Tidy 0 Lb) := ⟨hlb2 ▸ spansOf_tidy _⟩
          clear hla2 hlb2
          generalize hxa : orAll n a 0 = xa at *
          generalize hxb : orAll n b 0 = xb at *
          have Hxa : Aside0 (xa < 18446744073709551616) := ⟨hxa ▸ orAll_lt n a 0 (by decide)⟩
          have Hxb : Aside0 (xb < 18446744073709551616) := ⟨hxb ▸ orAll_lt n b 0 (by decide)⟩
          clear hxa hxb
          obtain ⟨b1, hb1⟩ : ∃ z, RunsAt w32 z gf La := ⟨_, RF_32.out⟩
          obtain ⟨b2, hb2⟩ : ∃ z, RunsAt w32 z gn Lb := ⟨_, RN_32.out⟩
          have RF := Aside0.mk hb1
          have RN := Aside0.mk hb2
          clear hb1 hb2 RF_32 RN_32
          go_loopg [16] n (fun kq v wq => ∃ i : Nat, i + kq = n ∧ v = .int .i64 (i : Int) ∧ Aside0 (Below w.heap.size w wq) ∧ Aside0 (TrackAt wq tb gt n xb xa false false true) ∧ Aside0 (RunsAt wq b1 gf La) ∧ Aside0 (RunsAt wq b2 gn Lb) ∧ Aside0 (Blk wq gx 27 (setArr sa)) ∧ Aside0 (Blk wq (gx + 1) 27 (setArr sb)))
          case atStart => exact ⟨0, by omega, rfl, HB32, T32, RF, RN, SA_32, SB_32⟩
          case round =>
            clear HB32 T32 RF RN SA_32 SB_32
            obtain ⟨i, hi, rfl, HB, HT, RF, RN, SA, SB⟩ := hrel
            by_cases hlt : i < n
            · have hlt' : (i : Int) < (n : Int) := by omega
              have hi0 : (0 : Int) ≤ (i : Int) := by omega
              have hi1 : (i : Int) < 64 := by omega
              have ca := SA.out.cell (setArr_get sa i (by have := hla.out; omega))
              have cb := SB.out.cell (setArr_get sb i (by have := hlb.out; omega))
              have ma := Aside0.mk (Ma.out i hlt)
              have mb := Aside0.mk (Mb.out i hlt)
              obtain ⟨kk, rfl⟩ : ∃ z, gk = z + 1 := ⟨gk - 1, by omega⟩
              generalize sa.getD i false = p at *
              generalize sb.getD i false = q at *
              go_wp2_with fail
              refine start_ (n := 16) (S := fun w' => Below w.heap.size w w' ∧ TrackAt w' tb gt n xb xa false false true ∧ RunsAt w' b1 gf La ∧ RunsAt w' b2 gn Lb ∧ Blk w' gx 27 (setArr sa) ∧ Blk w' (gx + 1) 27 (setArr sb) ∧ w'.cell? ⟨gx, i, none⟩ = some (.bool p) ∧ w'.cell? ⟨gx + 1, i, none⟩ = some (.bool q)) (ds := []) #[false, false, false, false, false, false, false, false, false, false, false, false, false, false, false, false] (by kernel_rfl) rfl rfl ⟨(below_drew1 HB.out), (TrackAt.keep HT.out (below_drew1 (Below.refl _ _))), (RunsAt.keep RF.out (below_drew1 (Below.refl _ _))), (RunsAt.keep RN.out (below_drew1 (Below.refl _ _))), (Blk.drew SA.out), (Blk.drew SB.out), ca, cb⟩ (fun hHeld => ?_)
              refine pure_ (i := 0) (N := some 121) (v := ?_) (a' := ?_) #[true, false, false, false, false, false, false, false, false, false, false, false, false, false, false, false] rfl rfl (by kernel_rfl) (fun _ _ _ h => h) (Or.inl ⟨by rfl, ?_⟩) ?_ ?_
              rotate_left
              · intro w'
                go_simp
                with_reducible rfl
              rotate_left
              · simp only [Act.put, List.setIfInBounds_toArray, List.set_cons_zero, List.set_cons_succ, i64_w, i32_w]
                rfl
              refine pure_ (i := 1) (N := some 122) (v := ?_) (a' := ?_) #[true, true, false, false, false, false, false, false, false, false, false, false, false, false, false, false] rfl rfl (by kernel_rfl) (fun _ _ _ h => h) (Or.inl ⟨by rfl, ?_⟩) ?_ ?_
              rotate_left
              · intro w'
                go_simp
                with_reducible rfl
              rotate_left
              · simp only [Act.put, List.setIfInBounds_toArray, List.set_cons_zero, List.set_cons_succ, i64_w, i32_w]
                rfl
              refine pure_ (i := 3) (N := some 124) (v := ?_) (a' := ?_) #[true, true, false, true, false, false, false, false, false, false, false, false, false, false, false, false] rfl rfl (by kernel_rfl) (fun _ _ _ h => h) (Or.inl ⟨by rfl, ?_⟩) ?_ ?_
              rotate_left
              · intro w'
                go_simp
                with_reducible rfl
              rotate_left
              · simp only [Act.put, List.setIfInBounds_toArray, List.set_cons_zero, List.set_cons_succ, i64_w, i32_w]
                rfl
              refine pure_ (i := 4) (N := some 125) (v := ?_) (a' := ?_) #[true, true, false, true, true, false, false, false, false, false, false, false, false, false, false, false] rfl rfl (by kernel_rfl) (fun _ _ _ h => h) (Or.inl ⟨by rfl, ?_⟩) ?_ ?_
              rotate_left
              · intro w'
                go_simp
                with_reducible rfl
              rotate_left
              · simp only [Act.put, List.setIfInBounds_toArray, List.set_cons_zero, List.set_cons_succ, i64_w, i32_w]
                rfl
              refine take_ (i := 5) (N := some 126) (v := ?_) (a' := ?_) #[true, true, false, true, true, true, false, false, false, false, false, false, false, false, false, false] rfl rfl (by kernel_rfl) (fun _ _ _ h => h) (Or.inl ⟨by rfl, ?_⟩) hHeld ?_ ?_
              rotate_left
              · rintro w' ⟨s0, s1, s2, s3, s4, s5, s6, s7⟩
                go_simp
                with_reducible rfl
              rotate_left
              · simp only [Act.put, List.setIfInBounds_toArray, List.set_cons_zero, List.set_cons_succ, i64_w, i32_w]
                rfl
              refine one_ (i := 2) (N := some 123) #[true, true, true, true, true, true, false, false, false, false, false, false, false, false, false, false] rfl rfl (by kernel_rfl) (by decide) (fun K hK => ?_)
              refine goes_ Try.func43 (by kernel_rfl) rfl #[ptrR gf, .int .i64 (i : Int)] (by rfl) rfl rfl (by simp only [List.map_toArray, List.map_cons, List.map_nil]; rfl) ?_
              with_reducible refine (runs_has b1 gf La (i : Int) _ TLa.out hHeld.2.2.1).mono ?_
              rintro e w50 ⟨rfl, hb⟩
              refine ⟨_, rfl, ?_⟩
              rw [ma.out]
              refine hK.out _ _ ⟨(below_step hHeld.1 hb), (TrackAt.keep hHeld.2.1 hb), (RunsAt.keep hHeld.2.2.1 hb), (RunsAt.keep hHeld.2.2.2.1 hb), (Blk.keep hHeld.2.2.2.2.1 hb), (Blk.keep hHeld.2.2.2.2.2.1 hb), (keep hb hHeld.2.2.2.2.2.2.1), (keep hb hHeld.2.2.2.2.2.2.2)⟩ (fun hHeld => ?_)
              clear hK K
              refine norm_ (a' := ?_) ?_ ?_
              rotate_left
              · show Act.put _ (some 123) _ = _
                simp only [Act.put, List.setIfInBounds_toArray, List.set_cons_zero, List.set_cons_succ, i64_w, i32_w]
                rfl
              refine pure_ (i := 6) (N := some 127) (v := ?_) (a' := ?_) #[true, true, true, true, true, true, true, false, false, false, false, false, false, false, false, false] rfl rfl (by kernel_rfl) (fun _ _ _ h => h) (Or.inl ⟨by rfl, ?_⟩) ?_ ?_
              rotate_left
              · intro w'
                go_simp
                with_reducible rfl
              rotate_left
              · simp only [Act.put, List.setIfInBounds_toArray, List.set_cons_zero, List.set_cons_succ, i64_w, i32_w]
                rfl
              refine pure_ (i := 7) (N := some 128) (v := ?_) (a' := ?_) #[true, true, true, true, true, true, true, true, false, false, false, false, false, false, false, false] rfl rfl (by kernel_rfl) (fun _ _ _ h => h) (Or.inl ⟨by rfl, ?_⟩) ?_ ?_
              rotate_left
              · intro w'
                go_simp
                with_reducible rfl
              rotate_left
              · simp only [Act.put, List.setIfInBounds_toArray, List.set_cons_zero, List.set_cons_succ, i64_w, i32_w]
                rfl
              refine pure_ (i := 8) (N := some 129) (v := ?_) (a' := ?_) #[true, true, true, true, true, true, true, true, true, false, false, false, false, false, false, false] rfl rfl (by kernel_rfl) (fun _ _ _ h => h) (Or.inl ⟨by rfl, ?_⟩) ?_ ?_
              rotate_left
              · intro w'
                go_simp
                with_reducible rfl
              rotate_left
              · simp only [Act.put, List.setIfInBounds_toArray, List.set_cons_zero, List.set_cons_succ, i64_w, i32_w]
                rfl
              refine pure_ (i := 9) (N := some 130) (v := ?_) (a' := ?_) #[true, true, true, true, true, true, true, true, true, true, false, false, false, false, false, false] rfl rfl (by kernel_rfl) (fun _ _ _ h => h) (Or.inl ⟨by rfl, ?_⟩) ?_ ?_
              rotate_left
              · intro w'
                go_simp
                with_reducible rfl
              rotate_left
              · simp only [Act.put, List.setIfInBounds_toArray, List.set_cons_zero, List.set_cons_succ, i64_w, i32_w]
                rfl
              refine pure_ (i := 11) (N := some 132) (v := ?_) (a' := ?_) #[true, true, true, true, true, true, true, true, true, true, false, true, false, false, false, false] rfl rfl (by kernel_rfl) (fun _ _ _ h => h) (Or.inl ⟨by rfl, ?_⟩) ?_ ?_
              rotate_left
              · intro w'
                go_simp
                with_reducible rfl
              rotate_left
              · simp only [Act.put, List.setIfInBounds_toArray, List.set_cons_zero, List.set_cons_succ, i64_w, i32_w]
                rfl
              refine pure_ (i := 12) (N := some 133) (v := ?_) (a' := ?_) #[true, true, true, true, true, true, true, true, true, true, false, true, true, false, false, false] rfl rfl (by kernel_rfl) (fun _ _ _ h => h) (Or.inl ⟨by rfl, ?_⟩) ?_ ?_
              rotate_left
              · intro w'
                go_simp
                with_reducible rfl
              rotate_left
              · simp only [Act.put, List.setIfInBounds_toArray, List.set_cons_zero, List.set_cons_succ, i64_w, i32_w]
                rfl
              refine take_ (i := 13) (N := some 134) (v := ?_) (a' := ?_) #[true, true, true, true, true, true, true, true, true, true, false, true, true, true, false, false] rfl rfl (by kernel_rfl) (fun _ _ _ h => h) (Or.inl ⟨by rfl, ?_⟩) hHeld ?_ ?_
              rotate_left
              · rintro w' ⟨s0, s1, s2, s3, s4, s5, s6, s7⟩
                go_simp
                with_reducible rfl
              rotate_left
              · simp only [Act.put, List.setIfInBounds_toArray, List.set_cons_zero, List.set_cons_succ, i64_w, i32_w]
                rfl
              refine one_ (i := 10) (N := some 131) #[true, true, true, true, true, true, true, true, true, true, true, true, true, true, false, false] rfl rfl (by kernel_rfl) (by decide) (fun K hK => ?_)
              refine goes_ Try.func43 (by kernel_rfl) rfl #[ptrR gn, .int .i64 (i : Int)] (by rfl) rfl rfl (by simp only [List.map_toArray, List.map_cons, List.map_nil]; rfl) ?_
              with_reducible refine (runs_has b2 gn Lb (i : Int) _ TLb.out hHeld.2.2.2.1).mono ?_
              rintro e w50 ⟨rfl, hb⟩
              refine ⟨_, rfl, ?_⟩
              rw [mb.out]
              refine hK.out _ _ ⟨(below_step hHeld.1 hb), (TrackAt.keep hHeld.2.1 hb), (RunsAt.keep hHeld.2.2.1 hb), (RunsAt.keep hHeld.2.2.2.1 hb), (Blk.keep hHeld.2.2.2.2.1 hb), (Blk.keep hHeld.2.2.2.2.2.1 hb), (keep hb hHeld.2.2.2.2.2.2.1), (keep hb hHeld.2.2.2.2.2.2.2)⟩ (fun hHeld => ?_)
              clear hK K
              refine norm_ (a' := ?_) ?_ ?_
              rotate_left
              · show Act.put _ (some 131) _ = _
                simp only [Act.put, List.setIfInBounds_toArray, List.set_cons_zero, List.set_cons_succ, i64_w, i32_w]
                rfl
              refine pure_ (i := 14) (N := some 135) (v := ?_) (a' := ?_) #[true, true, true, true, true, true, true, true, true, true, true, true, true, true, true, false] rfl rfl (by kernel_rfl) (fun _ _ _ h => h) (Or.inl ⟨by rfl, ?_⟩) ?_ ?_
              rotate_left
              · intro w'
                go_simp
                with_reducible rfl
              rotate_left
              · simp only [Act.put, List.setIfInBounds_toArray, List.set_cons_zero, List.set_cons_succ, i64_w, i32_w]
                rfl
              refine pure_ (i := 15) (N := some 136) (v := ?_) (a' := ?_) #[true, true, true, true, true, true, true, true, true, true, true, true, true, true, true, true] rfl rfl (by kernel_rfl) (fun _ _ _ h => h) (Or.inl ⟨by rfl, ?_⟩) ?_ ?_
              rotate_left
              · intro w'
                go_simp
                with_reducible rfl
              rotate_left
              · simp only [Act.put, List.setIfInBounds_toArray, List.set_cons_zero, List.set_cons_succ, i64_w, i32_w]
                rfl
              refine done_ (by kernel_rfl) ?_
              replace HB := Aside0.mk hHeld.1
              replace HT := Aside0.mk hHeld.2.1
              replace RF := Aside0.mk hHeld.2.2.1
              replace RN := Aside0.mk hHeld.2.2.2.1
              replace SA := Aside0.mk hHeld.2.2.2.2.1
              replace SB := Aside0.mk hHeld.2.2.2.2.2.1
              clear hHeld ca cb
              go_wp2_with fail
              go_roundg kk
              case measure => omega
              case rel => exact ⟨i + 1, by omega, by go_num, HB, HT, RF, RN, SA, SB⟩
            · have hlt' : ¬ (i : Int) < (n : Int) := by omega
              go_wp2_with fail
              refine (commit_ok tb gt n xb xa false false _ h2 HT.out).mono ?_
              rintro e w61 ⟨rfl, ht, hB⟩
              have T61 := Aside0.mk ht
              have HB61 := Aside0.mk (below_mix HB.out GB.out hB)
              clear hB ht HB HT
              go_wp2_with fail
              refine (frozen_idle tb gt n xb 0 false false _ h2 (by decide) T61.out).mono ?_
              rintro e w62 ⟨gy, rfl, hg, hr, hB⟩
              have T62 := Aside0.mk (T61.out.keep hB)
              have Y_62 := Aside0.mk hr
              have GE_Y : Aside0 (w.heap.size ≤ gy) := ⟨Nat.le_trans HB61.out.size hg⟩
              have HB62 := Aside0.mk (below_step HB61.out hB)
              clear hB hr hg HB61 T61
              go_wp2_with fail
              refine (frozen_idle tb gt n xb 0 false false _ h2 (by decide) T62.out).mono ?_
              rintro e w63 ⟨gz, rfl, hg, hr, hB⟩
              have Y_63 := Aside0.mk (Y_62.out.keep hB)
              clear Y_62
              have T63 := Aside0.mk (T62.out.keep hB)
              have Z_63 := Aside0.mk hr
              have GE_Z : Aside0 (w.heap.size ≤ gz) := ⟨Nat.le_trans HB62.out.size hg⟩
              have HB63 := Aside0.mk (below_step HB62.out hB)
              clear hB hr hg HB62 T62
              go_wp2_with fail
              refine (runs_count _ gz [] _ trivial Z_63.out).mono ?_
              rintro e w64 ⟨rfl, hB⟩
              rw [show sumN [] = 0 from rfl]
              have T64 := Aside0.mk (T63.out.keep hB)
              have Y_64 := Aside0.mk (Y_63.out.keep hB)
              clear Y_63
              have Z_64 := Aside0.mk (Z_63.out.keep hB)
              clear Z_63
              have HB64 := Aside0.mk (below_step HB63.out hB)
              clear hB HB63 T63
              go_wp2_with fail
              refine (commit_idle tb gt n xb 0 false false _ h2 T64.out).mono ?_
              rintro e w65 ⟨rfl, ht, hB⟩
              have T65 := Aside0.mk ht
              have HB65 := Aside0.mk (below_mix HB64.out GB.out hB)
              clear hB ht HB64 T64
              go_wp2_with fail
              go_ret
              exact ⟨rfl, HB65.out⟩
theorem walk (b : Int) (A : Option Addr) (c : Nat) (l : List S31) (B : Option Addr) (d : Nat) (m : List S31) (w : World) (_ : (Lit.int .i64 b).wf = true) (hc : l.length ≤ c) (hA : Kd.C k31 w A l.length l) (hd : m.length ≤ d) (hB : Kd.C k31 w B m.length m) :
    Calls Try.prog 8 #[.int .i64 b, .slice A l.length c, .slice B m.length d] w fun e w' => e = .returned (.bool true) ∧ Below w.heap.size w w' := by
  by_cases h : b < 1 ∨ (¬ b < 1 ∧ 64 < b) ∨ (¬ b < 1 ∧ ¬ 64 < b ∧ 20 < (l.length : Int)) ∨ (¬ b < 1 ∧ ¬ 64 < b ∧ ¬ 20 < (l.length : Int) ∧ 20 < (m.length : Int))
  · exact early b A c l B d m w h
  · obtain ⟨n, rfl⟩ := Int.eq_ofNat_of_zero_le (show 0 ≤ b by omega)
    exact main n A c l B d m w (by omega) (by omega) (by omega) (by omega) hc hd hA hB
end Go.Proofs.Ytffemlfdhkndiaa.WTrackFrozen
