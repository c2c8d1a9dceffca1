/- TrackKeeps, walked: no mark is lost by a backup that is given up. -/
import Derived.Test.YtffemlfdhkndiaaTrackC
import Derived.Test.YtffemlfdhkndiaaAbs
import Derived.Deep.WholeRow
import Derived.Test.YtffemlfdhkndiaaAx0
namespace Go.Proofs.Ytffemlfdhkndiaa.WTrackKeeps
open Go.RowKit Go.Proofs.YtffemlfdhkndiaaW.PrintWords Go.Proofs.YtffemlfdhkndiaaW.PrintLast Go.Proofs.YtffemlfdhkndiaaW.PrintMore Go.Proofs.Ytffemlfdhkndiaa.A Go.Proofs.Ytffemlfdhkndiaa.Bits Go.Proofs.Ytffemlfdhkndiaa.Hand
set_option linter.unusedVariables false
set_option linter.unusedSimpArgs false
attribute [local go_sem] max2_int min2_int max_two min_two max_three min_three max_four min_four
theorem marked (n : Nat) (hn : n ≤ 64) (l : List S31) (k : Nat) (hk : k < n) : (orAll n l 0).testBit k = (putS none64 l true).getD k false :=
  orAll_put n k hk l 0 none64 (by simp) (by rw [Nat.zero_testBit, none64_get])
theorem memB_bits (n x k : Nat) (hn : n ≤ 64) (hk : k < n) : memB (spansOf (bitsS n x)) (k : Int) = x.testBit k := by
  rw [Bool.eq_iff_iff, memB_iff, bits_mem, Int.toNat_natCast]
  exact ⟨fun h => h.2.2.2, fun h => ⟨by omega, by omega, by omega, h⟩⟩
/-- Both sets' first marks; behind them the second one's. -/
def orUp (a b : List Bool) (k : Nat) : List Bool := (List.range 64).map fun j => if j < k then a.getD j false || b.getD j false else b.getD j false
theorem orUp_length (a b : List Bool) (k : Nat) : (orUp a b k).length = 64 := by unfold orUp; simp
theorem orUp_get (a b : List Bool) (k j : Nat) (hj : j < 64) : (orUp a b k).getD j false = if j < k then a.getD j false || b.getD j false else b.getD j false := by
  unfold orUp
  rw [List.getD_eq_getElem?_getD, List.getElem?_map, List.getElem?_range hj]; rfl
theorem orUp_zero (a b : List Bool) (hb : b.length = 64) : orUp a b 0 = b := by
  apply List.ext_getElem?
  intro j
  by_cases hj : j < 64
  · unfold orUp
    rw [List.getElem?_map, List.getElem?_range hj, List.getElem?_eq_getElem (by omega)]
    simp [List.getD_eq_getElem?_getD, List.getElem?_eq_getElem (show j < b.length by omega)]
  · rw [List.getElem?_eq_none (by rw [orUp_length]; omega), List.getElem?_eq_none (by omega)]
theorem orUp_step (a b : List Bool) (k : Nat) (hk : k < 64) : (orUp a b k).set k (a.getD k false || b.getD k false) = orUp a b (k + 1) := by
  apply List.ext_getElem?
  intro j
  rw [List.getElem?_set]
  by_cases hj : j < 64
  · unfold orUp
    rw [List.getElem?_map, List.getElem?_map, List.getElem?_range hj]
    by_cases e : k = j
    · subst e
      simp [hk]
    · rw [if_neg e]
      by_cases h : j < k
      · simp [h, show j < k + 1 by omega]
      · simp [h, show ¬ j < k + 1 by omega]
  · rw [if_neg (by omega), List.getElem?_eq_none (by rw [orUp_length]; omega), List.getElem?_eq_none (by rw [orUp_length]; omega)]
set_option maxRecDepth 100000 in
theorem early (b : Int) (A : Option Addr) (c : Nat) (l : List S31) (B : Option Addr) (d : Nat) (m : List S31) (u v : Bool) (w : World) (h : b < 1 ∨ (¬ b < 1 ∧ 64 < b) ∨ (¬ b < 1 ∧ ¬ 64 < b ∧ 20 < (l.length : Int)) ∨ (¬ b < 1 ∧ ¬ 64 < b ∧ ¬ 20 < (l.length : Int) ∧ 20 < (m.length : Int))) :
    Calls Try.prog 10 #[.int .i64 b, .slice A l.length c, .slice B m.length d, .bool u, .bool v] w fun e w' => e = .returned (.bool true) ∧ Below w.heap.size w w' := by
  rcases h with h | ⟨h0, h⟩ | ⟨h0, h1, h⟩ | ⟨h0, h1, h2, h⟩
  all_goals
    go_enter Try.func10, Try.ntmps10
    go_wp2_with (go_at_call 35; refine (alive6 _).mono ?_; rintro e w1 ⟨rfl, hB⟩)
    go_ret
    exact ⟨rfl, hB⟩
set_option maxRecDepth 100000 in
set_option maxHeartbeats 6400000 in
theorem main_dl (n : Nat) (A : Option Addr) (c : Nat) (a : List S31) (B : Option Addr) (d : Nat) (b : List S31) (w : World) (h1 : 1 ≤ n) (h2 : n ≤ 64) (h3 : a.length ≤ 20) (h4 : b.length ≤ 20) (hc : a.length ≤ c) (hd : b.length ≤ d) (hA : Kd.C k31 w A a.length a) (hB0 : Kd.C k31 w B b.length b) :
    Calls Try.prog 10 #[.int .i64 (n : Int), .slice A a.length c, .slice B b.length d, .bool true, .bool true] w fun e w' => e = .returned (.bool true) ∧ Below w.heap.size w w' := by
  have CA := Aside0.mk hA
  have CB := Aside0.mk hB0
  have Hc := Aside0.mk hc
  have Hd := Aside0.mk hd
  have i1 : ¬ (n : Int) < 1 := by omega
  have i2 : ¬ (64 : Int) < (n : Int) := by omega
  have i3 : ¬ (20 : Int) < (a.length : Int) := by omega
  have i4 : ¬ (20 : Int) < (b.length : Int) := by omega
  have i5 : (1 : Int) ≤ (n : Int) := by omega
  have i6 : (n : Int) ≤ 64 := by omega
  have i7 : (a.length : Int) ≤ 20 := by omega
  have i8 : (b.length : Int) ≤ 20 := by omega
  have HB0 := Aside0.mk (Below.refl w.heap.size w)
  clear hA hB0 hc hd
  go_enter Try.func10, Try.ntmps10
  go_wp2_with fail
  refine (alive6 _).mono ?_
  rintro e w1 ⟨rfl, hB⟩
  have HB1 := Aside0.mk (below_step HB0.out hB)
  clear hB HB0
  go_wp2_with fail
  refine (track_new n h1 h2 _).mono ?_
  rintro e w2 ⟨gt, rfl, ht, hB⟩
  obtain ⟨tb, htb⟩ : ∃ n, n = w1.heap.size := ⟨_, rfl⟩
  rw [← htb] at ht
  have GB : Aside0 (w.heap.size ≤ tb) := ⟨by rw [htb]; exact HB1.out.size⟩
  have T2 := Aside0.mk ht
  have HB2 := Aside0.mk (below_step HB1.out hB)
  clear ht hB htb HB1
  go_wp2_with fail
  refine (freeze_ok tb gt n 0 0 true false _ h2 T2.out).mono ?_
  rintro e w3 ⟨rfl, ht, hB⟩
  have T3 := Aside0.mk ht
  have HB3 := Aside0.mk (below_mix HB2.out GB.out hB)
  clear hB ht HB2 T2
  go_wp2_with fail
  refine (commit_ok tb gt n 0 0 false true _ h2 T3.out).mono ?_
  rintro e w4 ⟨rfl, ht, hB⟩
  have T4 := Aside0.mk ht
  have HB4 := Aside0.mk (below_mix HB3.out GB.out hB)
  clear hB ht HB3 T3
  go_wp2_with fail
  refine (emulsionref1_Set_Put.calls none64 ⟨by simp⟩ A c a true _ (Kd.C_below CA.out HB4.out) Hc.out).mono ?_
  rintro e w5 ⟨rfl, hB⟩
  have T5 := Aside0.mk (T4.out.keep hB)
  have HB5 := Aside0.mk (below_step HB4.out hB)
  clear hB HB4 T4
  go_wp2_with fail
  refine (emulsionref1_Set_Put.calls none64 ⟨by simp⟩ B d b true _ (Kd.C_below CB.out HB5.out) Hd.out).mono ?_
  rintro e w6 ⟨rfl, hB⟩
  have T6 := Aside0.mk (T5.out.keep hB)
  have HB6 := Aside0.mk (below_step HB5.out hB)
  clear hB HB5 T5
  have hla : Aside0 ((putS none64 a true).length = 64) := ⟨(putS_length _ _ _).trans (by simp)⟩
  have hlb : Aside0 ((putS none64 b true).length = 64) := ⟨(putS_length _ _ _).trans (by simp)⟩
  have Ma := Aside0.mk (marked n h2 a)
  have Mb := Aside0.mk (marked n h2 b)
  generalize putS none64 a true = sa at *
  generalize putS none64 b true = sb at *
  go_wp2_with (first | (with_reducible refine wpList_store_row rfl 27 (.tmp 13) (.tmp 65) rfl (w6.heap.size) (setArr sa) rfl rfl 27 _ (heap_alloc2_old _ _ _) (by rw [setArr_size, hla.out] <;> exact info27) (by rw [setArr_size, hla.out] <;> with_unfolding_all rfl) (setArr_one _) ?_) | (with_reducible refine wpList_store_row rfl 27 (.tmp 14) (.tmp 68) rfl (w6.heap.size + 1) (setArr sb) rfl rfl 27 _ ((setRow_other _ _ _ _ (by omega)).trans (heap_alloc2_new _ _ _)) (by rw [setArr_size, hlb.out] <;> exact info27) (by rw [setArr_size, hlb.out] <;> with_unfolding_all rfl) (setArr_one _) ?_))
  refine code_abs (fun X => Below w.heap.size w X ∧ TrackAt X tb gt n 0 0 false false false ∧ Blk X w6.heap.size 27 (setArr sa) ∧ Blk X (w6.heap.size + 1) 27 (setArr sb)) ⟨below_setRow (below_setRow (below_alloc (below_alloc HB6.out _) _) HB6.out.size _) (Nat.le_trans HB6.out.size (Nat.le_succ _)) _, (((T6.out.keep (below_alloc (Below.refl _ _) _)).keep (below_alloc (Below.refl _ _) _)).onlyB (only_row _ _ _) ((Blk.new _ _ _).alloc _) (by decide) (by decide)).onlyB (only_row _ _ _) ((Blk.new2 _ _ _ _).rowFar (by omega) _) (by decide) (by decide), (((Blk.new _ _ _).alloc _).row _).rowFar (by omega) _, ((Blk.new2 _ _ _ _).rowFar (by omega) _).row _⟩ ?_
  rintro wq ⟨hb, ht, hsa, hsb⟩
  have HBq := Aside0.mk hb
  have Tq := Aside0.mk ht
  have SA := Aside0.mk hsa
  have SB := Aside0.mk hsb
  clear hb ht hsa hsb HB6 T6
  generalize w6.heap.size = gx at *
  go_loopg [15] a.length (fun kq v wq => ∃ i : Nat, i + kq = a.length ∧ v = .int .i64 (i : Int) ∧ Aside0 (Below w.heap.size w wq) ∧ Aside0 (TrackAt wq tb gt n (orAll n (a.take i) 0) 0 false false false) ∧ Aside0 (Blk wq gx 27 (setArr sa)) ∧ Aside0 (Blk wq (gx + 1) 27 (setArr sb)))
  case atStart => exact ⟨0, by omega, rfl, HBq, Tq, SA, SB⟩
  case round =>
    clear HBq Tq  SA SB
    obtain ⟨i, hi, rfl, HB, HT, SA, SB⟩ := hrel
    by_cases hlt : i < a.length
    · have hlt' : (i : Int) < (a.length : Int) := by omega
      obtain ⟨ad, e1, x0, x1⟩ := at_T31 (Kd.C_below CA.out HB.out) (i : Int) (by omega) (by omega)
      subst e1
      rw [Int.toNat_natCast] at x0 x1
      have hone := Aside0.mk (orAll_snoc n a 0 i hlt)
      have hyl := Aside0.mk (orAll_lt n (a.take i) 0 (by decide))
      generalize rd_T31 a (i : Int) = X at *
      generalize orAll n (a.take i) 0 = y at *
      obtain ⟨F, M⟩ := X
      simp only at x0 x1
      obtain ⟨kk, rfl⟩ : ∃ z, gk = z + 1 := ⟨gk - 1, by omega⟩
      go_wp2_with fail
      refine (track_mark tb gt n y 0 false false false _ HT.out F M h2 hyl.out).mono ?_
      rintro e w7 ⟨rfl, ht, hB⟩
      have SA_7 := Aside0.mk (SA.out.deep hB (by decide) (by decide))
      clear SA
      have SB_7 := Aside0.mk (SB.out.deep hB (by decide) (by decide))
      clear SB
      have T7 := Aside0.mk ht
      have HB7 := Aside0.mk (below_mix HB.out GB.out hB)
      clear hB ht HB HT
      generalize ((cnt (minus (markV n F M) y) : Nat) : Int) = zz at *
      go_wp2_with fail
      go_roundg kk
      case measure => omega
      case rel => exact ⟨i + 1, by omega, by go_num, HB7, by rw [hone.out]; exact T7, SA_7, SB_7⟩
    · have hlt' : ¬ (i : Int) < (a.length : Int) := by omega
      obtain rfl : i = a.length := by omega
      rw [List.take_length] at HT
      have HBa := HB
      have HTa := HT
      clear HB HT hlt hi
      have SAa := SA
      clear SA
      have SBa := SB
      clear SB
      go_wp2_with fail
      refine (track_lose tb gt n (orAll n a 0) 0 false false false _ HTa.out).mono ?_
      rintro e w17 ⟨rfl, ht, hB⟩
      have SA_17 := Aside0.mk (SAa.out.deep hB (by decide) (by decide))
      clear SAa
      have SB_17 := Aside0.mk (SBa.out.deep hB (by decide) (by decide))
      clear SBa
      have T17 := Aside0.mk ht
      have HB17 := Aside0.mk (below_mix HBa.out GB.out hB)
      clear hB ht HBa HTa
      go_wp2_with fail
      refine (freeze_ok tb gt n (orAll n a 0) 0 true false _ h2 T17.out).mono ?_
      rintro e w18 ⟨rfl, ht, hB⟩
      have SA_18 := Aside0.mk (SA_17.out.deep hB (by decide) (by decide))
      clear SA_17
      have SB_18 := Aside0.mk (SB_17.out.deep hB (by decide) (by decide))
      clear SB_17
      have T18 := Aside0.mk ht
      have HB18 := Aside0.mk (below_mix HB17.out GB.out hB)
      clear hB ht HB17 T17
      go_wp2_with fail
      refine (freeze_busy tb gt n 0 (orAll n a 0) false true _ h2 T18.out).mono ?_
      rintro e w19 ⟨rfl, ht, hB⟩
      have SA_19 := Aside0.mk (SA_18.out.deep hB (by decide) (by decide))
      clear SA_18
      have SB_19 := Aside0.mk (SB_18.out.deep hB (by decide) (by decide))
      clear SB_18
      have T19 := Aside0.mk ht
      have HB19 := Aside0.mk (below_mix HB18.out GB.out hB)
      clear hB ht HB18 T18
      go_wp2_with fail
      go_loopg [16] b.length (fun kq v wq => ∃ i : Nat, i + kq = b.length ∧ v = .int .i64 (i : Int) ∧ Aside0 (Below w.heap.size w wq) ∧ Aside0 (TrackAt wq tb gt n (orAll n (b.take i) 0) (orAll n a 0) false true true) ∧ Aside0 (Blk wq gx 27 (setArr sa)) ∧ Aside0 (Blk wq (gx + 1) 27 (setArr sb)))
      case atStart => exact ⟨0, by omega, rfl, HB19, T19, SA_19, SB_19⟩
      case round =>
        clear HB19 T19  SA_19 SB_19
        obtain ⟨i, hi, rfl, HB, HT, SA, SB⟩ := hrel
        by_cases hlt : i < b.length
        · have hlt' : (i : Int) < (b.length : Int) := by omega
          obtain ⟨ad, e1, x0, x1⟩ := at_T31 (Kd.C_below CB.out HB.out) (i : Int) (by omega) (by omega)
          subst e1
          rw [Int.toNat_natCast] at x0 x1
          have hone := Aside0.mk (orAll_snoc n b 0 i hlt)
          have hyl := Aside0.mk (orAll_lt n (b.take i) 0 (by decide))
          generalize rd_T31 b (i : Int) = X at *
          generalize orAll n (b.take i) 0 = y at *
          obtain ⟨F, M⟩ := X
          simp only at x0 x1
          obtain ⟨kk, rfl⟩ : ∃ z, gk = z + 1 := ⟨gk - 1, by omega⟩
          go_wp2_with fail
          refine (track_mark tb gt n y (orAll n a 0) false true true _ HT.out F M h2 hyl.out).mono ?_
          rintro e w20 ⟨rfl, ht, hB⟩
          have SA_20 := Aside0.mk (SA.out.deep hB (by decide) (by decide))
          clear SA
          have SB_20 := Aside0.mk (SB.out.deep hB (by decide) (by decide))
          clear SB
          have T20 := Aside0.mk ht
          have HB20 := Aside0.mk (below_mix HB.out GB.out hB)
          clear hB ht HB HT
          generalize ((cnt (minus (markV n F M) y) : Nat) : Int) = zz at *
          go_wp2_with fail
          go_roundg kk
          case measure => omega
          case rel => exact ⟨i + 1, by omega, by go_num, HB20, by rw [hone.out]; exact T20, SA_20, SB_20⟩
        · have hlt' : ¬ (i : Int) < (b.length : Int) := by omega
          obtain rfl : i = b.length := by omega
          rw [List.take_length] at HT
          have HBb := HB
          have HTb := HT
          clear HB HT hlt hi
          have SAb := SA
          clear SA
          have SBb := SB
          clear SB
          go_wp2_with (first | (with_reducible refine wpList_load_row rfl 27 (.tmp 14) rfl (gx + 1) rfl 27 _ (0, 0) _ SBb.out.hd Try.underlying27 rfl (by rw [setArr_size, hlb.out]; exact info27) ?_) | (with_reducible refine wpList_store_row rfl 27 (.tmp 17) (.tmp 104) rfl (wr.heap.size) (setArr sb) rfl rfl 27 _ (heap_alloc_new _ _) (by rw [setArr_size, hlb.out] <;> exact info27) (by rw [setArr_size, hlb.out] <;> with_unfolding_all rfl) (setArr_one _) ?_))
          rw [World.setRow_alloc_new]
          generalize hxa : orAll n a 0 = xa at *
          generalize hxb : orAll n b 0 = xb at *
          have Hxa : Aside0 (xa < 18446744073709551616) := ⟨hxa ▸ orAll_lt n a 0 (by decide)⟩
          have Hxb : Aside0 (xb < 18446744073709551616) := ⟨hxb ▸ orAll_lt n b 0 (by decide)⟩
          clear hxa hxb
          have HBw : Aside0 (Below w.heap.size w (wr.alloc (.cells (setArr sb) 27))) := ⟨below_alloc HBb.out _⟩
          have Tw := Aside0.mk (HTb.out.keep (below_alloc (Below.refl _ _) (.cells (setArr sb) 27)))
          have SAw := Aside0.mk (SAb.out.keep (below_alloc (Below.refl _ _) (.cells (setArr sb) 27)))
          have SBw := Aside0.mk (SBb.out.keep (below_alloc (Below.refl _ _) (.cells (setArr sb) 27)))
          have SW : Aside0 (Blk (wr.alloc (.cells (setArr sb) 27)) wr.heap.size 27 (setArr sb)) := ⟨Blk.new _ _ _⟩
          have hxw : Aside0 (gx < wr.heap.size ∧ gx + 1 < wr.heap.size ∧ w.heap.size ≤ wr.heap.size) := ⟨⟨SAb.out.lt, SBb.out.lt, HBb.out.size⟩⟩
          clear HBb HTb SAb SBb
          refine (commit_ok tb gt n xb xa false true _ h2 Tw.out).mono ?_
          rintro e w30 ⟨rfl, ht, hB⟩
          have SA_30 := Aside0.mk (SAw.out.deep hB (by decide) (by decide))
          clear SAw
          have SB_30 := Aside0.mk (SBw.out.deep hB (by decide) (by decide))
          clear SBw
          have SW_30 := Aside0.mk (SW.out.deep hB (by decide) (by decide))
          clear SW
          have T30 := Aside0.mk ht
          have HB30 := Aside0.mk (below_mix HBw.out GB.out hB)
          clear hB ht HBw Tw
          generalize wr.heap.size = gw at *
          have hlw := hlb
          go_wp2_with fail
          refine (track_now tb gt n xb 0 false false false _ T30.out h2 Hxb.out).mono ?_
          rintro e w31 ⟨gn, rfl, hg, hr, hB⟩
          have SA_31 := Aside0.mk (SA_30.out.keep hB)
          clear SA_30
          have SB_31 := Aside0.mk (SB_30.out.keep hB)
          clear SB_30
          have SW_31 := Aside0.mk (SW_30.out.keep hB)
          clear SW_30
          have T31 := Aside0.mk (T30.out.keep hB)
          have RN_31 := Aside0.mk hr
          have GE_RN : Aside0 (w.heap.size ≤ gn) := ⟨Nat.le_trans HB30.out.size hg⟩
          have HB31 := Aside0.mk (below_step HB30.out hB)
          clear hB hr hg HB30 T30
          go_wp2_with fail
          refine (track_lost tb gt n xb 0 false false false _ T31.out).mono ?_
          rintro e w32 ⟨rfl, hB⟩
          have T32 := Aside0.mk (T31.out.keep hB)
          have SA_32 := Aside0.mk (SA_31.out.keep hB)
          clear SA_31
          have SB_32 := Aside0.mk (SB_31.out.keep hB)
          clear SB_31
          have SW_32 := Aside0.mk (SW_31.out.keep hB)
          clear SW_31
          have RN_32 := Aside0.mk (RN_31.out.keep hB)
          clear RN_31
          have HB32 := Aside0.mk (below_step HB31.out hB)
          clear hB HB31 T31
          have hm : Aside0 (∀ k, k < n → memB (spansOf (markS n xb false)) (k : Int) = (sb.getD k false)) := ⟨fun k hk => by show memB (spansOf (bitsS n xb)) _ = _; rw [memB_bits n xb k h2 hk]; exact Mb.out k hk⟩
          generalize hL : spansOf (markS n xb false) = Ln at *
          have TL : Aside0 (Tidy 0 Ln) := ⟨hL ▸ spansOf_tidy _⟩
          clear hL
          obtain ⟨b1, hb1⟩ : ∃ z, RunsAt w32 z gn Ln := ⟨_, RN_32.out⟩
          have RN := Aside0.mk hb1
          clear hb1 RN_32 SA_32 SB_32
          generalize hsw : sb = sw at *
          go_wp2_with fail
          go_loopg [20] n (fun kq v wq => ∃ i : Nat, i + kq = n ∧ v = .int .i64 (i : Int) ∧ Aside0 (Below w.heap.size w wq) ∧ Aside0 (TrackAt wq tb gt n xb 0 false false false) ∧ Aside0 (RunsAt wq b1 gn Ln) ∧ Aside0 (Blk wq gw 27 (setArr sw)))
          case atStart => exact ⟨0, by omega, rfl, HB32, T32, RN, SW_32⟩
          case round =>
            clear HB32 T32 RN SW_32
            obtain ⟨i, hi, rfl, HB, HT, RN, SW⟩ := hrel
            by_cases hlt : i < n
            · have hlt' : (i : Int) < (n : Int) := by omega
              have hi0 : (0 : Int) ≤ (i : Int) := by omega
              have hi1 : (i : Int) < 64 := by omega
              have cw := SW.out.cell (setArr_get sw i (by have := hlw.out; omega))
              have mb := Aside0.mk (hm.out i hlt)
              obtain ⟨kk, rfl⟩ : ∃ z, gk = z + 1 := ⟨gk - 1, by omega⟩
              generalize sw.getD i false = p at *
              cases p
              · go_wp2_with fail
                refine start_ (n := 14) (S := fun w' => Below w.heap.size w w' ∧ TrackAt w' tb gt n xb 0 false false false ∧ RunsAt w' b1 gn Ln ∧ Blk w' gw 27 (setArr sw) ∧ w'.cell? ⟨gw, i, none⟩ = some (.bool false)) (ds := []) #[false, false, false, false, false, false, false, false, false, false, false, false, false, false] (by kernel_rfl) rfl rfl ⟨(below_drew1 HB.out), (TrackAt.keep HT.out (below_drew1 (Below.refl _ _))), (RunsAt.keep RN.out (below_drew1 (Below.refl _ _))), (Blk.drew SW.out), cw⟩ (fun hHeld => ?_)
                refine pure_ (i := 0) (N := some 145) (v := ?_) (a' := ?_) #[true, false, false, false, false, false, false, false, false, false, false, false, false, false] rfl rfl (by kernel_rfl) (fun _ _ _ h => h) (Or.inl ⟨by rfl, ?_⟩) ?_ ?_
                rotate_left
                · intro w'
                  go_simp
                  with_reducible rfl
                rotate_left
                · simp only [Act.put, List.setIfInBounds_toArray, List.set_cons_zero, List.set_cons_succ, i64_w, i32_w]
                  rfl
                refine pure_ (i := 1) (N := some 146) (v := ?_) (a' := ?_) #[true, true, false, false, false, false, false, false, false, false, false, false, false, false] rfl rfl (by kernel_rfl) (fun _ _ _ h => h) (Or.inl ⟨by rfl, ?_⟩) ?_ ?_
                rotate_left
                · intro w'
                  go_simp
                  with_reducible rfl
                rotate_left
                · simp only [Act.put, List.setIfInBounds_toArray, List.set_cons_zero, List.set_cons_succ, i64_w, i32_w]
                  rfl
                refine pure_ (i := 3) (N := some 148) (v := ?_) (a' := ?_) #[true, true, false, true, false, false, false, false, false, false, false, false, false, false] rfl rfl (by kernel_rfl) (fun _ _ _ h => h) (Or.inl ⟨by rfl, ?_⟩) ?_ ?_
                rotate_left
                · intro w'
                  go_simp
                  with_reducible rfl
                rotate_left
                · simp only [Act.put, List.setIfInBounds_toArray, List.set_cons_zero, List.set_cons_succ, i64_w, i32_w]
                  rfl
                refine pure_ (i := 4) (N := some 149) (v := ?_) (a' := ?_) #[true, true, false, true, true, false, false, false, false, false, false, false, false, false] rfl rfl (by kernel_rfl) (fun _ _ _ h => h) (Or.inl ⟨by rfl, ?_⟩) ?_ ?_
                rotate_left
                · intro w'
                  go_simp
                  with_reducible rfl
                rotate_left
                · simp only [Act.put, List.setIfInBounds_toArray, List.set_cons_zero, List.set_cons_succ, i64_w, i32_w]
                  rfl
                refine take_ (i := 5) (N := some 150) (v := ?_) (a' := ?_) #[true, true, false, true, true, true, false, false, false, false, false, false, false, false] rfl rfl (by kernel_rfl) (fun _ _ _ h => h) (Or.inl ⟨by rfl, ?_⟩) hHeld ?_ ?_
                rotate_left
                · rintro w' ⟨s0, s1, s2, s3, s4⟩
                  go_simp
                  with_reducible rfl
                rotate_left
                · simp only [Act.put, List.setIfInBounds_toArray, List.set_cons_zero, List.set_cons_succ, i64_w, i32_w]
                  rfl
                refine one_ (i := 2) (N := some 147) #[true, true, true, true, true, true, false, false, false, false, false, false, false, false] rfl rfl (by kernel_rfl) (by decide) (fun K hK => ?_)
                refine goes_ Try.func43 (by kernel_rfl) rfl #[ptrR gn, .int .i64 (i : Int)] (by rfl) rfl rfl (by simp only [List.map_toArray, List.map_cons, List.map_nil]; rfl) ?_
                with_reducible refine (runs_has b1 gn Ln (i : Int) _ TL.out hHeld.2.2.1).mono ?_
                rintro e w50 ⟨rfl, hb⟩
                refine ⟨_, rfl, ?_⟩
                rw [mb.out]
                refine hK.out _ _ ⟨(below_step hHeld.1 hb), (TrackAt.keep hHeld.2.1 hb), (RunsAt.keep hHeld.2.2.1 hb), (Blk.keep hHeld.2.2.2.1 hb), (keep hb hHeld.2.2.2.2)⟩ (fun hHeld => ?_)
                clear hK K
                refine norm_ (a' := ?_) ?_ ?_
                rotate_left
                · show Act.put _ (some 147) _ = _
                  simp only [Act.put, List.setIfInBounds_toArray, List.set_cons_zero, List.set_cons_succ, i64_w, i32_w]
                  rfl
                refine pure_ (i := 6) (N := some 151) (v := ?_) (a' := ?_) #[true, true, true, true, true, true, true, false, false, false, false, false, false, false] rfl rfl (by kernel_rfl) (fun _ _ _ h => h) (Or.inl ⟨by rfl, ?_⟩) ?_ ?_
                rotate_left
                · intro w'
                  go_simp
                  with_reducible rfl
                rotate_left
                · simp only [Act.put, List.setIfInBounds_toArray, List.set_cons_zero, List.set_cons_succ, i64_w, i32_w]
                  rfl
                refine pure_ (i := 7) (N := some 152) (v := ?_) (a' := ?_) #[true, true, true, true, true, true, true, true, false, false, false, false, false, false] rfl rfl (by kernel_rfl) (fun _ _ _ h => h) (Or.inl ⟨by rfl, ?_⟩) ?_ ?_
                rotate_left
                · intro w'
                  go_simp
                  with_reducible rfl
                rotate_left
                · simp only [Act.put, List.setIfInBounds_toArray, List.set_cons_zero, List.set_cons_succ, i64_w, i32_w]
                  rfl
                refine pure_ (i := 8) (N := some 153) (v := ?_) (a' := ?_) #[true, true, true, true, true, true, true, true, true, false, false, false, false, false] rfl rfl (by kernel_rfl) (fun _ _ _ h => h) (Or.inl ⟨by rfl, ?_⟩) ?_ ?_
                rotate_left
                · intro w'
                  go_simp
                  with_reducible rfl
                rotate_left
                · simp only [Act.put, List.setIfInBounds_toArray, List.set_cons_zero, List.set_cons_succ, i64_w, i32_w]
                  rfl
                refine pure_ (i := 9) (N := some 154) (v := ?_) (a' := ?_) #[true, true, true, true, true, true, true, true, true, true, false, false, false, false] rfl rfl (by kernel_rfl) (fun _ _ _ h => h) (Or.inl ⟨by rfl, ?_⟩) ?_ ?_
                rotate_left
                · intro w'
                  go_simp
                  with_reducible rfl
                rotate_left
                · simp only [Act.put, List.setIfInBounds_toArray, List.set_cons_zero, List.set_cons_succ, i64_w, i32_w]
                  rfl
                refine pure_ (i := 10) (N := some 155) (v := ?_) (a' := ?_) #[true, true, true, true, true, true, true, true, true, true, true, false, false, false] rfl rfl (by kernel_rfl) (fun _ _ _ h => h) (Or.inl ⟨by rfl, ?_⟩) ?_ ?_
                rotate_left
                · intro w'
                  go_simp
                  with_reducible rfl
                rotate_left
                · simp only [Act.put, List.setIfInBounds_toArray, List.set_cons_zero, List.set_cons_succ, i64_w, i32_w]
                  rfl
                refine pure_ (i := 11) (N := some 156) (v := ?_) (a' := ?_) #[true, true, true, true, true, true, true, true, true, true, true, true, false, false] rfl rfl (by kernel_rfl) (fun _ _ _ h => h) (Or.inl ⟨by rfl, ?_⟩) ?_ ?_
                rotate_left
                · intro w'
                  go_simp
                  with_reducible rfl
                rotate_left
                · simp only [Act.put, List.setIfInBounds_toArray, List.set_cons_zero, List.set_cons_succ, i64_w, i32_w]
                  rfl
                refine pure_ (i := 12) (N := some 157) (v := ?_) (a' := ?_) #[true, true, true, true, true, true, true, true, true, true, true, true, true, false] rfl rfl (by kernel_rfl) (fun _ _ _ h => h) (Or.inl ⟨by rfl, ?_⟩) ?_ ?_
                rotate_left
                · intro w'
                  go_simp
                  with_reducible rfl
                rotate_left
                · simp only [Act.put, List.setIfInBounds_toArray, List.set_cons_zero, List.set_cons_succ, i64_w, i32_w]
                  rfl
                refine pure_ (i := 13) (N := some 158) (v := ?_) (a' := ?_) #[true, true, true, true, true, true, true, true, true, true, true, true, true, true] rfl rfl (by kernel_rfl) (fun _ _ _ h => h) (Or.inl ⟨by rfl, ?_⟩) ?_ ?_
                rotate_left
                · intro w'
                  go_simp
                  with_reducible rfl
                rotate_left
                · simp only [Act.put, List.setIfInBounds_toArray, List.set_cons_zero, List.set_cons_succ, i64_w, i32_w]
                  rfl
                refine done_ (by kernel_rfl) ?_
                replace HB := Aside0.mk hHeld.1
                replace HT := Aside0.mk hHeld.2.1
                replace RN := Aside0.mk hHeld.2.2.1
                replace SW := Aside0.mk hHeld.2.2.2.1
                clear hHeld cw
                go_wp2_with fail
                go_roundg kk
                case measure => omega
                case rel => exact ⟨i + 1, by omega, by go_num, HB, HT, RN, SW⟩
              · go_wp2_with fail
                refine start_ (n := 14) (S := fun w' => Below w.heap.size w w' ∧ TrackAt w' tb gt n xb 0 false false false ∧ RunsAt w' b1 gn Ln ∧ Blk w' gw 27 (setArr sw) ∧ w'.cell? ⟨gw, i, none⟩ = some (.bool true)) (ds := []) #[false, false, false, false, false, false, false, false, false, false, false, false, false, false] (by kernel_rfl) rfl rfl ⟨(below_drew1 HB.out), (TrackAt.keep HT.out (below_drew1 (Below.refl _ _))), (RunsAt.keep RN.out (below_drew1 (Below.refl _ _))), (Blk.drew SW.out), cw⟩ (fun hHeld => ?_)
                refine pure_ (i := 0) (N := some 145) (v := ?_) (a' := ?_) #[true, false, false, false, false, false, false, false, false, false, false, false, false, false] rfl rfl (by kernel_rfl) (fun _ _ _ h => h) (Or.inl ⟨by rfl, ?_⟩) ?_ ?_
                rotate_left
                · intro w'
                  go_simp
                  with_reducible rfl
                rotate_left
                · simp only [Act.put, List.setIfInBounds_toArray, List.set_cons_zero, List.set_cons_succ, i64_w, i32_w]
                  rfl
                refine pure_ (i := 1) (N := some 146) (v := ?_) (a' := ?_) #[true, true, false, false, false, false, false, false, false, false, false, false, false, false] rfl rfl (by kernel_rfl) (fun _ _ _ h => h) (Or.inl ⟨by rfl, ?_⟩) ?_ ?_
                rotate_left
                · intro w'
                  go_simp
                  with_reducible rfl
                rotate_left
                · simp only [Act.put, List.setIfInBounds_toArray, List.set_cons_zero, List.set_cons_succ, i64_w, i32_w]
                  rfl
                refine pure_ (i := 3) (N := some 148) (v := ?_) (a' := ?_) #[true, true, false, true, false, false, false, false, false, false, false, false, false, false] rfl rfl (by kernel_rfl) (fun _ _ _ h => h) (Or.inl ⟨by rfl, ?_⟩) ?_ ?_
                rotate_left
                · intro w'
                  go_simp
                  with_reducible rfl
                rotate_left
                · simp only [Act.put, List.setIfInBounds_toArray, List.set_cons_zero, List.set_cons_succ, i64_w, i32_w]
                  rfl
                refine pure_ (i := 4) (N := some 149) (v := ?_) (a' := ?_) #[true, true, false, true, true, false, false, false, false, false, false, false, false, false] rfl rfl (by kernel_rfl) (fun _ _ _ h => h) (Or.inl ⟨by rfl, ?_⟩) ?_ ?_
                rotate_left
                · intro w'
                  go_simp
                  with_reducible rfl
                rotate_left
                · simp only [Act.put, List.setIfInBounds_toArray, List.set_cons_zero, List.set_cons_succ, i64_w, i32_w]
                  rfl
                refine take_ (i := 5) (N := some 150) (v := ?_) (a' := ?_) #[true, true, false, true, true, true, false, false, false, false, false, false, false, false] rfl rfl (by kernel_rfl) (fun _ _ _ h => h) (Or.inl ⟨by rfl, ?_⟩) hHeld ?_ ?_
                rotate_left
                · rintro w' ⟨s0, s1, s2, s3, s4⟩
                  go_simp
                  with_reducible rfl
                rotate_left
                · simp only [Act.put, List.setIfInBounds_toArray, List.set_cons_zero, List.set_cons_succ, i64_w, i32_w]
                  rfl
                refine one_ (i := 2) (N := some 147) #[true, true, true, true, true, true, false, false, false, false, false, false, false, false] rfl rfl (by kernel_rfl) (by decide) (fun K hK => ?_)
                refine goes_ Try.func43 (by kernel_rfl) rfl #[ptrR gn, .int .i64 (i : Int)] (by rfl) rfl rfl (by simp only [List.map_toArray, List.map_cons, List.map_nil]; rfl) ?_
                with_reducible refine (runs_has b1 gn Ln (i : Int) _ TL.out hHeld.2.2.1).mono ?_
                rintro e w50 ⟨rfl, hb⟩
                refine ⟨_, rfl, ?_⟩
                rw [mb.out]
                refine hK.out _ _ ⟨(below_step hHeld.1 hb), (TrackAt.keep hHeld.2.1 hb), (RunsAt.keep hHeld.2.2.1 hb), (Blk.keep hHeld.2.2.2.1 hb), (keep hb hHeld.2.2.2.2)⟩ (fun hHeld => ?_)
                clear hK K
                refine norm_ (a' := ?_) ?_ ?_
                rotate_left
                · show Act.put _ (some 147) _ = _
                  simp only [Act.put, List.setIfInBounds_toArray, List.set_cons_zero, List.set_cons_succ, i64_w, i32_w]
                  rfl
                refine pure_ (i := 6) (N := some 151) (v := ?_) (a' := ?_) #[true, true, true, true, true, true, true, false, false, false, false, false, false, false] rfl rfl (by kernel_rfl) (fun _ _ _ h => h) (Or.inl ⟨by rfl, ?_⟩) ?_ ?_
                rotate_left
                · intro w'
                  go_simp
                  with_reducible rfl
                rotate_left
                · simp only [Act.put, List.setIfInBounds_toArray, List.set_cons_zero, List.set_cons_succ, i64_w, i32_w]
                  rfl
                refine pure_ (i := 7) (N := some 152) (v := undef) (a' := ?_) #[true, true, true, true, true, true, true, true, false, false, false, false, false, false] rfl rfl (by kernel_rfl) (fun _ _ _ h => h) (Or.inr ⟨by rfl, rfl⟩) ?_ ?_
                rotate_left
                · simp only [Act.put, List.setIfInBounds_toArray, List.set_cons_zero, List.set_cons_succ, i64_w, i32_w]
                  rfl
                refine pure_ (i := 8) (N := some 153) (v := undef) (a' := ?_) #[true, true, true, true, true, true, true, true, true, false, false, false, false, false] rfl rfl (by kernel_rfl) (fun _ _ _ h => h) (Or.inr ⟨by rfl, rfl⟩) ?_ ?_
                rotate_left
                · simp only [Act.put, List.setIfInBounds_toArray, List.set_cons_zero, List.set_cons_succ, i64_w, i32_w]
                  rfl
                refine pure_ (i := 9) (N := some 154) (v := undef) (a' := ?_) #[true, true, true, true, true, true, true, true, true, true, false, false, false, false] rfl rfl (by kernel_rfl) (fun _ _ _ h => h) (Or.inr ⟨by rfl, rfl⟩) ?_ ?_
                rotate_left
                · simp only [Act.put, List.setIfInBounds_toArray, List.set_cons_zero, List.set_cons_succ, i64_w, i32_w]
                  rfl
                refine pure_ (i := 10) (N := some 155) (v := undef) (a' := ?_) #[true, true, true, true, true, true, true, true, true, true, true, false, false, false] rfl rfl (by kernel_rfl) (fun _ _ _ h => h) (Or.inr ⟨by rfl, rfl⟩) ?_ ?_
                rotate_left
                · simp only [Act.put, List.setIfInBounds_toArray, List.set_cons_zero, List.set_cons_succ, i64_w, i32_w]
                  rfl
                refine pure_ (i := 11) (N := some 156) (v := undef) (a' := ?_) #[true, true, true, true, true, true, true, true, true, true, true, true, false, false] rfl rfl (by kernel_rfl) (fun _ _ _ h => h) (Or.inr ⟨by rfl, rfl⟩) ?_ ?_
                rotate_left
                · simp only [Act.put, List.setIfInBounds_toArray, List.set_cons_zero, List.set_cons_succ, i64_w, i32_w]
                  rfl
                refine pure_ (i := 12) (N := some 157) (v := ?_) (a' := ?_) #[true, true, true, true, true, true, true, true, true, true, true, true, true, false] rfl rfl (by kernel_rfl) (fun _ _ _ h => h) (Or.inl ⟨by rfl, ?_⟩) ?_ ?_
                rotate_left
                · intro w'
                  go_simp
                  with_reducible rfl
                rotate_left
                · simp only [Act.put, List.setIfInBounds_toArray, List.set_cons_zero, List.set_cons_succ, i64_w, i32_w]
                  rfl
                refine pure_ (i := 13) (N := some 158) (v := ?_) (a' := ?_) #[true, true, true, true, true, true, true, true, true, true, true, true, true, true] rfl rfl (by kernel_rfl) (fun _ _ _ h => h) (Or.inl ⟨by rfl, ?_⟩) ?_ ?_
                rotate_left
                · intro w'
                  go_simp
                  with_reducible rfl
                rotate_left
                · simp only [Act.put, List.setIfInBounds_toArray, List.set_cons_zero, List.set_cons_succ, i64_w, i32_w]
                  rfl
                refine done_ (by kernel_rfl) ?_
                replace HB := Aside0.mk hHeld.1
                replace HT := Aside0.mk hHeld.2.1
                replace RN := Aside0.mk hHeld.2.2.1
                replace SW := Aside0.mk hHeld.2.2.2.1
                clear hHeld cw
                go_wp2_with fail
                go_roundg kk
                case measure => omega
                case rel => exact ⟨i + 1, by omega, by go_num, HB, HT, RN, SW⟩
            · have hlt' : ¬ (i : Int) < (n : Int) := by omega
              go_wp2_with fail
              refine (back_idle tb gt n xb 0 false false _ h2 Hxb.out (by decide) HT.out).mono ?_
              rintro e w91 ⟨rfl, ht, hB⟩
              have T91 := Aside0.mk ht
              have HB91 := Aside0.mk (below_mix HB.out GB.out hB)
              clear hB ht HB HT
              go_wp2_with fail
              go_ret
              exact ⟨rfl, HB91.out⟩
set_option maxRecDepth 100000 in
set_option maxHeartbeats 6400000 in
theorem main_dn (n : Nat) (A : Option Addr) (c : Nat) (a : List S31) (B : Option Addr) (d : Nat) (b : List S31) (w : World) (h1 : 1 ≤ n) (h2 : n ≤ 64) (h3 : a.length ≤ 20) (h4 : b.length ≤ 20) (hc : a.length ≤ c) (hd : b.length ≤ d) (hA : Kd.C k31 w A a.length a) (hB0 : Kd.C k31 w B b.length b) :
    Calls Try.prog 10 #[.int .i64 (n : Int), .slice A a.length c, .slice B b.length d, .bool true, .bool false] w fun e w' => e = .returned (.bool true) ∧ Below w.heap.size w w' := by
  have CA := Aside0.mk hA
  have CB := Aside0.mk hB0
  have Hc := Aside0.mk hc
  have Hd := Aside0.mk hd
  have i1 : ¬ (n : Int) < 1 := by omega
  have i2 : ¬ (64 : Int) < (n : Int) := by omega
  have i3 : ¬ (20 : Int) < (a.length : Int) := by omega
  have i4 : ¬ (20 : Int) < (b.length : Int) := by omega
  have i5 : (1 : Int) ≤ (n : Int) := by omega
  have i6 : (n : Int) ≤ 64 := by omega
  have i7 : (a.length : Int) ≤ 20 := by omega
  have i8 : (b.length : Int) ≤ 20 := by omega
  have HB0 := Aside0.mk (Below.refl w.heap.size w)
  clear hA hB0 hc hd
  go_enter Try.func10, Try.ntmps10
  go_wp2_with fail
  refine (alive6 _).mono ?_
  rintro e w1 ⟨rfl, hB⟩
  have HB1 := Aside0.mk (below_step HB0.out hB)
  clear hB HB0
  go_wp2_with fail
  refine (track_new n h1 h2 _).mono ?_
  rintro e w2 ⟨gt, rfl, ht, hB⟩
  obtain ⟨tb, htb⟩ : ∃ n, n = w1.heap.size := ⟨_, rfl⟩
  rw [← htb] at ht
  have GB : Aside0 (w.heap.size ≤ tb) := ⟨by rw [htb]; exact HB1.out.size⟩
  have T2 := Aside0.mk ht
  have HB2 := Aside0.mk (below_step HB1.out hB)
  clear ht hB htb HB1
  go_wp2_with fail
  refine (freeze_ok tb gt n 0 0 true false _ h2 T2.out).mono ?_
  rintro e w3 ⟨rfl, ht, hB⟩
  have T3 := Aside0.mk ht
  have HB3 := Aside0.mk (below_mix HB2.out GB.out hB)
  clear hB ht HB2 T2
  go_wp2_with fail
  refine (commit_ok tb gt n 0 0 false true _ h2 T3.out).mono ?_
  rintro e w4 ⟨rfl, ht, hB⟩
  have T4 := Aside0.mk ht
  have HB4 := Aside0.mk (below_mix HB3.out GB.out hB)
  clear hB ht HB3 T3
  go_wp2_with fail
  refine (emulsionref1_Set_Put.calls none64 ⟨by simp⟩ A c a true _ (Kd.C_below CA.out HB4.out) Hc.out).mono ?_
  rintro e w5 ⟨rfl, hB⟩
  have T5 := Aside0.mk (T4.out.keep hB)
  have HB5 := Aside0.mk (below_step HB4.out hB)
  clear hB HB4 T4
  go_wp2_with fail
  refine (emulsionref1_Set_Put.calls none64 ⟨by simp⟩ B d b true _ (Kd.C_below CB.out HB5.out) Hd.out).mono ?_
  rintro e w6 ⟨rfl, hB⟩
  have T6 := Aside0.mk (T5.out.keep hB)
  have HB6 := Aside0.mk (below_step HB5.out hB)
  clear hB HB5 T5
  have hla : Aside0 ((putS none64 a true).length = 64) := ⟨(putS_length _ _ _).trans (by simp)⟩
  have hlb : Aside0 ((putS none64 b true).length = 64) := ⟨(putS_length _ _ _).trans (by simp)⟩
  have Ma := Aside0.mk (marked n h2 a)
  have Mb := Aside0.mk (marked n h2 b)
  generalize putS none64 a true = sa at *
  generalize putS none64 b true = sb at *
  go_wp2_with (first | (with_reducible refine wpList_store_row rfl 27 (.tmp 13) (.tmp 65) rfl (w6.heap.size) (setArr sa) rfl rfl 27 _ (heap_alloc2_old _ _ _) (by rw [setArr_size, hla.out] <;> exact info27) (by rw [setArr_size, hla.out] <;> with_unfolding_all rfl) (setArr_one _) ?_) | (with_reducible refine wpList_store_row rfl 27 (.tmp 14) (.tmp 68) rfl (w6.heap.size + 1) (setArr sb) rfl rfl 27 _ ((setRow_other _ _ _ _ (by omega)).trans (heap_alloc2_new _ _ _)) (by rw [setArr_size, hlb.out] <;> exact info27) (by rw [setArr_size, hlb.out] <;> with_unfolding_all rfl) (setArr_one _) ?_))
  refine code_abs (fun X => Below w.heap.size w X ∧ TrackAt X tb gt n 0 0 false false false ∧ Blk X w6.heap.size 27 (setArr sa) ∧ Blk X (w6.heap.size + 1) 27 (setArr sb)) ⟨below_setRow (below_setRow (below_alloc (below_alloc HB6.out _) _) HB6.out.size _) (Nat.le_trans HB6.out.size (Nat.le_succ _)) _, (((T6.out.keep (below_alloc (Below.refl _ _) _)).keep (below_alloc (Below.refl _ _) _)).onlyB (only_row _ _ _) ((Blk.new _ _ _).alloc _) (by decide) (by decide)).onlyB (only_row _ _ _) ((Blk.new2 _ _ _ _).rowFar (by omega) _) (by decide) (by decide), (((Blk.new _ _ _).alloc _).row _).rowFar (by omega) _, ((Blk.new2 _ _ _ _).rowFar (by omega) _).row _⟩ ?_
  rintro wq ⟨hb, ht, hsa, hsb⟩
  have HBq := Aside0.mk hb
  have Tq := Aside0.mk ht
  have SA := Aside0.mk hsa
  have SB := Aside0.mk hsb
  clear hb ht hsa hsb HB6 T6
  generalize w6.heap.size = gx at *
  go_loopg [15] a.length (fun kq v wq => ∃ i : Nat, i + kq = a.length ∧ v = .int .i64 (i : Int) ∧ Aside0 (Below w.heap.size w wq) ∧ Aside0 (TrackAt wq tb gt n (orAll n (a.take i) 0) 0 false false false) ∧ Aside0 (Blk wq gx 27 (setArr sa)) ∧ Aside0 (Blk wq (gx + 1) 27 (setArr sb)))
  case atStart => exact ⟨0, by omega, rfl, HBq, Tq, SA, SB⟩
  case round =>
    clear HBq Tq  SA SB
    obtain ⟨i, hi, rfl, HB, HT, SA, SB⟩ := hrel
    by_cases hlt : i < a.length
    · have hlt' : (i : Int) < (a.length : Int) := by omega
      obtain ⟨ad, e1, x0, x1⟩ := at_T31 (Kd.C_below CA.out HB.out) (i : Int) (by omega) (by omega)
      subst e1
      rw [Int.toNat_natCast] at x0 x1
      have hone := Aside0.mk (orAll_snoc n a 0 i hlt)
      have hyl := Aside0.mk (orAll_lt n (a.take i) 0 (by decide))
      generalize rd_T31 a (i : Int) = X at *
      generalize orAll n (a.take i) 0 = y at *
      obtain ⟨F, M⟩ := X
      simp only at x0 x1
      obtain ⟨kk, rfl⟩ : ∃ z, gk = z + 1 := ⟨gk - 1, by omega⟩
      go_wp2_with fail
      refine (track_mark tb gt n y 0 false false false _ HT.out F M h2 hyl.out).mono ?_
      rintro e w7 ⟨rfl, ht, hB⟩
      have SA_7 := Aside0.mk (SA.out.deep hB (by decide) (by decide))
      clear SA
      have SB_7 := Aside0.mk (SB.out.deep hB (by decide) (by decide))
      clear SB
      have T7 := Aside0.mk ht
      have HB7 := Aside0.mk (below_mix HB.out GB.out hB)
      clear hB ht HB HT
      generalize ((cnt (minus (markV n F M) y) : Nat) : Int) = zz at *
      go_wp2_with fail
      go_roundg kk
      case measure => omega
      case rel => exact ⟨i + 1, by omega, by go_num, HB7, by rw [hone.out]; exact T7, SA_7, SB_7⟩
    · have hlt' : ¬ (i : Int) < (a.length : Int) := by omega
      obtain rfl : i = a.length := by omega
      rw [List.take_length] at HT
      have HBa := HB
      have HTa := HT
      clear HB HT hlt hi
      have SAa := SA
      clear SA
      have SBa := SB
      clear SB
      go_wp2_with fail
      refine (freeze_ok tb gt n (orAll n a 0) 0 false false _ h2 HTa.out).mono ?_
      rintro e w17 ⟨rfl, ht, hB⟩
      have SA_17 := Aside0.mk (SAa.out.deep hB (by decide) (by decide))
      clear SAa
      have SB_17 := Aside0.mk (SBa.out.deep hB (by decide) (by decide))
      clear SBa
      have T17 := Aside0.mk ht
      have HB17 := Aside0.mk (below_mix HBa.out GB.out hB)
      clear hB ht HBa HTa
      go_wp2_with fail
      refine (freeze_busy tb gt n 0 (orAll n a 0) false false _ h2 T17.out).mono ?_
      rintro e w18 ⟨rfl, ht, hB⟩
      have SA_18 := Aside0.mk (SA_17.out.deep hB (by decide) (by decide))
      clear SA_17
      have SB_18 := Aside0.mk (SB_17.out.deep hB (by decide) (by decide))
      clear SB_17
      have T18 := Aside0.mk ht
      have HB18 := Aside0.mk (below_mix HB17.out GB.out hB)
      clear hB ht HB17 T17
      go_wp2_with fail
      go_loopg [16] b.length (fun kq v wq => ∃ i : Nat, i + kq = b.length ∧ v = .int .i64 (i : Int) ∧ Aside0 (Below w.heap.size w wq) ∧ Aside0 (TrackAt wq tb gt n (orAll n (b.take i) 0) (orAll n a 0) false false true) ∧ Aside0 (Blk wq gx 27 (setArr sa)) ∧ Aside0 (Blk wq (gx + 1) 27 (setArr sb)))
      case atStart => exact ⟨0, by omega, rfl, HB18, T18, SA_18, SB_18⟩
      case round =>
        clear HB18 T18  SA_18 SB_18
        obtain ⟨i, hi, rfl, HB, HT, SA, SB⟩ := hrel
        by_cases hlt : i < b.length
        · have hlt' : (i : Int) < (b.length : Int) := by omega
          obtain ⟨ad, e1, x0, x1⟩ := at_T31 (Kd.C_below CB.out HB.out) (i : Int) (by omega) (by omega)
          subst e1
          rw [Int.toNat_natCast] at x0 x1
          have hone := Aside0.mk (orAll_snoc n b 0 i hlt)
          have hyl := Aside0.mk (orAll_lt n (b.take i) 0 (by decide))
          generalize rd_T31 b (i : Int) = X at *
          generalize orAll n (b.take i) 0 = y at *
          obtain ⟨F, M⟩ := X
          simp only at x0 x1
          obtain ⟨kk, rfl⟩ : ∃ z, gk = z + 1 := ⟨gk - 1, by omega⟩
          go_wp2_with fail
          refine (track_mark tb gt n y (orAll n a 0) false false true _ HT.out F M h2 hyl.out).mono ?_
          rintro e w19 ⟨rfl, ht, hB⟩
          have SA_19 := Aside0.mk (SA.out.deep hB (by decide) (by decide))
          clear SA
          have SB_19 := Aside0.mk (SB.out.deep hB (by decide) (by decide))
          clear SB
          have T19 := Aside0.mk ht
          have HB19 := Aside0.mk (below_mix HB.out GB.out hB)
          clear hB ht HB HT
          generalize ((cnt (minus (markV n F M) y) : Nat) : Int) = zz at *
          go_wp2_with fail
          go_roundg kk
          case measure => omega
          case rel => exact ⟨i + 1, by omega, by go_num, HB19, by rw [hone.out]; exact T19, SA_19, SB_19⟩
        · have hlt' : ¬ (i : Int) < (b.length : Int) := by omega
          obtain rfl : i = b.length := by omega
          rw [List.take_length] at HT
          have HBb := HB
          have HTb := HT
          clear HB HT hlt hi
          have SAb := SA
          clear SA
          have SBb := SB
          clear SB
          go_wp2_with (first | (with_reducible refine wpList_load_row rfl 27 (.tmp 14) rfl (gx + 1) rfl 27 _ (0, 0) _ SBb.out.hd Try.underlying27 rfl (by rw [setArr_size, hlb.out]; exact info27) ?_) | (with_reducible refine wpList_store_row rfl 27 (.tmp 17) (.tmp 104) rfl (wr.heap.size) (setArr sb) rfl rfl 27 _ (heap_alloc_new _ _) (by rw [setArr_size, hlb.out] <;> exact info27) (by rw [setArr_size, hlb.out] <;> with_unfolding_all rfl) (setArr_one _) ?_))
          rw [World.setRow_alloc_new]
          generalize hxa : orAll n a 0 = xa at *
          generalize hxb : orAll n b 0 = xb at *
          have Hxa : Aside0 (xa < 18446744073709551616) := ⟨hxa ▸ orAll_lt n a 0 (by decide)⟩
          have Hxb : Aside0 (xb < 18446744073709551616) := ⟨hxb ▸ orAll_lt n b 0 (by decide)⟩
          clear hxa hxb
          have HBw : Aside0 (Below w.heap.size w (wr.alloc (.cells (setArr sb) 27))) := ⟨below_alloc HBb.out _⟩
          have Tw := Aside0.mk (HTb.out.keep (below_alloc (Below.refl _ _) (.cells (setArr sb) 27)))
          have SAw := Aside0.mk (SAb.out.keep (below_alloc (Below.refl _ _) (.cells (setArr sb) 27)))
          have SBw := Aside0.mk (SBb.out.keep (below_alloc (Below.refl _ _) (.cells (setArr sb) 27)))
          have SW : Aside0 (Blk (wr.alloc (.cells (setArr sb) 27)) wr.heap.size 27 (setArr sb)) := ⟨Blk.new _ _ _⟩
          have hxw : Aside0 (gx < wr.heap.size ∧ gx + 1 < wr.heap.size ∧ w.heap.size ≤ wr.heap.size) := ⟨⟨SAb.out.lt, SBb.out.lt, HBb.out.size⟩⟩
          clear HBb HTb SAb SBb
          refine (commit_ok tb gt n xb xa false false _ h2 Tw.out).mono ?_
          rintro e w29 ⟨rfl, ht, hB⟩
          have SA_29 := Aside0.mk (SAw.out.deep hB (by decide) (by decide))
          clear SAw
          have SB_29 := Aside0.mk (SBw.out.deep hB (by decide) (by decide))
          clear SBw
          have SW_29 := Aside0.mk (SW.out.deep hB (by decide) (by decide))
          clear SW
          have T29 := Aside0.mk ht
          have HB29 := Aside0.mk (below_mix HBw.out GB.out hB)
          clear hB ht HBw Tw
          generalize wr.heap.size = gw at *
          have hlw := hlb
          go_wp2_with fail
          refine (track_now tb gt n xb 0 false false false _ T29.out h2 Hxb.out).mono ?_
          rintro e w30 ⟨gn, rfl, hg, hr, hB⟩
          have SA_30 := Aside0.mk (SA_29.out.keep hB)
          clear SA_29
          have SB_30 := Aside0.mk (SB_29.out.keep hB)
          clear SB_29
          have SW_30 := Aside0.mk (SW_29.out.keep hB)
          clear SW_29
          have T30 := Aside0.mk (T29.out.keep hB)
          have RN_30 := Aside0.mk hr
          have GE_RN : Aside0 (w.heap.size ≤ gn) := ⟨Nat.le_trans HB29.out.size hg⟩
          have HB30 := Aside0.mk (below_step HB29.out hB)
          clear hB hr hg HB29 T29
          go_wp2_with fail
          refine (track_lost tb gt n xb 0 false false false _ T30.out).mono ?_
          rintro e w31 ⟨rfl, hB⟩
          have T31 := Aside0.mk (T30.out.keep hB)
          have SA_31 := Aside0.mk (SA_30.out.keep hB)
          clear SA_30
          have SB_31 := Aside0.mk (SB_30.out.keep hB)
          clear SB_30
          have SW_31 := Aside0.mk (SW_30.out.keep hB)
          clear SW_30
          have RN_31 := Aside0.mk (RN_30.out.keep hB)
          clear RN_30
          have HB31 := Aside0.mk (below_step HB30.out hB)
          clear hB HB30 T30
          have hm : Aside0 (∀ k, k < n → memB (spansOf (markS n xb false)) (k : Int) = (sb.getD k false)) := ⟨fun k hk => by show memB (spansOf (bitsS n xb)) _ = _; rw [memB_bits n xb k h2 hk]; exact Mb.out k hk⟩
          generalize hL : spansOf (markS n xb false) = Ln at *
          have TL : Aside0 (Tidy 0 Ln) := ⟨hL ▸ spansOf_tidy _⟩
          clear hL
          obtain ⟨b1, hb1⟩ : ∃ z, RunsAt w31 z gn Ln := ⟨_, RN_31.out⟩
          have RN := Aside0.mk hb1
          clear hb1 RN_31 SA_31 SB_31
          generalize hsw : sb = sw at *
          go_wp2_with fail
          go_loopg [20] n (fun kq v wq => ∃ i : Nat, i + kq = n ∧ v = .int .i64 (i : Int) ∧ Aside0 (Below w.heap.size w wq) ∧ Aside0 (TrackAt wq tb gt n xb 0 false false false) ∧ Aside0 (RunsAt wq b1 gn Ln) ∧ Aside0 (Blk wq gw 27 (setArr sw)))
          case atStart => exact ⟨0, by omega, rfl, HB31, T31, RN, SW_31⟩
          case round =>
            clear HB31 T31 RN SW_31
            obtain ⟨i, hi, rfl, HB, HT, RN, SW⟩ := hrel
            by_cases hlt : i < n
            · have hlt' : (i : Int) < (n : Int) := by omega
              have hi0 : (0 : Int) ≤ (i : Int) := by omega
              have hi1 : (i : Int) < 64 := by omega
              have cw := SW.out.cell (setArr_get sw i (by have := hlw.out; omega))
              have mb := Aside0.mk (hm.out i hlt)
              obtain ⟨kk, rfl⟩ : ∃ z, gk = z + 1 := ⟨gk - 1, by omega⟩
              generalize sw.getD i false = p at *
              cases p
              · go_wp2_with fail
                refine start_ (n := 14) (S := fun w' => Below w.heap.size w w' ∧ TrackAt w' tb gt n xb 0 false false false ∧ RunsAt w' b1 gn Ln ∧ Blk w' gw 27 (setArr sw) ∧ w'.cell? ⟨gw, i, none⟩ = some (.bool false)) (ds := []) #[false, false, false, false, false, false, false, false, false, false, false, false, false, false] (by kernel_rfl) rfl rfl ⟨(below_drew1 HB.out), (TrackAt.keep HT.out (below_drew1 (Below.refl _ _))), (RunsAt.keep RN.out (below_drew1 (Below.refl _ _))), (Blk.drew SW.out), cw⟩ (fun hHeld => ?_)
                refine pure_ (i := 0) (N := some 145) (v := ?_) (a' := ?_) #[true, false, false, false, false, false, false, false, false, false, false, false, false, false] rfl rfl (by kernel_rfl) (fun _ _ _ h => h) (Or.inl ⟨by rfl, ?_⟩) ?_ ?_
                rotate_left
                · intro w'
                  go_simp
                  with_reducible rfl
                rotate_left
                · simp only [Act.put, List.setIfInBounds_toArray, List.set_cons_zero, List.set_cons_succ, i64_w, i32_w]
                  rfl
                refine pure_ (i := 1) (N := some 146) (v := ?_) (a' := ?_) #[true, true, false, false, false, false, false, false, false, false, false, false, false, false] rfl rfl (by kernel_rfl) (fun _ _ _ h => h) (Or.inl ⟨by rfl, ?_⟩) ?_ ?_
                rotate_left
                · intro w'
                  go_simp
                  with_reducible rfl
                rotate_left
                · simp only [Act.put, List.setIfInBounds_toArray, List.set_cons_zero, List.set_cons_succ, i64_w, i32_w]
                  rfl
                refine pure_ (i := 3) (N := some 148) (v := ?_) (a' := ?_) #[true, true, false, true, false, false, false, false, false, false, false, false, false, false] rfl rfl (by kernel_rfl) (fun _ _ _ h => h) (Or.inl ⟨by rfl, ?_⟩) ?_ ?_
                rotate_left
                · intro w'
                  go_simp
                  with_reducible rfl
                rotate_left
                · simp only [Act.put, List.setIfInBounds_toArray, List.set_cons_zero, List.set_cons_succ, i64_w, i32_w]
                  rfl
                refine pure_ (i := 4) (N := some 149) (v := ?_) (a' := ?_) #[true, true, false, true, true, false, false, false, false, false, false, false, false, false] rfl rfl (by kernel_rfl) (fun _ _ _ h => h) (Or.inl ⟨by rfl, ?_⟩) ?_ ?_
                rotate_left
                · intro w'
                  go_simp
                  with_reducible rfl
                rotate_left
                · simp only [Act.put, List.setIfInBounds_toArray, List.set_cons_zero, List.set_cons_succ, i64_w, i32_w]
                  rfl
                refine take_ (i := 5) (N := some 150) (v := ?_) (a' := ?_) #[true, true, false, true, true, true, false, false, false, false, false, false, false, false] rfl rfl (by kernel_rfl) (fun _ _ _ h => h) (Or.inl ⟨by rfl, ?_⟩) hHeld ?_ ?_
                rotate_left
                · rintro w' ⟨s0, s1, s2, s3, s4⟩
                  go_simp
                  with_reducible rfl
                rotate_left
                · simp only [Act.put, List.setIfInBounds_toArray, List.set_cons_zero, List.set_cons_succ, i64_w, i32_w]
                  rfl
                refine one_ (i := 2) (N := some 147) #[true, true, true, true, true, true, false, false, false, false, false, false, false, false] rfl rfl (by kernel_rfl) (by decide) (fun K hK => ?_)
                refine goes_ Try.func43 (by kernel_rfl) rfl #[ptrR gn, .int .i64 (i : Int)] (by rfl) rfl rfl (by simp only [List.map_toArray, List.map_cons, List.map_nil]; rfl) ?_
                with_reducible refine (runs_has b1 gn Ln (i : Int) _ TL.out hHeld.2.2.1).mono ?_
                rintro e w50 ⟨rfl, hb⟩
                refine ⟨_, rfl, ?_⟩
                rw [mb.out]
                refine hK.out _ _ ⟨(below_step hHeld.1 hb), (TrackAt.keep hHeld.2.1 hb), (RunsAt.keep hHeld.2.2.1 hb), (Blk.keep hHeld.2.2.2.1 hb), (keep hb hHeld.2.2.2.2)⟩ (fun hHeld => ?_)
                clear hK K
                refine norm_ (a' := ?_) ?_ ?_
                rotate_left
                · show Act.put _ (some 147) _ = _
                  simp only [Act.put, List.setIfInBounds_toArray, List.set_cons_zero, List.set_cons_succ, i64_w, i32_w]
                  rfl
                refine pure_ (i := 6) (N := some 151) (v := ?_) (a' := ?_) #[true, true, true, true, true, true, true, false, false, false, false, false, false, false] rfl rfl (by kernel_rfl) (fun _ _ _ h => h) (Or.inl ⟨by rfl, ?_⟩) ?_ ?_
                rotate_left
                · intro w'
                  go_simp
                  with_reducible rfl
                rotate_left
                · simp only [Act.put, List.setIfInBounds_toArray, List.set_cons_zero, List.set_cons_succ, i64_w, i32_w]
                  rfl
                refine pure_ (i := 7) (N := some 152) (v := ?_) (a' := ?_) #[true, true, true, true, true, true, true, true, false, false, false, false, false, false] rfl rfl (by kernel_rfl) (fun _ _ _ h => h) (Or.inl ⟨by rfl, ?_⟩) ?_ ?_
                rotate_left
                · intro w'
                  go_simp
                  with_reducible rfl
                rotate_left
                · simp only [Act.put, List.setIfInBounds_toArray, List.set_cons_zero, List.set_cons_succ, i64_w, i32_w]
                  rfl
                refine pure_ (i := 8) (N := some 153) (v := ?_) (a' := ?_) #[true, true, true, true, true, true, true, true, true, false, false, false, false, false] rfl rfl (by kernel_rfl) (fun _ _ _ h => h) (Or.inl ⟨by rfl, ?_⟩) ?_ ?_
                rotate_left
                · intro w'
                  go_simp
                  with_reducible rfl
                rotate_left
                · simp only [Act.put, List.setIfInBounds_toArray, List.set_cons_zero, List.set_cons_succ, i64_w, i32_w]
                  rfl
                refine pure_ (i := 9) (N := some 154) (v := undef) (a' := ?_) #[true, true, true, true, true, true, true, true, true, true, false, false, false, false] rfl rfl (by kernel_rfl) (fun _ _ _ h => h) (Or.inr ⟨by rfl, rfl⟩) ?_ ?_
                rotate_left
                · simp only [Act.put, List.setIfInBounds_toArray, List.set_cons_zero, List.set_cons_succ, i64_w, i32_w]
                  rfl
                refine pure_ (i := 10) (N := some 155) (v := undef) (a' := ?_) #[true, true, true, true, true, true, true, true, true, true, true, false, false, false] rfl rfl (by kernel_rfl) (fun _ _ _ h => h) (Or.inr ⟨by rfl, rfl⟩) ?_ ?_
                rotate_left
                · simp only [Act.put, List.setIfInBounds_toArray, List.set_cons_zero, List.set_cons_succ, i64_w, i32_w]
                  rfl
                refine pure_ (i := 11) (N := some 156) (v := ?_) (a' := ?_) #[true, true, true, true, true, true, true, true, true, true, true, true, false, false] rfl rfl (by kernel_rfl) (fun _ _ _ h => h) (Or.inl ⟨by rfl, ?_⟩) ?_ ?_
                rotate_left
                · intro w'
                  go_simp
                  with_reducible rfl
                rotate_left
                · simp only [Act.put, List.setIfInBounds_toArray, List.set_cons_zero, List.set_cons_succ, i64_w, i32_w]
                  rfl
                refine pure_ (i := 12) (N := some 157) (v := ?_) (a' := ?_) #[true, true, true, true, true, true, true, true, true, true, true, true, true, false] rfl rfl (by kernel_rfl) (fun _ _ _ h => h) (Or.inl ⟨by rfl, ?_⟩) ?_ ?_
                rotate_left
                · intro w'
                  go_simp
                  with_reducible rfl
                rotate_left
                · simp only [Act.put, List.setIfInBounds_toArray, List.set_cons_zero, List.set_cons_succ, i64_w, i32_w]
                  rfl
                refine pure_ (i := 13) (N := some 158) (v := ?_) (a' := ?_) #[true, true, true, true, true, true, true, true, true, true, true, true, true, true] rfl rfl (by kernel_rfl) (fun _ _ _ h => h) (Or.inl ⟨by rfl, ?_⟩) ?_ ?_
                rotate_left
                · intro w'
                  go_simp
                  with_reducible rfl
                rotate_left
                · simp only [Act.put, List.setIfInBounds_toArray, List.set_cons_zero, List.set_cons_succ, i64_w, i32_w]
                  rfl
                refine done_ (by kernel_rfl) ?_
                replace HB := Aside0.mk hHeld.1
                replace HT := Aside0.mk hHeld.2.1
                replace RN := Aside0.mk hHeld.2.2.1
                replace SW := Aside0.mk hHeld.2.2.2.1
                clear hHeld cw
                go_wp2_with fail
                go_roundg kk
                case measure => omega
                case rel => exact ⟨i + 1, by omega, by go_num, HB, HT, RN, SW⟩
              · go_wp2_with fail
                refine start_ (n := 14) (S := fun w' => Below w.heap.size w w' ∧ TrackAt w' tb gt n xb 0 false false false ∧ RunsAt w' b1 gn Ln ∧ Blk w' gw 27 (setArr sw) ∧ w'.cell? ⟨gw, i, none⟩ = some (.bool true)) (ds := []) #[false, false, false, false, false, false, false, false, false, false, false, false, false, false] (by kernel_rfl) rfl rfl ⟨(below_drew1 HB.out), (TrackAt.keep HT.out (below_drew1 (Below.refl _ _))), (RunsAt.keep RN.out (below_drew1 (Below.refl _ _))), (Blk.drew SW.out), cw⟩ (fun hHeld => ?_)
                refine pure_ (i := 0) (N := some 145) (v := ?_) (a' := ?_) #[true, false, false, false, false, false, false, false, false, false, false, false, false, false] rfl rfl (by kernel_rfl) (fun _ _ _ h => h) (Or.inl ⟨by rfl, ?_⟩) ?_ ?_
                rotate_left
                · intro w'
                  go_simp
                  with_reducible rfl
                rotate_left
                · simp only [Act.put, List.setIfInBounds_toArray, List.set_cons_zero, List.set_cons_succ, i64_w, i32_w]
                  rfl
                refine pure_ (i := 1) (N := some 146) (v := ?_) (a' := ?_) #[true, true, false, false, false, false, false, false, false, false, false, false, false, false] rfl rfl (by kernel_rfl) (fun _ _ _ h => h) (Or.inl ⟨by rfl, ?_⟩) ?_ ?_
                rotate_left
                · intro w'
                  go_simp
                  with_reducible rfl
                rotate_left
                · simp only [Act.put, List.setIfInBounds_toArray, List.set_cons_zero, List.set_cons_succ, i64_w, i32_w]
                  rfl
                refine pure_ (i := 3) (N := some 148) (v := ?_) (a' := ?_) #[true, true, false, true, false, false, false, false, false, false, false, false, false, false] rfl rfl (by kernel_rfl) (fun _ _ _ h => h) (Or.inl ⟨by rfl, ?_⟩) ?_ ?_
                rotate_left
                · intro w'
                  go_simp
                  with_reducible rfl
                rotate_left
                · simp only [Act.put, List.setIfInBounds_toArray, List.set_cons_zero, List.set_cons_succ, i64_w, i32_w]
                  rfl
                refine pure_ (i := 4) (N := some 149) (v := ?_) (a' := ?_) #[true, true, false, true, true, false, false, false, false, false, false, false, false, false] rfl rfl (by kernel_rfl) (fun _ _ _ h => h) (Or.inl ⟨by rfl, ?_⟩) ?_ ?_
                rotate_left
                · intro w'
                  go_simp
                  with_reducible rfl
                rotate_left
                · simp only [Act.put, List.setIfInBounds_toArray, List.set_cons_zero, List.set_cons_succ, i64_w, i32_w]
                  rfl
                refine take_ (i := 5) (N := some 150) (v := ?_) (a' := ?_) #[true, true, false, true, true, true, false, false, false, false, false, false, false, false] rfl rfl (by kernel_rfl) (fun _ _ _ h => h) (Or.inl ⟨by rfl, ?_⟩) hHeld ?_ ?_
                rotate_left
                · rintro w' ⟨s0, s1, s2, s3, s4⟩
                  go_simp
                  with_reducible rfl
                rotate_left
                · simp only [Act.put, List.setIfInBounds_toArray, List.set_cons_zero, List.set_cons_succ, i64_w, i32_w]
                  rfl
                refine one_ (i := 2) (N := some 147) #[true, true, true, true, true, true, false, false, false, false, false, false, false, false] rfl rfl (by kernel_rfl) (by decide) (fun K hK => ?_)
                refine goes_ Try.func43 (by kernel_rfl) rfl #[ptrR gn, .int .i64 (i : Int)] (by rfl) rfl rfl (by simp only [List.map_toArray, List.map_cons, List.map_nil]; rfl) ?_
                with_reducible refine (runs_has b1 gn Ln (i : Int) _ TL.out hHeld.2.2.1).mono ?_
                rintro e w50 ⟨rfl, hb⟩
                refine ⟨_, rfl, ?_⟩
                rw [mb.out]
                refine hK.out _ _ ⟨(below_step hHeld.1 hb), (TrackAt.keep hHeld.2.1 hb), (RunsAt.keep hHeld.2.2.1 hb), (Blk.keep hHeld.2.2.2.1 hb), (keep hb hHeld.2.2.2.2)⟩ (fun hHeld => ?_)
                clear hK K
                refine norm_ (a' := ?_) ?_ ?_
                rotate_left
                · show Act.put _ (some 147) _ = _
                  simp only [Act.put, List.setIfInBounds_toArray, List.set_cons_zero, List.set_cons_succ, i64_w, i32_w]
                  rfl
                refine pure_ (i := 6) (N := some 151) (v := ?_) (a' := ?_) #[true, true, true, true, true, true, true, false, false, false, false, false, false, false] rfl rfl (by kernel_rfl) (fun _ _ _ h => h) (Or.inl ⟨by rfl, ?_⟩) ?_ ?_
                rotate_left
                · intro w'
                  go_simp
                  with_reducible rfl
                rotate_left
                · simp only [Act.put, List.setIfInBounds_toArray, List.set_cons_zero, List.set_cons_succ, i64_w, i32_w]
                  rfl
                refine pure_ (i := 7) (N := some 152) (v := undef) (a' := ?_) #[true, true, true, true, true, true, true, true, false, false, false, false, false, false] rfl rfl (by kernel_rfl) (fun _ _ _ h => h) (Or.inr ⟨by rfl, rfl⟩) ?_ ?_
                rotate_left
                · simp only [Act.put, List.setIfInBounds_toArray, List.set_cons_zero, List.set_cons_succ, i64_w, i32_w]
                  rfl
                refine pure_ (i := 8) (N := some 153) (v := undef) (a' := ?_) #[true, true, true, true, true, true, true, true, true, false, false, false, false, false] rfl rfl (by kernel_rfl) (fun _ _ _ h => h) (Or.inr ⟨by rfl, rfl⟩) ?_ ?_
                rotate_left
                · simp only [Act.put, List.setIfInBounds_toArray, List.set_cons_zero, List.set_cons_succ, i64_w, i32_w]
                  rfl
                refine pure_ (i := 9) (N := some 154) (v := undef) (a' := ?_) #[true, true, true, true, true, true, true, true, true, true, false, false, false, false] rfl rfl (by kernel_rfl) (fun _ _ _ h => h) (Or.inr ⟨by rfl, rfl⟩) ?_ ?_
                rotate_left
                · simp only [Act.put, List.setIfInBounds_toArray, List.set_cons_zero, List.set_cons_succ, i64_w, i32_w]
                  rfl
                refine pure_ (i := 10) (N := some 155) (v := undef) (a' := ?_) #[true, true, true, true, true, true, true, true, true, true, true, false, false, false] rfl rfl (by kernel_rfl) (fun _ _ _ h => h) (Or.inr ⟨by rfl, rfl⟩) ?_ ?_
                rotate_left
                · simp only [Act.put, List.setIfInBounds_toArray, List.set_cons_zero, List.set_cons_succ, i64_w, i32_w]
                  rfl
                refine pure_ (i := 11) (N := some 156) (v := undef) (a' := ?_) #[true, true, true, true, true, true, true, true, true, true, true, true, false, false] rfl rfl (by kernel_rfl) (fun _ _ _ h => h) (Or.inr ⟨by rfl, rfl⟩) ?_ ?_
                rotate_left
                · simp only [Act.put, List.setIfInBounds_toArray, List.set_cons_zero, List.set_cons_succ, i64_w, i32_w]
                  rfl
                refine pure_ (i := 12) (N := some 157) (v := ?_) (a' := ?_) #[true, true, true, true, true, true, true, true, true, true, true, true, true, false] rfl rfl (by kernel_rfl) (fun _ _ _ h => h) (Or.inl ⟨by rfl, ?_⟩) ?_ ?_
                rotate_left
                · intro w'
                  go_simp
                  with_reducible rfl
                rotate_left
                · simp only [Act.put, List.setIfInBounds_toArray, List.set_cons_zero, List.set_cons_succ, i64_w, i32_w]
                  rfl
                refine pure_ (i := 13) (N := some 158) (v := ?_) (a' := ?_) #[true, true, true, true, true, true, true, true, true, true, true, true, true, true] rfl rfl (by kernel_rfl) (fun _ _ _ h => h) (Or.inl ⟨by rfl, ?_⟩) ?_ ?_
                rotate_left
                · intro w'
                  go_simp
                  with_reducible rfl
                rotate_left
                · simp only [Act.put, List.setIfInBounds_toArray, List.set_cons_zero, List.set_cons_succ, i64_w, i32_w]
                  rfl
                refine done_ (by kernel_rfl) ?_
                replace HB := Aside0.mk hHeld.1
                replace HT := Aside0.mk hHeld.2.1
                replace RN := Aside0.mk hHeld.2.2.1
                replace SW := Aside0.mk hHeld.2.2.2.1
                clear hHeld cw
                go_wp2_with fail
                go_roundg kk
                case measure => omega
                case rel => exact ⟨i + 1, by omega, by go_num, HB, HT, RN, SW⟩
            · have hlt' : ¬ (i : Int) < (n : Int) := by omega
              go_wp2_with fail
              refine (back_idle tb gt n xb 0 false false _ h2 Hxb.out (by decide) HT.out).mono ?_
              rintro e w91 ⟨rfl, ht, hB⟩
              have T91 := Aside0.mk ht
              have HB91 := Aside0.mk (below_mix HB.out GB.out hB)
              clear hB ht HB HT
              go_wp2_with fail
              go_ret
              exact ⟨rfl, HB91.out⟩
set_option maxRecDepth 100000 in
set_option maxHeartbeats 6400000 in
theorem main_bl (n : Nat) (A : Option Addr) (c : Nat) (a : List S31) (B : Option Addr) (d : Nat) (b : List S31) (w : World) (h1 : 1 ≤ n) (h2 : n ≤ 64) (h3 : a.length ≤ 20) (h4 : b.length ≤ 20) (hc : a.length ≤ c) (hd : b.length ≤ d) (hA : Kd.C k31 w A a.length a) (hB0 : Kd.C k31 w B b.length b) :
    Calls Try.prog 10 #[.int .i64 (n : Int), .slice A a.length c, .slice B b.length d, .bool false, .bool true] w fun e w' => e = .returned (.bool true) ∧ Below w.heap.size w w' := by
  have CA := Aside0.mk hA
  have CB := Aside0.mk hB0
  have Hc := Aside0.mk hc
  have Hd := Aside0.mk hd
  have i1 : ¬ (n : Int) < 1 := by omega
  have i2 : ¬ (64 : Int) < (n : Int) := by omega
  have i3 : ¬ (20 : Int) < (a.length : Int) := by omega
  have i4 : ¬ (20 : Int) < (b.length : Int) := by omega
  have i5 : (1 : Int) ≤ (n : Int) := by omega
  have i6 : (n : Int) ≤ 64 := by omega
  have i7 : (a.length : Int) ≤ 20 := by omega
  have i8 : (b.length : Int) ≤ 20 := by omega
  have HB0 := Aside0.mk (Below.refl w.heap.size w)
  clear hA hB0 hc hd
  go_enter Try.func10, Try.ntmps10
  go_wp2_with fail
  refine (alive6 _).mono ?_
  rintro e w1 ⟨rfl, hB⟩
  have HB1 := Aside0.mk (below_step HB0.out hB)
  clear hB HB0
  go_wp2_with fail
  refine (track_new n h1 h2 _).mono ?_
  rintro e w2 ⟨gt, rfl, ht, hB⟩
  obtain ⟨tb, htb⟩ : ∃ n, n = w1.heap.size := ⟨_, rfl⟩
  rw [← htb] at ht
  have GB : Aside0 (w.heap.size ≤ tb) := ⟨by rw [htb]; exact HB1.out.size⟩
  have T2 := Aside0.mk ht
  have HB2 := Aside0.mk (below_step HB1.out hB)
  clear ht hB htb HB1
  go_wp2_with fail
  refine (freeze_ok tb gt n 0 0 true false _ h2 T2.out).mono ?_
  rintro e w3 ⟨rfl, ht, hB⟩
  have T3 := Aside0.mk ht
  have HB3 := Aside0.mk (below_mix HB2.out GB.out hB)
  clear hB ht HB2 T2
  go_wp2_with fail
  refine (commit_ok tb gt n 0 0 false true _ h2 T3.out).mono ?_
  rintro e w4 ⟨rfl, ht, hB⟩
  have T4 := Aside0.mk ht
  have HB4 := Aside0.mk (below_mix HB3.out GB.out hB)
  clear hB ht HB3 T3
  go_wp2_with fail
  refine (emulsionref1_Set_Put.calls none64 ⟨by simp⟩ A c a true _ (Kd.C_below CA.out HB4.out) Hc.out).mono ?_
  rintro e w5 ⟨rfl, hB⟩
  have T5 := Aside0.mk (T4.out.keep hB)
  have HB5 := Aside0.mk (below_step HB4.out hB)
  clear hB HB4 T4
  go_wp2_with fail
  refine (emulsionref1_Set_Put.calls none64 ⟨by simp⟩ B d b true _ (Kd.C_below CB.out HB5.out) Hd.out).mono ?_
  rintro e w6 ⟨rfl, hB⟩
  have T6 := Aside0.mk (T5.out.keep hB)
  have HB6 := Aside0.mk (below_step HB5.out hB)
  clear hB HB5 T5
  have hla : Aside0 ((putS none64 a true).length = 64) := ⟨(putS_length _ _ _).trans (by simp)⟩
  have hlb : Aside0 ((putS none64 b true).length = 64) := ⟨(putS_length _ _ _).trans (by simp)⟩
  have Ma := Aside0.mk (marked n h2 a)
  have Mb := Aside0.mk (marked n h2 b)
  generalize putS none64 a true = sa at *
  generalize putS none64 b true = sb at *
  go_wp2_with (first | (with_reducible refine wpList_store_row rfl 27 (.tmp 13) (.tmp 65) rfl (w6.heap.size) (setArr sa) rfl rfl 27 _ (heap_alloc2_old _ _ _) (by rw [setArr_size, hla.out] <;> exact info27) (by rw [setArr_size, hla.out] <;> with_unfolding_all rfl) (setArr_one _) ?_) | (with_reducible refine wpList_store_row rfl 27 (.tmp 14) (.tmp 68) rfl (w6.heap.size + 1) (setArr sb) rfl rfl 27 _ ((setRow_other _ _ _ _ (by omega)).trans (heap_alloc2_new _ _ _)) (by rw [setArr_size, hlb.out] <;> exact info27) (by rw [setArr_size, hlb.out] <;> with_unfolding_all rfl) (setArr_one _) ?_))
  refine code_abs (fun X => Below w.heap.size w X ∧ TrackAt X tb gt n 0 0 false false false ∧ Blk X w6.heap.size 27 (setArr sa) ∧ Blk X (w6.heap.size + 1) 27 (setArr sb)) ⟨below_setRow (below_setRow (below_alloc (below_alloc HB6.out _) _) HB6.out.size _) (Nat.le_trans HB6.out.size (Nat.le_succ _)) _, (((T6.out.keep (below_alloc (Below.refl _ _) _)).keep (below_alloc (Below.refl _ _) _)).onlyB (only_row _ _ _) ((Blk.new _ _ _).alloc _) (by decide) (by decide)).onlyB (only_row _ _ _) ((Blk.new2 _ _ _ _).rowFar (by omega) _) (by decide) (by decide), (((Blk.new _ _ _).alloc _).row _).rowFar (by omega) _, ((Blk.new2 _ _ _ _).rowFar (by omega) _).row _⟩ ?_
  rintro wq ⟨hb, ht, hsa, hsb⟩
  have HBq := Aside0.mk hb
  have Tq := Aside0.mk ht
  have SA := Aside0.mk hsa
  have SB := Aside0.mk hsb
  clear hb ht hsa hsb HB6 T6
  generalize w6.heap.size = gx at *
  go_loopg [15] a.length (fun kq v wq => ∃ i : Nat, i + kq = a.length ∧ v = .int .i64 (i : Int) ∧ Aside0 (Below w.heap.size w wq) ∧ Aside0 (TrackAt wq tb gt n (orAll n (a.take i) 0) 0 false false false) ∧ Aside0 (Blk wq gx 27 (setArr sa)) ∧ Aside0 (Blk wq (gx + 1) 27 (setArr sb)))
  case atStart => exact ⟨0, by omega, rfl, HBq, Tq, SA, SB⟩
  case round =>
    clear HBq Tq  SA SB
    obtain ⟨i, hi, rfl, HB, HT, SA, SB⟩ := hrel
    by_cases hlt : i < a.length
    · have hlt' : (i : Int) < (a.length : Int) := by omega
      obtain ⟨ad, e1, x0, x1⟩ := at_T31 (Kd.C_below CA.out HB.out) (i : Int) (by omega) (by omega)
      subst e1
      rw [Int.toNat_natCast] at x0 x1
      have hone := Aside0.mk (orAll_snoc n a 0 i hlt)
      have hyl := Aside0.mk (orAll_lt n (a.take i) 0 (by decide))
      generalize rd_T31 a (i : Int) = X at *
      generalize orAll n (a.take i) 0 = y at *
      obtain ⟨F, M⟩ := X
      simp only at x0 x1
      obtain ⟨kk, rfl⟩ : ∃ z, gk = z + 1 := ⟨gk - 1, by omega⟩
      go_wp2_with fail
      refine (track_mark tb gt n y 0 false false false _ HT.out F M h2 hyl.out).mono ?_
      rintro e w7 ⟨rfl, ht, hB⟩
      have SA_7 := Aside0.mk (SA.out.deep hB (by decide) (by decide))
      clear SA
      have SB_7 := Aside0.mk (SB.out.deep hB (by decide) (by decide))
      clear SB
      have T7 := Aside0.mk ht
      have HB7 := Aside0.mk (below_mix HB.out GB.out hB)
      clear hB ht HB HT
      generalize ((cnt (minus (markV n F M) y) : Nat) : Int) = zz at *
      go_wp2_with fail
      go_roundg kk
      case measure => omega
      case rel => exact ⟨i + 1, by omega, by go_num, HB7, by rw [hone.out]; exact T7, SA_7, SB_7⟩
    · have hlt' : ¬ (i : Int) < (a.length : Int) := by omega
      obtain rfl : i = a.length := by omega
      rw [List.take_length] at HT
      have HBa := HB
      have HTa := HT
      clear HB HT hlt hi
      have SAa := SA
      clear SA
      have SBa := SB
      clear SB
      go_wp2_with fail
      refine (track_lose tb gt n (orAll n a 0) 0 false false false _ HTa.out).mono ?_
      rintro e w17 ⟨rfl, ht, hB⟩
      have SA_17 := Aside0.mk (SAa.out.deep hB (by decide) (by decide))
      clear SAa
      have SB_17 := Aside0.mk (SBa.out.deep hB (by decide) (by decide))
      clear SBa
      have T17 := Aside0.mk ht
      have HB17 := Aside0.mk (below_mix HBa.out GB.out hB)
      clear hB ht HBa HTa
      go_wp2_with fail
      refine (freeze_ok tb gt n (orAll n a 0) 0 true false _ h2 T17.out).mono ?_
      rintro e w18 ⟨rfl, ht, hB⟩
      have SA_18 := Aside0.mk (SA_17.out.deep hB (by decide) (by decide))
      clear SA_17
      have SB_18 := Aside0.mk (SB_17.out.deep hB (by decide) (by decide))
      clear SB_17
      have T18 := Aside0.mk ht
      have HB18 := Aside0.mk (below_mix HB17.out GB.out hB)
      clear hB ht HB17 T17
      go_wp2_with fail
      refine (freeze_busy tb gt n 0 (orAll n a 0) false true _ h2 T18.out).mono ?_
      rintro e w19 ⟨rfl, ht, hB⟩
      have SA_19 := Aside0.mk (SA_18.out.deep hB (by decide) (by decide))
      clear SA_18
      have SB_19 := Aside0.mk (SB_18.out.deep hB (by decide) (by decide))
      clear SB_18
      have T19 := Aside0.mk ht
      have HB19 := Aside0.mk (below_mix HB18.out GB.out hB)
      clear hB ht HB18 T18
      go_wp2_with fail
      go_loopg [16] b.length (fun kq v wq => ∃ i : Nat, i + kq = b.length ∧ v = .int .i64 (i : Int) ∧ Aside0 (Below w.heap.size w wq) ∧ Aside0 (TrackAt wq tb gt n (orAll n (b.take i) 0) (orAll n a 0) false true true) ∧ Aside0 (Blk wq gx 27 (setArr sa)) ∧ Aside0 (Blk wq (gx + 1) 27 (setArr sb)))
      case atStart => exact ⟨0, by omega, rfl, HB19, T19, SA_19, SB_19⟩
      case round =>
        clear HB19 T19  SA_19 SB_19
        obtain ⟨i, hi, rfl, HB, HT, SA, SB⟩ := hrel
        by_cases hlt : i < b.length
        · have hlt' : (i : Int) < (b.length : Int) := by omega
          obtain ⟨ad, e1, x0, x1⟩ := at_T31 (Kd.C_below CB.out HB.out) (i : Int) (by omega) (by omega)
          subst e1
          rw [Int.toNat_natCast] at x0 x1
          have hone := Aside0.mk (orAll_snoc n b 0 i hlt)
          have hyl := Aside0.mk (orAll_lt n (b.take i) 0 (by decide))
          generalize rd_T31 b (i : Int) = X at *
          generalize orAll n (b.take i) 0 = y at *
          obtain ⟨F, M⟩ := X
          simp only at x0 x1
          obtain ⟨kk, rfl⟩ : ∃ z, gk = z + 1 := ⟨gk - 1, by omega⟩
          go_wp2_with fail
          refine (track_mark tb gt n y (orAll n a 0) false true true _ HT.out F M h2 hyl.out).mono ?_
          rintro e w20 ⟨rfl, ht, hB⟩
          have SA_20 := Aside0.mk (SA.out.deep hB (by decide) (by decide))
          clear SA
          have SB_20 := Aside0.mk (SB.out.deep hB (by decide) (by decide))
          clear SB
          have T20 := Aside0.mk ht
          have HB20 := Aside0.mk (below_mix HB.out GB.out hB)
          clear hB ht HB HT
          generalize ((cnt (minus (markV n F M) y) : Nat) : Int) = zz at *
          go_wp2_with fail
          go_roundg kk
          case measure => omega
          case rel => exact ⟨i + 1, by omega, by go_num, HB20, by rw [hone.out]; exact T20, SA_20, SB_20⟩
        · have hlt' : ¬ (i : Int) < (b.length : Int) := by omega
          obtain rfl : i = b.length := by omega
          rw [List.take_length] at HT
          have HBb := HB
          have HTb := HT
          clear HB HT hlt hi
          have SAb := SA
          clear SA
          have SBb := SB
          clear SB
          go_wp2_with (first | (with_reducible refine wpList_load_row rfl 27 (.tmp 14) rfl (gx + 1) rfl 27 _ (0, 0) _ SBb.out.hd Try.underlying27 rfl (by rw [setArr_size, hlb.out]; exact info27) ?_) | (with_reducible refine wpList_store_row rfl 27 (.tmp 17) (.tmp 104) rfl (wr.heap.size) (setArr sb) rfl rfl 27 _ (heap_alloc_new _ _) (by rw [setArr_size, hlb.out] <;> exact info27) (by rw [setArr_size, hlb.out] <;> with_unfolding_all rfl) (setArr_one _) ?_))
          rw [World.setRow_alloc_new]
          generalize hxa : orAll n a 0 = xa at *
          generalize hxb : orAll n b 0 = xb at *
          have Hxa : Aside0 (xa < 18446744073709551616) := ⟨hxa ▸ orAll_lt n a 0 (by decide)⟩
          have Hxb : Aside0 (xb < 18446744073709551616) := ⟨hxb ▸ orAll_lt n b 0 (by decide)⟩
          clear hxa hxb
          have HBw : Aside0 (Below w.heap.size w (wr.alloc (.cells (setArr sb) 27))) := ⟨below_alloc HBb.out _⟩
          have Tw := Aside0.mk (HTb.out.keep (below_alloc (Below.refl _ _) (.cells (setArr sb) 27)))
          have SAw := Aside0.mk (SAb.out.keep (below_alloc (Below.refl _ _) (.cells (setArr sb) 27)))
          have SBw := Aside0.mk (SBb.out.keep (below_alloc (Below.refl _ _) (.cells (setArr sb) 27)))
          have SW : Aside0 (Blk (wr.alloc (.cells (setArr sb) 27)) wr.heap.size 27 (setArr sb)) := ⟨Blk.new _ _ _⟩
          have hxw : Aside0 (gx < wr.heap.size ∧ gx + 1 < wr.heap.size ∧ w.heap.size ≤ wr.heap.size) := ⟨⟨SAb.out.lt, SBb.out.lt, HBb.out.size⟩⟩
          clear HBb HTb SAb SBb
          refine (back_ok tb gt n xb xa false true _ h2 Hxb.out Hxa.out Tw.out).mono ?_
          rintro e w30 ⟨rfl, ht, hB⟩
          rw [Bool.false_or] at ht
          have SA_30 := Aside0.mk (SAw.out.deep hB (by decide) (by decide))
          clear SAw
          have SB_30 := Aside0.mk (SBw.out.deep hB (by decide) (by decide))
          clear SBw
          have SW_30 := Aside0.mk (SW.out.deep hB (by decide) (by decide))
          clear SW
          have T30 := Aside0.mk ht
          have HB30 := Aside0.mk (below_mix HBw.out GB.out hB)
          clear hB ht HBw Tw
          generalize wr.heap.size = gw at *
          generalize hX : xb ||| (xa &&& ones 0 n) = xo at *
          replace hX := Aside0.mk hX
          have hXl : Aside0 (xo < 18446744073709551616) := ⟨by rw [← hX.out]; exact or_lt Hxb.out (and_lt Hxa.out)⟩
          go_wp2_with fail
          go_loopg [18] 64 (fun kq v wq => ∃ k : Nat, k + kq = 64 ∧ v = .int .i64 (k : Int) ∧ Aside0 (Below w.heap.size w wq) ∧ Aside0 (TrackAt wq tb gt n xo 0 true false false) ∧ Aside0 (Blk wq gx 27 (setArr sa)) ∧ Aside0 (Blk wq (gx + 1) 27 (setArr sb)) ∧ Aside0 (Blk wq gw 27 (setArr (orUp sa sb k))))
          case atStart => exact ⟨0, by omega, rfl, HB30, T30, SA_30, SB_30, by rw [orUp_zero sa sb hlb.out]; exact SW_30⟩
          case round =>
            clear HB30 T30  SA_30 SB_30 SW_30
            obtain ⟨k, hk, rfl, HB, HT, SA, SB, SW⟩ := hrel
            by_cases hlt : k < 64
            · have hlt' : (k : Int) < 64 := by omega
              have hk0 : (0 : Int) ≤ (k : Int) := by omega
              have ca := SA.out.cell (setArr_get sa k (by have := hla.out; omega))
              have cb := SB.out.cell (setArr_get sb k (by have := hlb.out; omega))
              have cw := SW.out.cell (setArr_get (orUp sa sb k) k (by rw [orUp_length]; omega))
              have fw := SW.out.frozen k
              have hst := Aside0.mk (orUp_step sa sb k hlt)
              obtain ⟨kk, rfl⟩ : ∃ z, gk = z + 1 := ⟨gk - 1, by omega⟩
              generalize sa.getD k false = p at *
              generalize sb.getD k false = q at *
              generalize (orUp sa sb k).getD k false = z at *
              have hrd := Aside0.mk (setArr_set (orUp sa sb k) k (p || q))
              cases p
              all_goals
                go_wp2_with fail
                go_roundg kk
                case measure => omega
                case rel =>
                  refine ⟨k + 1, by omega, by go_num, ⟨HB.out.setCell (by have := hxw.out; show w.heap.size ≤ gw; omega) _⟩, ⟨HT.out.onlyB (only_set (only_refl _ _) _ _) SW.out (by decide) (by decide)⟩, ⟨SA.out.far (by have := hxw.out; simp; omega) _⟩, ⟨SB.out.far (by have := hxw.out; simp; omega) _⟩, ⟨?_⟩⟩
                  rw [← hst.out, ← hrd.out]
                  exact SW.out.set_ k _
            · have hlt' : ¬ (k : Int) < 64 := by omega
              obtain rfl : k = 64 := by omega
              have hlw : Aside0 ((orUp sa sb 64).length = 64) := ⟨orUp_length _ _ _⟩
              go_wp2_with fail
              refine (track_now tb gt n xo 0 true false false _ HT.out h2 hXl.out).mono ?_
              rintro e w36 ⟨gn, rfl, hg, hr, hB⟩
              have SA_36 := Aside0.mk (SA.out.keep hB)
              clear SA
              have SB_36 := Aside0.mk (SB.out.keep hB)
              clear SB
              have SW_36 := Aside0.mk (SW.out.keep hB)
              clear SW
              have T36 := Aside0.mk (HT.out.keep hB)
              have RN_36 := Aside0.mk hr
              have GE_RN : Aside0 (w.heap.size ≤ gn) := ⟨Nat.le_trans HB.out.size hg⟩
              have HB36 := Aside0.mk (below_step HB.out hB)
              clear hB hr hg HB HT
              go_wp2_with fail
              refine (track_lost tb gt n xo 0 true false false _ T36.out).mono ?_
              rintro e w37 ⟨rfl, hB⟩
              have T37 := Aside0.mk (T36.out.keep hB)
              have SA_37 := Aside0.mk (SA_36.out.keep hB)
              clear SA_36
              have SB_37 := Aside0.mk (SB_36.out.keep hB)
              clear SB_36
              have SW_37 := Aside0.mk (SW_36.out.keep hB)
              clear SW_36
              have RN_37 := Aside0.mk (RN_36.out.keep hB)
              clear RN_36
              have HB37 := Aside0.mk (below_step HB36.out hB)
              clear hB HB36 T36
              have hm : Aside0 (∀ k, k < n → memB (spansOf (markS n xo true)) (k : Int) = ((orUp sa sb 64).getD k false || true)) := ⟨fun k hk => by show memB (spansOf (bitsS n allX)) _ = _; rw [memB_bits n allX k h2 hk, allX_bit k (by omega), Bool.or_true]⟩
              generalize hL : spansOf (markS n xo true) = Ln at *
              have TL : Aside0 (Tidy 0 Ln) := ⟨hL ▸ spansOf_tidy _⟩
              clear hL
              obtain ⟨b1, hb1⟩ : ∃ z, RunsAt w37 z gn Ln := ⟨_, RN_37.out⟩
              have RN := Aside0.mk hb1
              clear hb1 RN_37 SA_37 SB_37
              generalize (orUp sa sb 64) = sw at *
              go_wp2_with fail
              go_loopg [20] n (fun kq v wq => ∃ i : Nat, i + kq = n ∧ v = .int .i64 (i : Int) ∧ Aside0 (Below w.heap.size w wq) ∧ Aside0 (TrackAt wq tb gt n xo 0 true false false) ∧ Aside0 (RunsAt wq b1 gn Ln) ∧ Aside0 (Blk wq gw 27 (setArr sw)))
              case atStart => exact ⟨0, by omega, rfl, HB37, T37, RN, SW_37⟩
              case round =>
                clear HB37 T37 RN SW_37
                obtain ⟨i, hi, rfl, HB, HT, RN, SW⟩ := hrel
                by_cases hlt : i < n
                · have hlt' : (i : Int) < (n : Int) := by omega
                  have hi0 : (0 : Int) ≤ (i : Int) := by omega
                  have hi1 : (i : Int) < 64 := by omega
                  have cw := SW.out.cell (setArr_get sw i (by have := hlw.out; omega))
                  have mb := Aside0.mk (hm.out i hlt)
                  obtain ⟨kk, rfl⟩ : ∃ z, gk = z + 1 := ⟨gk - 1, by omega⟩
                  generalize sw.getD i false = p at *
                  cases p
                  · go_wp2_with fail
                    refine start_ (n := 14) (S := fun w' => Below w.heap.size w w' ∧ TrackAt w' tb gt n xo 0 true false false ∧ RunsAt w' b1 gn Ln ∧ Blk w' gw 27 (setArr sw) ∧ w'.cell? ⟨gw, i, none⟩ = some (.bool false)) (ds := []) #[false, false, false, false, false, false, false, false, false, false, false, false, false, false] (by kernel_rfl) rfl rfl ⟨(below_drew1 HB.out), (TrackAt.keep HT.out (below_drew1 (Below.refl _ _))), (RunsAt.keep RN.out (below_drew1 (Below.refl _ _))), (Blk.drew SW.out), cw⟩ (fun hHeld => ?_)
                    refine pure_ (i := 0) (N := some 145) (v := ?_) (a' := ?_) #[true, false, false, false, false, false, false, false, false, false, false, false, false, false] rfl rfl (by kernel_rfl) (fun _ _ _ h => h) (Or.inl ⟨by rfl, ?_⟩) ?_ ?_
                    rotate_left
                    · intro w'
                      go_simp
                      with_reducible rfl
                    rotate_left
                    · simp only [Act.put, List.setIfInBounds_toArray, List.set_cons_zero, List.set_cons_succ, i64_w, i32_w]
                      rfl
                    refine pure_ (i := 1) (N := some 146) (v := ?_) (a' := ?_) #[true, true, false, false, false, false, false, false, false, false, false, false, false, false] rfl rfl (by kernel_rfl) (fun _ _ _ h => h) (Or.inl ⟨by rfl, ?_⟩) ?_ ?_
                    rotate_left
                    · intro w'
                      go_simp
                      with_reducible rfl
                    rotate_left
                    · simp only [Act.put, List.setIfInBounds_toArray, List.set_cons_zero, List.set_cons_succ, i64_w, i32_w]
                      rfl
                    refine pure_ (i := 3) (N := some 148) (v := ?_) (a' := ?_) #[true, true, false, true, false, false, false, false, false, false, false, false, false, false] rfl rfl (by kernel_rfl) (fun _ _ _ h => h) (Or.inl ⟨by rfl, ?_⟩) ?_ ?_
                    rotate_left
                    · intro w'
                      go_simp
                      with_reducible rfl
                    rotate_left
                    · simp only [Act.put, List.setIfInBounds_toArray, List.set_cons_zero, List.set_cons_succ, i64_w, i32_w]
                      rfl
                    refine pure_ (i := 4) (N := some 149) (v := ?_) (a' := ?_) #[true, true, false, true, true, false, false, false, false, false, false, false, false, false] rfl rfl (by kernel_rfl) (fun _ _ _ h => h) (Or.inl ⟨by rfl, ?_⟩) ?_ ?_
                    rotate_left
                    · intro w'
                      go_simp
                      with_reducible rfl
                    rotate_left
                    · simp only [Act.put, List.setIfInBounds_toArray, List.set_cons_zero, List.set_cons_succ, i64_w, i32_w]
                      rfl
                    refine take_ (i := 5) (N := some 150) (v := ?_) (a' := ?_) #[true, true, false, true, true, true, false, false, false, false, false, false, false, false] rfl rfl (by kernel_rfl) (fun _ _ _ h => h) (Or.inl ⟨by rfl, ?_⟩) hHeld ?_ ?_
                    rotate_left
                    · rintro w' ⟨s0, s1, s2, s3, s4⟩
                      go_simp
                      with_reducible rfl
                    rotate_left
                    · simp only [Act.put, List.setIfInBounds_toArray, List.set_cons_zero, List.set_cons_succ, i64_w, i32_w]
                      rfl
                    refine one_ (i := 2) (N := some 147) #[true, true, true, true, true, true, false, false, false, false, false, false, false, false] rfl rfl (by kernel_rfl) (by decide) (fun K hK => ?_)
                    refine goes_ Try.func43 (by kernel_rfl) rfl #[ptrR gn, .int .i64 (i : Int)] (by rfl) rfl rfl (by simp only [List.map_toArray, List.map_cons, List.map_nil]; rfl) ?_
                    with_reducible refine (runs_has b1 gn Ln (i : Int) _ TL.out hHeld.2.2.1).mono ?_
                    rintro e w50 ⟨rfl, hb⟩
                    refine ⟨_, rfl, ?_⟩
                    rw [mb.out]
                    refine hK.out _ _ ⟨(below_step hHeld.1 hb), (TrackAt.keep hHeld.2.1 hb), (RunsAt.keep hHeld.2.2.1 hb), (Blk.keep hHeld.2.2.2.1 hb), (keep hb hHeld.2.2.2.2)⟩ (fun hHeld => ?_)
                    clear hK K
                    refine norm_ (a' := ?_) ?_ ?_
                    rotate_left
                    · show Act.put _ (some 147) _ = _
                      simp only [Act.put, List.setIfInBounds_toArray, List.set_cons_zero, List.set_cons_succ, i64_w, i32_w]
                      rfl
                    refine pure_ (i := 6) (N := some 151) (v := ?_) (a' := ?_) #[true, true, true, true, true, true, true, false, false, false, false, false, false, false] rfl rfl (by kernel_rfl) (fun _ _ _ h => h) (Or.inl ⟨by rfl, ?_⟩) ?_ ?_
                    rotate_left
                    · intro w'
                      go_simp
                      with_reducible rfl
                    rotate_left
                    · simp only [Act.put, List.setIfInBounds_toArray, List.set_cons_zero, List.set_cons_succ, i64_w, i32_w]
                      rfl
                    refine pure_ (i := 7) (N := some 152) (v := ?_) (a' := ?_) #[true, true, true, true, true, true, true, true, false, false, false, false, false, false] rfl rfl (by kernel_rfl) (fun _ _ _ h => h) (Or.inl ⟨by rfl, ?_⟩) ?_ ?_
                    rotate_left
                    · intro w'
                      go_simp
                      with_reducible rfl
                    rotate_left
                    · simp only [Act.put, List.setIfInBounds_toArray, List.set_cons_zero, List.set_cons_succ, i64_w, i32_w]
                      rfl
                    refine pure_ (i := 8) (N := some 153) (v := ?_) (a' := ?_) #[true, true, true, true, true, true, true, true, true, false, false, false, false, false] rfl rfl (by kernel_rfl) (fun _ _ _ h => h) (Or.inl ⟨by rfl, ?_⟩) ?_ ?_
                    rotate_left
                    · intro w'
                      go_simp
                      with_reducible rfl
                    rotate_left
                    · simp only [Act.put, List.setIfInBounds_toArray, List.set_cons_zero, List.set_cons_succ, i64_w, i32_w]
                      rfl
                    refine pure_ (i := 9) (N := some 154) (v := ?_) (a' := ?_) #[true, true, true, true, true, true, true, true, true, true, false, false, false, false] rfl rfl (by kernel_rfl) (fun _ _ _ h => h) (Or.inl ⟨by rfl, ?_⟩) ?_ ?_
                    rotate_left
                    · intro w'
                      go_simp
                      with_reducible rfl
                    rotate_left
                    · simp only [Act.put, List.setIfInBounds_toArray, List.set_cons_zero, List.set_cons_succ, i64_w, i32_w]
                      rfl
                    refine pure_ (i := 10) (N := some 155) (v := ?_) (a' := ?_) #[true, true, true, true, true, true, true, true, true, true, true, false, false, false] rfl rfl (by kernel_rfl) (fun _ _ _ h => h) (Or.inl ⟨by rfl, ?_⟩) ?_ ?_
                    rotate_left
                    · intro w'
                      go_simp
                      with_reducible rfl
                    rotate_left
                    · simp only [Act.put, List.setIfInBounds_toArray, List.set_cons_zero, List.set_cons_succ, i64_w, i32_w]
                      rfl
                    refine pure_ (i := 11) (N := some 156) (v := ?_) (a' := ?_) #[true, true, true, true, true, true, true, true, true, true, true, true, false, false] rfl rfl (by kernel_rfl) (fun _ _ _ h => h) (Or.inl ⟨by rfl, ?_⟩) ?_ ?_
                    rotate_left
                    · intro w'
                      go_simp
                      with_reducible rfl
                    rotate_left
                    · simp only [Act.put, List.setIfInBounds_toArray, List.set_cons_zero, List.set_cons_succ, i64_w, i32_w]
                      rfl
                    refine pure_ (i := 12) (N := some 157) (v := ?_) (a' := ?_) #[true, true, true, true, true, true, true, true, true, true, true, true, true, false] rfl rfl (by kernel_rfl) (fun _ _ _ h => h) (Or.inl ⟨by rfl, ?_⟩) ?_ ?_
                    rotate_left
                    · intro w'
                      go_simp
                      with_reducible rfl
                    rotate_left
                    · simp only [Act.put, List.setIfInBounds_toArray, List.set_cons_zero, List.set_cons_succ, i64_w, i32_w]
                      rfl
                    refine pure_ (i := 13) (N := some 158) (v := ?_) (a' := ?_) #[true, true, true, true, true, true, true, true, true, true, true, true, true, true] rfl rfl (by kernel_rfl) (fun _ _ _ h => h) (Or.inl ⟨by rfl, ?_⟩) ?_ ?_
                    rotate_left
                    · intro w'
                      go_simp
                      with_reducible rfl
                    rotate_left
                    · simp only [Act.put, List.setIfInBounds_toArray, List.set_cons_zero, List.set_cons_succ, i64_w, i32_w]
                      rfl
                    refine done_ (by kernel_rfl) ?_
                    replace HB := Aside0.mk hHeld.1
                    replace HT := Aside0.mk hHeld.2.1
                    replace RN := Aside0.mk hHeld.2.2.1
                    replace SW := Aside0.mk hHeld.2.2.2.1
                    clear hHeld cw
                    go_wp2_with fail
                    go_roundg kk
                    case measure => omega
                    case rel => exact ⟨i + 1, by omega, by go_num, HB, HT, RN, SW⟩
                  · go_wp2_with fail
                    refine start_ (n := 14) (S := fun w' => Below w.heap.size w w' ∧ TrackAt w' tb gt n xo 0 true false false ∧ RunsAt w' b1 gn Ln ∧ Blk w' gw 27 (setArr sw) ∧ w'.cell? ⟨gw, i, none⟩ = some (.bool true)) (ds := []) #[false, false, false, false, false, false, false, false, false, false, false, false, false, false] (by kernel_rfl) rfl rfl ⟨(below_drew1 HB.out), (TrackAt.keep HT.out (below_drew1 (Below.refl _ _))), (RunsAt.keep RN.out (below_drew1 (Below.refl _ _))), (Blk.drew SW.out), cw⟩ (fun hHeld => ?_)
                    refine pure_ (i := 0) (N := some 145) (v := ?_) (a' := ?_) #[true, false, false, false, false, false, false, false, false, false, false, false, false, false] rfl rfl (by kernel_rfl) (fun _ _ _ h => h) (Or.inl ⟨by rfl, ?_⟩) ?_ ?_
                    rotate_left
                    · intro w'
                      go_simp
                      with_reducible rfl
                    rotate_left
                    · simp only [Act.put, List.setIfInBounds_toArray, List.set_cons_zero, List.set_cons_succ, i64_w, i32_w]
                      rfl
                    refine pure_ (i := 1) (N := some 146) (v := ?_) (a' := ?_) #[true, true, false, false, false, false, false, false, false, false, false, false, false, false] rfl rfl (by kernel_rfl) (fun _ _ _ h => h) (Or.inl ⟨by rfl, ?_⟩) ?_ ?_
                    rotate_left
                    · intro w'
                      go_simp
                      with_reducible rfl
                    rotate_left
                    · simp only [Act.put, List.setIfInBounds_toArray, List.set_cons_zero, List.set_cons_succ, i64_w, i32_w]
                      rfl
                    refine pure_ (i := 3) (N := some 148) (v := ?_) (a' := ?_) #[true, true, false, true, false, false, false, false, false, false, false, false, false, false] rfl rfl (by kernel_rfl) (fun _ _ _ h => h) (Or.inl ⟨by rfl, ?_⟩) ?_ ?_
                    rotate_left
                    · intro w'
                      go_simp
                      with_reducible rfl
                    rotate_left
                    · simp only [Act.put, List.setIfInBounds_toArray, List.set_cons_zero, List.set_cons_succ, i64_w, i32_w]
                      rfl
                    refine pure_ (i := 4) (N := some 149) (v := ?_) (a' := ?_) #[true, true, false, true, true, false, false, false, false, false, false, false, false, false] rfl rfl (by kernel_rfl) (fun _ _ _ h => h) (Or.inl ⟨by rfl, ?_⟩) ?_ ?_
                    rotate_left
                    · intro w'
                      go_simp
                      with_reducible rfl
                    rotate_left
                    · simp only [Act.put, List.setIfInBounds_toArray, List.set_cons_zero, List.set_cons_succ, i64_w, i32_w]
                      rfl
                    refine take_ (i := 5) (N := some 150) (v := ?_) (a' := ?_) #[true, true, false, true, true, true, false, false, false, false, false, false, false, false] rfl rfl (by kernel_rfl) (fun _ _ _ h => h) (Or.inl ⟨by rfl, ?_⟩) hHeld ?_ ?_
                    rotate_left
                    · rintro w' ⟨s0, s1, s2, s3, s4⟩
                      go_simp
                      with_reducible rfl
                    rotate_left
                    · simp only [Act.put, List.setIfInBounds_toArray, List.set_cons_zero, List.set_cons_succ, i64_w, i32_w]
                      rfl
                    refine one_ (i := 2) (N := some 147) #[true, true, true, true, true, true, false, false, false, false, false, false, false, false] rfl rfl (by kernel_rfl) (by decide) (fun K hK => ?_)
                    refine goes_ Try.func43 (by kernel_rfl) rfl #[ptrR gn, .int .i64 (i : Int)] (by rfl) rfl rfl (by simp only [List.map_toArray, List.map_cons, List.map_nil]; rfl) ?_
                    with_reducible refine (runs_has b1 gn Ln (i : Int) _ TL.out hHeld.2.2.1).mono ?_
                    rintro e w50 ⟨rfl, hb⟩
                    refine ⟨_, rfl, ?_⟩
                    rw [mb.out]
                    refine hK.out _ _ ⟨(below_step hHeld.1 hb), (TrackAt.keep hHeld.2.1 hb), (RunsAt.keep hHeld.2.2.1 hb), (Blk.keep hHeld.2.2.2.1 hb), (keep hb hHeld.2.2.2.2)⟩ (fun hHeld => ?_)
                    clear hK K
                    refine norm_ (a' := ?_) ?_ ?_
                    rotate_left
                    · show Act.put _ (some 147) _ = _
                      simp only [Act.put, List.setIfInBounds_toArray, List.set_cons_zero, List.set_cons_succ, i64_w, i32_w]
                      rfl
                    refine pure_ (i := 6) (N := some 151) (v := ?_) (a' := ?_) #[true, true, true, true, true, true, true, false, false, false, false, false, false, false] rfl rfl (by kernel_rfl) (fun _ _ _ h => h) (Or.inl ⟨by rfl, ?_⟩) ?_ ?_
                    rotate_left
                    · intro w'
                      go_simp
                      with_reducible rfl
                    rotate_left
                    · simp only [Act.put, List.setIfInBounds_toArray, List.set_cons_zero, List.set_cons_succ, i64_w, i32_w]
                      rfl
                    refine pure_ (i := 7) (N := some 152) (v := undef) (a' := ?_) #[true, true, true, true, true, true, true, true, false, false, false, false, false, false] rfl rfl (by kernel_rfl) (fun _ _ _ h => h) (Or.inr ⟨by rfl, rfl⟩) ?_ ?_
                    rotate_left
                    · simp only [Act.put, List.setIfInBounds_toArray, List.set_cons_zero, List.set_cons_succ, i64_w, i32_w]
                      rfl
                    refine pure_ (i := 8) (N := some 153) (v := undef) (a' := ?_) #[true, true, true, true, true, true, true, true, true, false, false, false, false, false] rfl rfl (by kernel_rfl) (fun _ _ _ h => h) (Or.inr ⟨by rfl, rfl⟩) ?_ ?_
                    rotate_left
                    · simp only [Act.put, List.setIfInBounds_toArray, List.set_cons_zero, List.set_cons_succ, i64_w, i32_w]
                      rfl
                    refine pure_ (i := 9) (N := some 154) (v := undef) (a' := ?_) #[true, true, true, true, true, true, true, true, true, true, false, false, false, false] rfl rfl (by kernel_rfl) (fun _ _ _ h => h) (Or.inr ⟨by rfl, rfl⟩) ?_ ?_
                    rotate_left
                    · simp only [Act.put, List.setIfInBounds_toArray, List.set_cons_zero, List.set_cons_succ, i64_w, i32_w]
                      rfl
                    refine pure_ (i := 10) (N := some 155) (v := undef) (a' := ?_) #[true, true, true, true, true, true, true, true, true, true, true, false, false, false] rfl rfl (by kernel_rfl) (fun _ _ _ h => h) (Or.inr ⟨by rfl, rfl⟩) ?_ ?_
                    rotate_left
                    · simp only [Act.put, List.setIfInBounds_toArray, List.set_cons_zero, List.set_cons_succ, i64_w, i32_w]
                      rfl
                    refine pure_ (i := 11) (N := some 156) (v := undef) (a' := ?_) #[true, true, true, true, true, true, true, true, true, true, true, true, false, false] rfl rfl (by kernel_rfl) (fun _ _ _ h => h) (Or.inr ⟨by rfl, rfl⟩) ?_ ?_
                    rotate_left
                    · simp only [Act.put, List.setIfInBounds_toArray, List.set_cons_zero, List.set_cons_succ, i64_w, i32_w]
                      rfl
                    refine pure_ (i := 12) (N := some 157) (v := ?_) (a' := ?_) #[true, true, true, true, true, true, true, true, true, true, true, true, true, false] rfl rfl (by kernel_rfl) (fun _ _ _ h => h) (Or.inl ⟨by rfl, ?_⟩) ?_ ?_
                    rotate_left
                    · intro w'
                      go_simp
                      with_reducible rfl
                    rotate_left
                    · simp only [Act.put, List.setIfInBounds_toArray, List.set_cons_zero, List.set_cons_succ, i64_w, i32_w]
                      rfl
                    refine pure_ (i := 13) (N := some 158) (v := ?_) (a' := ?_) #[true, true, true, true, true, true, true, true, true, true, true, true, true, true] rfl rfl (by kernel_rfl) (fun _ _ _ h => h) (Or.inl ⟨by rfl, ?_⟩) ?_ ?_
                    rotate_left
                    · intro w'
                      go_simp
                      with_reducible rfl
                    rotate_left
                    · simp only [Act.put, List.setIfInBounds_toArray, List.set_cons_zero, List.set_cons_succ, i64_w, i32_w]
                      rfl
                    refine done_ (by kernel_rfl) ?_
                    replace HB := Aside0.mk hHeld.1
                    replace HT := Aside0.mk hHeld.2.1
                    replace RN := Aside0.mk hHeld.2.2.1
                    replace SW := Aside0.mk hHeld.2.2.2.1
                    clear hHeld cw
                    go_wp2_with fail
                    go_roundg kk
                    case measure => omega
                    case rel => exact ⟨i + 1, by omega, by go_num, HB, HT, RN, SW⟩
                · have hlt' : ¬ (i : Int) < (n : Int) := by omega
                  go_wp2_with fail
                  refine (back_idle tb gt n xo 0 true false _ h2 hXl.out (by decide) HT.out).mono ?_
                  rintro e w91 ⟨rfl, ht, hB⟩
                  have T91 := Aside0.mk ht
                  have HB91 := Aside0.mk (below_mix HB.out GB.out hB)
                  clear hB ht HB HT
                  go_wp2_with fail
                  go_ret
                  exact ⟨rfl, HB91.out⟩
set_option maxRecDepth 100000 in
set_option maxHeartbeats 6400000 in
theorem main_bn (n : Nat) (A : Option Addr) (c : Nat) (a : List S31) (B : Option Addr) (d : Nat) (b : List S31) (w : World) (h1 : 1 ≤ n) (h2 : n ≤ 64) (h3 : a.length ≤ 20) (h4 : b.length ≤ 20) (hc : a.length ≤ c) (hd : b.length ≤ d) (hA : Kd.C k31 w A a.length a) (hB0 : Kd.C k31 w B b.length b) :
    Calls Try.prog 10 #[.int .i64 (n : Int), .slice A a.length c, .slice B b.length d, .bool false, .bool false] w fun e w' => e = .returned (.bool true) ∧ Below w.heap.size w w' := by
  have CA := Aside0.mk hA
  have CB := Aside0.mk hB0
  have Hc := Aside0.mk hc
  have Hd := Aside0.mk hd
  have i1 : ¬ (n : Int) < 1 := by omega
  have i2 : ¬ (64 : Int) < (n : Int) := by omega
  have i3 : ¬ (20 : Int) < (a.length : Int) := by omega
  have i4 : ¬ (20 : Int) < (b.length : Int) := by omega
  have i5 : (1 : Int) ≤ (n : Int) := by omega
  have i6 : (n : Int) ≤ 64 := by omega
  have i7 : (a.length : Int) ≤ 20 := by omega
  have i8 : (b.length : Int) ≤ 20 := by omega
  have HB0 := Aside0.mk (Below.refl w.heap.size w)
  clear hA hB0 hc hd
  go_enter Try.func10, Try.ntmps10
  go_wp2_with fail
  refine (alive6 _).mono ?_
  rintro e w1 ⟨rfl, hB⟩
  have HB1 := Aside0.mk (below_step HB0.out hB)
  clear hB HB0
  go_wp2_with fail
  refine (track_new n h1 h2 _).mono ?_
  rintro e w2 ⟨gt, rfl, ht, hB⟩
  obtain ⟨tb, htb⟩ : ∃ n, n = w1.heap.size := ⟨_, rfl⟩
  rw [← htb] at ht
  have GB : Aside0 (w.heap.size ≤ tb) := ⟨by rw [htb]; exact HB1.out.size⟩
  have T2 := Aside0.mk ht
  have HB2 := Aside0.mk (below_step HB1.out hB)
  clear ht hB htb HB1
  go_wp2_with fail
  refine (freeze_ok tb gt n 0 0 true false _ h2 T2.out).mono ?_
  rintro e w3 ⟨rfl, ht, hB⟩
  have T3 := Aside0.mk ht
  have HB3 := Aside0.mk (below_mix HB2.out GB.out hB)
  clear hB ht HB2 T2
  go_wp2_with fail
  refine (commit_ok tb gt n 0 0 false true _ h2 T3.out).mono ?_
  rintro e w4 ⟨rfl, ht, hB⟩
  have T4 := Aside0.mk ht
  have HB4 := Aside0.mk (below_mix HB3.out GB.out hB)
  clear hB ht HB3 T3
  go_wp2_with fail
  refine (emulsionref1_Set_Put.calls none64 ⟨by simp⟩ A c a true _ (Kd.C_below CA.out HB4.out) Hc.out).mono ?_
  rintro e w5 ⟨rfl, hB⟩
  have T5 := Aside0.mk (T4.out.keep hB)
  have HB5 := Aside0.mk (below_step HB4.out hB)
  clear hB HB4 T4
  go_wp2_with fail
  refine (emulsionref1_Set_Put.calls none64 ⟨by simp⟩ B d b true _ (Kd.C_below CB.out HB5.out) Hd.out).mono ?_
  rintro e w6 ⟨rfl, hB⟩
  have T6 := Aside0.mk (T5.out.keep hB)
  have HB6 := Aside0.mk (below_step HB5.out hB)
  clear hB HB5 T5
  have hla : Aside0 ((putS none64 a true).length = 64) := ⟨(putS_length _ _ _).trans (by simp)⟩
  have hlb : Aside0 ((putS none64 b true).length = 64) := ⟨(putS_length _ _ _).trans (by simp)⟩
  have Ma := Aside0.mk (marked n h2 a)
  have Mb := Aside0.mk (marked n h2 b)
  generalize putS none64 a true = sa at *
  generalize putS none64 b true = sb at *
  go_wp2_with (first | (with_reducible refine wpList_store_row rfl 27 (.tmp 13) (.tmp 65) rfl (w6.heap.size) (setArr sa) rfl rfl 27 _ (heap_alloc2_old _ _ _) (by rw [setArr_size, hla.out] <;> exact info27) (by rw [setArr_size, hla.out] <;> with_unfolding_all rfl) (setArr_one _) ?_) | (with_reducible refine wpList_store_row rfl 27 (.tmp 14) (.tmp 68) rfl (w6.heap.size + 1) (setArr sb) rfl rfl 27 _ ((setRow_other _ _ _ _ (by omega)).trans (heap_alloc2_new _ _ _)) (by rw [setArr_size, hlb.out] <;> exact info27) (by rw [setArr_size, hlb.out] <;> with_unfolding_all rfl) (setArr_one _) ?_))
  refine code_abs (fun X => Below w.heap.size w X ∧ TrackAt X tb gt n 0 0 false false false ∧ Blk X w6.heap.size 27 (setArr sa) ∧ Blk X (w6.heap.size + 1) 27 (setArr sb)) ⟨below_setRow (below_setRow (below_alloc (below_alloc HB6.out _) _) HB6.out.size _) (Nat.le_trans HB6.out.size (Nat.le_succ _)) _, (((T6.out.keep (below_alloc (Below.refl _ _) _)).keep (below_alloc (Below.refl _ _) _)).onlyB (only_row _ _ _) ((Blk.new _ _ _).alloc _) (by decide) (by decide)).onlyB (only_row _ _ _) ((Blk.new2 _ _ _ _).rowFar (by omega) _) (by decide) (by decide), (((Blk.new _ _ _).alloc _).row _).rowFar (by omega) _, ((Blk.new2 _ _ _ _).rowFar (by omega) _).row _⟩ ?_
  rintro wq ⟨hb, ht, hsa, hsb⟩
  have HBq := Aside0.mk hb
  have Tq := Aside0.mk ht
  have SA := Aside0.mk hsa
  have SB := Aside0.mk hsb
  clear hb ht hsa hsb HB6 T6
  generalize w6.heap.size = gx at *
  go_loopg [15] a.length (fun kq v wq => ∃ i : Nat, i + kq = a.length ∧ v = .int .i64 (i : Int) ∧ Aside0 (Below w.heap.size w wq) ∧ Aside0 (TrackAt wq tb gt n (orAll n (a.take i) 0) 0 false false false) ∧ Aside0 (Blk wq gx 27 (setArr sa)) ∧ Aside0 (Blk wq (gx + 1) 27 (setArr sb)))
  case atStart => exact ⟨0, by omega, rfl, HBq, Tq, SA, SB⟩
  case round =>
    clear HBq Tq  SA SB
    obtain ⟨i, hi, rfl, HB, HT, SA, SB⟩ := hrel
    by_cases hlt : i < a.length
    · have hlt' : (i : Int) < (a.length : Int) := by omega
      obtain ⟨ad, e1, x0, x1⟩ := at_T31 (Kd.C_below CA.out HB.out) (i : Int) (by omega) (by omega)
      subst e1
      rw [Int.toNat_natCast] at x0 x1
      have hone := Aside0.mk (orAll_snoc n a 0 i hlt)
      have hyl := Aside0.mk (orAll_lt n (a.take i) 0 (by decide))
      generalize rd_T31 a (i : Int) = X at *
      generalize orAll n (a.take i) 0 = y at *
      obtain ⟨F, M⟩ := X
      simp only at x0 x1
      obtain ⟨kk, rfl⟩ : ∃ z, gk = z + 1 := ⟨gk - 1, by omega⟩
      go_wp2_with fail
      refine (track_mark tb gt n y 0 false false false _ HT.out F M h2 hyl.out).mono ?_
      rintro e w7 ⟨rfl, ht, hB⟩
      have SA_7 := Aside0.mk (SA.out.deep hB (by decide) (by decide))
      clear SA
      have SB_7 := Aside0.mk (SB.out.deep hB (by decide) (by decide))
      clear SB
      have T7 := Aside0.mk ht
      have HB7 := Aside0.mk (below_mix HB.out GB.out hB)
      clear hB ht HB HT
      generalize ((cnt (minus (markV n F M) y) : Nat) : Int) = zz at *
      go_wp2_with fail
      go_roundg kk
      case measure => omega
      case rel => exact ⟨i + 1, by omega, by go_num, HB7, by rw [hone.out]; exact T7, SA_7, SB_7⟩
    · have hlt' : ¬ (i : Int) < (a.length : Int) := by omega
      obtain rfl : i = a.length := by omega
      rw [List.take_length] at HT
      have HBa := HB
      have HTa := HT
      clear HB HT hlt hi
      have SAa := SA
      clear SA
      have SBa := SB
      clear SB
      go_wp2_with fail
      refine (freeze_ok tb gt n (orAll n a 0) 0 false false _ h2 HTa.out).mono ?_
      rintro e w17 ⟨rfl, ht, hB⟩
      have SA_17 := Aside0.mk (SAa.out.deep hB (by decide) (by decide))
      clear SAa
      have SB_17 := Aside0.mk (SBa.out.deep hB (by decide) (by decide))
      clear SBa
      have T17 := Aside0.mk ht
      have HB17 := Aside0.mk (below_mix HBa.out GB.out hB)
      clear hB ht HBa HTa
      go_wp2_with fail
      refine (freeze_busy tb gt n 0 (orAll n a 0) false false _ h2 T17.out).mono ?_
      rintro e w18 ⟨rfl, ht, hB⟩
      have SA_18 := Aside0.mk (SA_17.out.deep hB (by decide) (by decide))
      clear SA_17
      have SB_18 := Aside0.mk (SB_17.out.deep hB (by decide) (by decide))
      clear SB_17
      have T18 := Aside0.mk ht
      have HB18 := Aside0.mk (below_mix HB17.out GB.out hB)
      clear hB ht HB17 T17
      go_wp2_with fail
      go_loopg [16] b.length (fun kq v wq => ∃ i : Nat, i + kq = b.length ∧ v = .int .i64 (i : Int) ∧ Aside0 (Below w.heap.size w wq) ∧ Aside0 (TrackAt wq tb gt n (orAll n (b.take i) 0) (orAll n a 0) false false true) ∧ Aside0 (Blk wq gx 27 (setArr sa)) ∧ Aside0 (Blk wq (gx + 1) 27 (setArr sb)))
      case atStart => exact ⟨0, by omega, rfl, HB18, T18, SA_18, SB_18⟩
      case round =>
        clear HB18 T18  SA_18 SB_18
        obtain ⟨i, hi, rfl, HB, HT, SA, SB⟩ := hrel
        by_cases hlt : i < b.length
        · have hlt' : (i : Int) < (b.length : Int) := by omega
          obtain ⟨ad, e1, x0, x1⟩ := at_T31 (Kd.C_below CB.out HB.out) (i : Int) (by omega) (by omega)
          subst e1
          rw [Int.toNat_natCast] at x0 x1
          have hone := Aside0.mk (orAll_snoc n b 0 i hlt)
          have hyl := Aside0.mk (orAll_lt n (b.take i) 0 (by decide))
          generalize rd_T31 b (i : Int) = X at *
          generalize orAll n (b.take i) 0 = y at *
          obtain ⟨F, M⟩ := X
          simp only at x0 x1
          obtain ⟨kk, rfl⟩ : ∃ z, gk = z + 1 := ⟨gk - 1, by omega⟩
          go_wp2_with fail
          refine (track_mark tb gt n y (orAll n a 0) false false true _ HT.out F M h2 hyl.out).mono ?_
          rintro e w19 ⟨rfl, ht, hB⟩
          have SA_19 := Aside0.mk (SA.out.deep hB (by decide) (by decide))
          clear SA
          have SB_19 := Aside0.mk (SB.out.deep hB (by decide) (by decide))
          clear SB
          have T19 := Aside0.mk ht
          have HB19 := Aside0.mk (below_mix HB.out GB.out hB)
          clear hB ht HB HT
          generalize ((cnt (minus (markV n F M) y) : Nat) : Int) = zz at *
          go_wp2_with fail
          go_roundg kk
          case measure => omega
          case rel => exact ⟨i + 1, by omega, by go_num, HB19, by rw [hone.out]; exact T19, SA_19, SB_19⟩
        · have hlt' : ¬ (i : Int) < (b.length : Int) := by omega
          obtain rfl : i = b.length := by omega
          rw [List.take_length] at HT
          have HBb := HB
          have HTb := HT
          clear HB HT hlt hi
          have SAb := SA
          clear SA
          have SBb := SB
          clear SB
          go_wp2_with (first | (with_reducible refine wpList_load_row rfl 27 (.tmp 14) rfl (gx + 1) rfl 27 _ (0, 0) _ SBb.out.hd Try.underlying27 rfl (by rw [setArr_size, hlb.out]; exact info27) ?_) | (with_reducible refine wpList_store_row rfl 27 (.tmp 17) (.tmp 104) rfl (wr.heap.size) (setArr sb) rfl rfl 27 _ (heap_alloc_new _ _) (by rw [setArr_size, hlb.out] <;> exact info27) (by rw [setArr_size, hlb.out] <;> with_unfolding_all rfl) (setArr_one _) ?_))
          rw [World.setRow_alloc_new]
          generalize hxa : orAll n a 0 = xa at *
          generalize hxb : orAll n b 0 = xb at *
          have Hxa : Aside0 (xa < 18446744073709551616) := ⟨hxa ▸ orAll_lt n a 0 (by decide)⟩
          have Hxb : Aside0 (xb < 18446744073709551616) := ⟨hxb ▸ orAll_lt n b 0 (by decide)⟩
          clear hxa hxb
          have HBw : Aside0 (Below w.heap.size w (wr.alloc (.cells (setArr sb) 27))) := ⟨below_alloc HBb.out _⟩
          have Tw := Aside0.mk (HTb.out.keep (below_alloc (Below.refl _ _) (.cells (setArr sb) 27)))
          have SAw := Aside0.mk (SAb.out.keep (below_alloc (Below.refl _ _) (.cells (setArr sb) 27)))
          have SBw := Aside0.mk (SBb.out.keep (below_alloc (Below.refl _ _) (.cells (setArr sb) 27)))
          have SW : Aside0 (Blk (wr.alloc (.cells (setArr sb) 27)) wr.heap.size 27 (setArr sb)) := ⟨Blk.new _ _ _⟩
          have hxw : Aside0 (gx < wr.heap.size ∧ gx + 1 < wr.heap.size ∧ w.heap.size ≤ wr.heap.size) := ⟨⟨SAb.out.lt, SBb.out.lt, HBb.out.size⟩⟩
          clear HBb HTb SAb SBb
          refine (back_ok tb gt n xb xa false false _ h2 Hxb.out Hxa.out Tw.out).mono ?_
          rintro e w29 ⟨rfl, ht, hB⟩
          rw [Bool.false_or] at ht
          have SA_29 := Aside0.mk (SAw.out.deep hB (by decide) (by decide))
          clear SAw
          have SB_29 := Aside0.mk (SBw.out.deep hB (by decide) (by decide))
          clear SBw
          have SW_29 := Aside0.mk (SW.out.deep hB (by decide) (by decide))
          clear SW
          have T29 := Aside0.mk ht
          have HB29 := Aside0.mk (below_mix HBw.out GB.out hB)
          clear hB ht HBw Tw
          generalize wr.heap.size = gw at *
          generalize hX : xb ||| (xa &&& ones 0 n) = xo at *
          replace hX := Aside0.mk hX
          have hXl : Aside0 (xo < 18446744073709551616) := ⟨by rw [← hX.out]; exact or_lt Hxb.out (and_lt Hxa.out)⟩
          go_wp2_with fail
          go_loopg [18] 64 (fun kq v wq => ∃ k : Nat, k + kq = 64 ∧ v = .int .i64 (k : Int) ∧ Aside0 (Below w.heap.size w wq) ∧ Aside0 (TrackAt wq tb gt n xo 0 false false false) ∧ Aside0 (Blk wq gx 27 (setArr sa)) ∧ Aside0 (Blk wq (gx + 1) 27 (setArr sb)) ∧ Aside0 (Blk wq gw 27 (setArr (orUp sa sb k))))
          case atStart => exact ⟨0, by omega, rfl, HB29, T29, SA_29, SB_29, by rw [orUp_zero sa sb hlb.out]; exact SW_29⟩
          case round =>
            clear HB29 T29  SA_29 SB_29 SW_29
            obtain ⟨k, hk, rfl, HB, HT, SA, SB, SW⟩ := hrel
            by_cases hlt : k < 64
            · have hlt' : (k : Int) < 64 := by omega
              have hk0 : (0 : Int) ≤ (k : Int) := by omega
              have ca := SA.out.cell (setArr_get sa k (by have := hla.out; omega))
              have cb := SB.out.cell (setArr_get sb k (by have := hlb.out; omega))
              have cw := SW.out.cell (setArr_get (orUp sa sb k) k (by rw [orUp_length]; omega))
              have fw := SW.out.frozen k
              have hst := Aside0.mk (orUp_step sa sb k hlt)
              obtain ⟨kk, rfl⟩ : ∃ z, gk = z + 1 := ⟨gk - 1, by omega⟩
              generalize sa.getD k false = p at *
              generalize sb.getD k false = q at *
              generalize (orUp sa sb k).getD k false = z at *
              have hrd := Aside0.mk (setArr_set (orUp sa sb k) k (p || q))
              cases p
              all_goals
                go_wp2_with fail
                go_roundg kk
                case measure => omega
                case rel =>
                  refine ⟨k + 1, by omega, by go_num, ⟨HB.out.setCell (by have := hxw.out; show w.heap.size ≤ gw; omega) _⟩, ⟨HT.out.onlyB (only_set (only_refl _ _) _ _) SW.out (by decide) (by decide)⟩, ⟨SA.out.far (by have := hxw.out; simp; omega) _⟩, ⟨SB.out.far (by have := hxw.out; simp; omega) _⟩, ⟨?_⟩⟩
                  rw [← hst.out, ← hrd.out]
                  exact SW.out.set_ k _
            · have hlt' : ¬ (k : Int) < 64 := by omega
              obtain rfl : k = 64 := by omega
              have hlw : Aside0 ((orUp sa sb 64).length = 64) := ⟨orUp_length _ _ _⟩
              go_wp2_with fail
              refine (track_now tb gt n xo 0 false false false _ HT.out h2 hXl.out).mono ?_
              rintro e w35 ⟨gn, rfl, hg, hr, hB⟩
              have SA_35 := Aside0.mk (SA.out.keep hB)
              clear SA
              have SB_35 := Aside0.mk (SB.out.keep hB)
              clear SB
              have SW_35 := Aside0.mk (SW.out.keep hB)
              clear SW
              have T35 := Aside0.mk (HT.out.keep hB)
              have RN_35 := Aside0.mk hr
              have GE_RN : Aside0 (w.heap.size ≤ gn) := ⟨Nat.le_trans HB.out.size hg⟩
              have HB35 := Aside0.mk (below_step HB.out hB)
              clear hB hr hg HB HT
              go_wp2_with fail
              refine (track_lost tb gt n xo 0 false false false _ T35.out).mono ?_
              rintro e w36 ⟨rfl, hB⟩
              have T36 := Aside0.mk (T35.out.keep hB)
              have SA_36 := Aside0.mk (SA_35.out.keep hB)
              clear SA_35
              have SB_36 := Aside0.mk (SB_35.out.keep hB)
              clear SB_35
              have SW_36 := Aside0.mk (SW_35.out.keep hB)
              clear SW_35
              have RN_36 := Aside0.mk (RN_35.out.keep hB)
              clear RN_35
              have HB36 := Aside0.mk (below_step HB35.out hB)
              clear hB HB35 T35
              have hm : Aside0 (∀ k, k < n → memB (spansOf (markS n xo false)) (k : Int) = ((orUp sa sb 64).getD k false)) := ⟨fun k hk => by show memB (spansOf (bitsS n xo)) _ = _; rw [memB_bits n xo k h2 hk, ← hX.out, orUp_get _ _ _ _ (by omega), if_pos (by omega), Nat.testBit_or, Nat.testBit_and, ones_test, Mb.out k hk, Ma.out k hk, Bool.or_comm]; simp [hk]⟩
              generalize hL : spansOf (markS n xo false) = Ln at *
              have TL : Aside0 (Tidy 0 Ln) := ⟨hL ▸ spansOf_tidy _⟩
              clear hL
              obtain ⟨b1, hb1⟩ : ∃ z, RunsAt w36 z gn Ln := ⟨_, RN_36.out⟩
              have RN := Aside0.mk hb1
              clear hb1 RN_36 SA_36 SB_36
              generalize (orUp sa sb 64) = sw at *
              go_wp2_with fail
              go_loopg [20] n (fun kq v wq => ∃ i : Nat, i + kq = n ∧ v = .int .i64 (i : Int) ∧ Aside0 (Below w.heap.size w wq) ∧ Aside0 (TrackAt wq tb gt n xo 0 false false false) ∧ Aside0 (RunsAt wq b1 gn Ln) ∧ Aside0 (Blk wq gw 27 (setArr sw)))
              case atStart => exact ⟨0, by omega, rfl, HB36, T36, RN, SW_36⟩
              case round =>
                clear HB36 T36 RN SW_36
                obtain ⟨i, hi, rfl, HB, HT, RN, SW⟩ := hrel
                by_cases hlt : i < n
                · have hlt' : (i : Int) < (n : Int) := by omega
                  have hi0 : (0 : Int) ≤ (i : Int) := by omega
                  have hi1 : (i : Int) < 64 := by omega
                  have cw := SW.out.cell (setArr_get sw i (by have := hlw.out; omega))
                  have mb := Aside0.mk (hm.out i hlt)
                  obtain ⟨kk, rfl⟩ : ∃ z, gk = z + 1 := ⟨gk - 1, by omega⟩
                  generalize sw.getD i false = p at *
                  cases p
                  · go_wp2_with fail
                    refine start_ (n := 14) (S := fun w' => Below w.heap.size w w' ∧ TrackAt w' tb gt n xo 0 false false false ∧ RunsAt w' b1 gn Ln ∧ Blk w' gw 27 (setArr sw) ∧ w'.cell? ⟨gw, i, none⟩ = some (.bool false)) (ds := []) #[false, false, false, false, false, false, false, false, false, false, false, false, false, false] (by kernel_rfl) rfl rfl ⟨(below_drew1 HB.out), (TrackAt.keep HT.out (below_drew1 (Below.refl _ _))), (RunsAt.keep RN.out (below_drew1 (Below.refl _ _))), (Blk.drew SW.out), cw⟩ (fun hHeld => ?_)
                    refine pure_ (i := 0) (N := some 145) (v := ?_) (a' := ?_) #[true, false, false, false, false, false, false, false, false, false, false, false, false, false] rfl rfl (by kernel_rfl) (fun _ _ _ h => h) (Or.inl ⟨by rfl, ?_⟩) ?_ ?_
                    rotate_left
                    · intro w'
                      go_simp
                      with_reducible rfl
                    rotate_left
                    · simp only [Act.put, List.setIfInBounds_toArray, List.set_cons_zero, List.set_cons_succ, i64_w, i32_w]
                      rfl
                    refine pure_ (i := 1) (N := some 146) (v := ?_) (a' := ?_) #[true, true, false, false, false, false, false, false, false, false, false, false, false, false] rfl rfl (by kernel_rfl) (fun _ _ _ h => h) (Or.inl ⟨by rfl, ?_⟩) ?_ ?_
                    rotate_left
                    · intro w'
                      go_simp
                      with_reducible rfl
                    rotate_left
                    · simp only [Act.put, List.setIfInBounds_toArray, List.set_cons_zero, List.set_cons_succ, i64_w, i32_w]
                      rfl
                    refine pure_ (i := 3) (N := some 148) (v := ?_) (a' := ?_) #[true, true, false, true, false, false, false, false, false, false, false, false, false, false] rfl rfl (by kernel_rfl) (fun _ _ _ h => h) (Or.inl ⟨by rfl, ?_⟩) ?_ ?_
                    rotate_left
                    · intro w'
                      go_simp
                      with_reducible rfl
                    rotate_left
                    · simp only [Act.put, List.setIfInBounds_toArray, List.set_cons_zero, List.set_cons_succ, i64_w, i32_w]
                      rfl
                    refine pure_ (i := 4) (N := some 149) (v := ?_) (a' := ?_) #[true, true, false, true, true, false, false, false, false, false, false, false, false, false] rfl rfl (by kernel_rfl) (fun _ _ _ h => h) (Or.inl ⟨by rfl, ?_⟩) ?_ ?_
                    rotate_left
                    · intro w'
                      go_simp
                      with_reducible rfl
                    rotate_left
                    · simp only [Act.put, List.setIfInBounds_toArray, List.set_cons_zero, List.set_cons_succ, i64_w, i32_w]
                      rfl
                    refine take_ (i := 5) (N := some 150) (v := ?_) (a' := ?_) #[true, true, false, true, true, true, false, false, false, false, false, false, false, false] rfl rfl (by kernel_rfl) (fun _ _ _ h => h) (Or.inl ⟨by rfl, ?_⟩) hHeld ?_ ?_
                    rotate_left
                    · rintro w' ⟨s0, s1, s2, s3, s4⟩
                      go_simp
                      with_reducible rfl
                    rotate_left
                    · simp only [Act.put, List.setIfInBounds_toArray, List.set_cons_zero, List.set_cons_succ, i64_w, i32_w]
                      rfl
                    refine one_ (i := 2) (N := some 147) #[true, true, true, true, true, true, false, false, false, false, false, false, false, false] rfl rfl (by kernel_rfl) (by decide) (fun K hK => ?_)
                    refine goes_ Try.func43 (by kernel_rfl) rfl #[ptrR gn, .int .i64 (i : Int)] (by rfl) rfl rfl (by simp only [List.map_toArray, List.map_cons, List.map_nil]; rfl) ?_
                    with_reducible refine (runs_has b1 gn Ln (i : Int) _ TL.out hHeld.2.2.1).mono ?_
                    rintro e w50 ⟨rfl, hb⟩
                    refine ⟨_, rfl, ?_⟩
                    rw [mb.out]
                    refine hK.out _ _ ⟨(below_step hHeld.1 hb), (TrackAt.keep hHeld.2.1 hb), (RunsAt.keep hHeld.2.2.1 hb), (Blk.keep hHeld.2.2.2.1 hb), (keep hb hHeld.2.2.2.2)⟩ (fun hHeld => ?_)
                    clear hK K
                    refine norm_ (a' := ?_) ?_ ?_
                    rotate_left
                    · show Act.put _ (some 147) _ = _
                      simp only [Act.put, List.setIfInBounds_toArray, List.set_cons_zero, List.set_cons_succ, i64_w, i32_w]
                      rfl
                    refine pure_ (i := 6) (N := some 151) (v := ?_) (a' := ?_) #[true, true, true, true, true, true, true, false, false, false, false, false, false, false] rfl rfl (by kernel_rfl) (fun _ _ _ h => h) (Or.inl ⟨by rfl, ?_⟩) ?_ ?_
                    rotate_left
                    · intro w'
                      go_simp
                      with_reducible rfl
                    rotate_left
                    · simp only [Act.put, List.setIfInBounds_toArray, List.set_cons_zero, List.set_cons_succ, i64_w, i32_w]
                      rfl
                    refine pure_ (i := 7) (N := some 152) (v := ?_) (a' := ?_) #[true, true, true, true, true, true, true, true, false, false, false, false, false, false] rfl rfl (by kernel_rfl) (fun _ _ _ h => h) (Or.inl ⟨by rfl, ?_⟩) ?_ ?_
                    rotate_left
                    · intro w'
                      go_simp
                      with_reducible rfl
                    rotate_left
                    · simp only [Act.put, List.setIfInBounds_toArray, List.set_cons_zero, List.set_cons_succ, i64_w, i32_w]
                      rfl
                    refine pure_ (i := 8) (N := some 153) (v := ?_) (a' := ?_) #[true, true, true, true, true, true, true, true, true, false, false, false, false, false] rfl rfl (by kernel_rfl) (fun _ _ _ h => h) (Or.inl ⟨by rfl, ?_⟩) ?_ ?_
                    rotate_left
                    · intro w'
                      go_simp
                      with_reducible rfl
                    rotate_left
                    · simp only [Act.put, List.setIfInBounds_toArray, List.set_cons_zero, List.set_cons_succ, i64_w, i32_w]
                      rfl
                    refine pure_ (i := 9) (N := some 154) (v := undef) (a' := ?_) #[true, true, true, true, true, true, true, true, true, true, false, false, false, false] rfl rfl (by kernel_rfl) (fun _ _ _ h => h) (Or.inr ⟨by rfl, rfl⟩) ?_ ?_
                    rotate_left
                    · simp only [Act.put, List.setIfInBounds_toArray, List.set_cons_zero, List.set_cons_succ, i64_w, i32_w]
                      rfl
                    refine pure_ (i := 10) (N := some 155) (v := undef) (a' := ?_) #[true, true, true, true, true, true, true, true, true, true, true, false, false, false] rfl rfl (by kernel_rfl) (fun _ _ _ h => h) (Or.inr ⟨by rfl, rfl⟩) ?_ ?_
                    rotate_left
                    · simp only [Act.put, List.setIfInBounds_toArray, List.set_cons_zero, List.set_cons_succ, i64_w, i32_w]
                      rfl
                    refine pure_ (i := 11) (N := some 156) (v := ?_) (a' := ?_) #[true, true, true, true, true, true, true, true, true, true, true, true, false, false] rfl rfl (by kernel_rfl) (fun _ _ _ h => h) (Or.inl ⟨by rfl, ?_⟩) ?_ ?_
                    rotate_left
                    · intro w'
                      go_simp
                      with_reducible rfl
                    rotate_left
                    · simp only [Act.put, List.setIfInBounds_toArray, List.set_cons_zero, List.set_cons_succ, i64_w, i32_w]
                      rfl
                    refine pure_ (i := 12) (N := some 157) (v := ?_) (a' := ?_) #[true, true, true, true, true, true, true, true, true, true, true, true, true, false] rfl rfl (by kernel_rfl) (fun _ _ _ h => h) (Or.inl ⟨by rfl, ?_⟩) ?_ ?_
                    rotate_left
                    · intro w'
                      go_simp
                      with_reducible rfl
                    rotate_left
                    · simp only [Act.put, List.setIfInBounds_toArray, List.set_cons_zero, List.set_cons_succ, i64_w, i32_w]
                      rfl
                    refine pure_ (i := 13) (N := some 158) (v := ?_) (a' := ?_) #[true, true, true, true, true, true, true, true, true, true, true, true, true, true] rfl rfl (by kernel_rfl) (fun _ _ _ h => h) (Or.inl ⟨by rfl, ?_⟩) ?_ ?_
                    rotate_left
                    · intro w'
                      go_simp
                      with_reducible rfl
                    rotate_left
                    · simp only [Act.put, List.setIfInBounds_toArray, List.set_cons_zero, List.set_cons_succ, i64_w, i32_w]
                      rfl
                    refine done_ (by kernel_rfl) ?_
                    replace HB := Aside0.mk hHeld.1
                    replace HT := Aside0.mk hHeld.2.1
                    replace RN := Aside0.mk hHeld.2.2.1
                    replace SW := Aside0.mk hHeld.2.2.2.1
                    clear hHeld cw
                    go_wp2_with fail
                    go_roundg kk
                    case measure => omega
                    case rel => exact ⟨i + 1, by omega, by go_num, HB, HT, RN, SW⟩
                  · go_wp2_with fail
                    refine start_ (n := 14) (S := fun w' => Below w.heap.size w w' ∧ TrackAt w' tb gt n xo 0 false false false ∧ RunsAt w' b1 gn Ln ∧ Blk w' gw 27 (setArr sw) ∧ w'.cell? ⟨gw, i, none⟩ = some (.bool true)) (ds := []) #[false, false, false, false, false, false, false, false, false, false, false, false, false, false] (by kernel_rfl) rfl rfl ⟨(below_drew1 HB.out), (TrackAt.keep HT.out (below_drew1 (Below.refl _ _))), (RunsAt.keep RN.out (below_drew1 (Below.refl _ _))), (Blk.drew SW.out), cw⟩ (fun hHeld => ?_)
                    refine pure_ (i := 0) (N := some 145) (v := ?_) (a' := ?_) #[true, false, false, false, false, false, false, false, false, false, false, false, false, false] rfl rfl (by kernel_rfl) (fun _ _ _ h => h) (Or.inl ⟨by rfl, ?_⟩) ?_ ?_
                    rotate_left
                    · intro w'
                      go_simp
                      with_reducible rfl
                    rotate_left
                    · simp only [Act.put, List.setIfInBounds_toArray, List.set_cons_zero, List.set_cons_succ, i64_w, i32_w]
                      rfl
                    refine pure_ (i := 1) (N := some 146) (v := ?_) (a' := ?_) #[true, true, false, false, false, false, false, false, false, false, false, false, false, false] rfl rfl (by kernel_rfl) (fun _ _ _ h => h) (Or.inl ⟨by rfl, ?_⟩) ?_ ?_
                    rotate_left
                    · intro w'
                      go_simp
                      with_reducible rfl
                    rotate_left
                    · simp only [Act.put, List.setIfInBounds_toArray, List.set_cons_zero, List.set_cons_succ, i64_w, i32_w]
                      rfl
                    refine pure_ (i := 3) (N := some 148) (v := ?_) (a' := ?_) #[true, true, false, true, false, false, false, false, false, false, false, false, false, false] rfl rfl (by kernel_rfl) (fun _ _ _ h => h) (Or.inl ⟨by rfl, ?_⟩) ?_ ?_
                    rotate_left
                    · intro w'
                      go_simp
                      with_reducible rfl
                    rotate_left
                    · simp only [Act.put, List.setIfInBounds_toArray, List.set_cons_zero, List.set_cons_succ, i64_w, i32_w]
                      rfl
                    refine pure_ (i := 4) (N := some 149) (v := ?_) (a' := ?_) #[true, true, false, true, true, false, false, false, false, false, false, false, false, false] rfl rfl (by kernel_rfl) (fun _ _ _ h => h) (Or.inl ⟨by rfl, ?_⟩) ?_ ?_
                    rotate_left
                    · intro w'
                      go_simp
                      with_reducible rfl
                    rotate_left
                    · simp only [Act.put, List.setIfInBounds_toArray, List.set_cons_zero, List.set_cons_succ, i64_w, i32_w]
                      rfl
                    refine take_ (i := 5) (N := some 150) (v := ?_) (a' := ?_) #[true, true, false, true, true, true, false, false, false, false, false, false, false, false] rfl rfl (by kernel_rfl) (fun _ _ _ h => h) (Or.inl ⟨by rfl, ?_⟩) hHeld ?_ ?_
                    rotate_left
                    · rintro w' ⟨s0, s1, s2, s3, s4⟩
                      go_simp
                      with_reducible rfl
                    rotate_left
                    · simp only [Act.put, List.setIfInBounds_toArray, List.set_cons_zero, List.set_cons_succ, i64_w, i32_w]
                      rfl
                    refine one_ (i := 2) (N := some 147) #[true, true, true, true, true, true, false, false, false, false, false, false, false, false] rfl rfl (by kernel_rfl) (by decide) (fun K hK => ?_)
                    refine goes_ Try.func43 (by kernel_rfl) rfl #[ptrR gn, .int .i64 (i : Int)] (by rfl) rfl rfl (by simp only [List.map_toArray, List.map_cons, List.map_nil]; rfl) ?_
                    with_reducible refine (runs_has b1 gn Ln (i : Int) _ TL.out hHeld.2.2.1).mono ?_
                    rintro e w50 ⟨rfl, hb⟩
                    refine ⟨_, rfl, ?_⟩
                    rw [mb.out]
                    refine hK.out _ _ ⟨(below_step hHeld.1 hb), (TrackAt.keep hHeld.2.1 hb), (RunsAt.keep hHeld.2.2.1 hb), (Blk.keep hHeld.2.2.2.1 hb), (keep hb hHeld.2.2.2.2)⟩ (fun hHeld => ?_)
                    clear hK K
                    refine norm_ (a' := ?_) ?_ ?_
                    rotate_left
                    · show Act.put _ (some 147) _ = _
                      simp only [Act.put, List.setIfInBounds_toArray, List.set_cons_zero, List.set_cons_succ, i64_w, i32_w]
                      rfl
                    refine pure_ (i := 6) (N := some 151) (v := ?_) (a' := ?_) #[true, true, true, true, true, true, true, false, false, false, false, false, false, false] rfl rfl (by kernel_rfl) (fun _ _ _ h => h) (Or.inl ⟨by rfl, ?_⟩) ?_ ?_
                    rotate_left
                    · intro w'
                      go_simp
                      with_reducible rfl
                    rotate_left
                    · simp only [Act.put, List.setIfInBounds_toArray, List.set_cons_zero, List.set_cons_succ, i64_w, i32_w]
                      rfl
                    refine pure_ (i := 7) (N := some 152) (v := undef) (a' := ?_) #[true, true, true, true, true, true, true, true, false, false, false, false, false, false] rfl rfl (by kernel_rfl) (fun _ _ _ h => h) (Or.inr ⟨by rfl, rfl⟩) ?_ ?_
                    rotate_left
                    · simp only [Act.put, List.setIfInBounds_toArray, List.set_cons_zero, List.set_cons_succ, i64_w, i32_w]
                      rfl
                    refine pure_ (i := 8) (N := some 153) (v := undef) (a' := ?_) #[true, true, true, true, true, true, true, true, true, false, false, false, false, false] rfl rfl (by kernel_rfl) (fun _ _ _ h => h) (Or.inr ⟨by rfl, rfl⟩) ?_ ?_
                    rotate_left
                    · simp only [Act.put, List.setIfInBounds_toArray, List.set_cons_zero, List.set_cons_succ, i64_w, i32_w]
                      rfl
                    refine pure_ (i := 9) (N := some 154) (v := undef) (a' := ?_) #[true, true, true, true, true, true, true, true, true, true, false, false, false, false] rfl rfl (by kernel_rfl) (fun _ _ _ h => h) (Or.inr ⟨by rfl, rfl⟩) ?_ ?_
                    rotate_left
                    · simp only [Act.put, List.setIfInBounds_toArray, List.set_cons_zero, List.set_cons_succ, i64_w, i32_w]
                      rfl
                    refine pure_ (i := 10) (N := some 155) (v := undef) (a' := ?_) #[true, true, true, true, true, true, true, true, true, true, true, false, false, false] rfl rfl (by kernel_rfl) (fun _ _ _ h => h) (Or.inr ⟨by rfl, rfl⟩) ?_ ?_
                    rotate_left
                    · simp only [Act.put, List.setIfInBounds_toArray, List.set_cons_zero, List.set_cons_succ, i64_w, i32_w]
                      rfl
                    refine pure_ (i := 11) (N := some 156) (v := undef) (a' := ?_) #[true, true, true, true, true, true, true, true, true, true, true, true, false, false] rfl rfl (by kernel_rfl) (fun _ _ _ h => h) (Or.inr ⟨by rfl, rfl⟩) ?_ ?_
                    rotate_left
                    · simp only [Act.put, List.setIfInBounds_toArray, List.set_cons_zero, List.set_cons_succ, i64_w, i32_w]
                      rfl
                    refine pure_ (i := 12) (N := some 157) (v := ?_) (a' := ?_) #[true, true, true, true, true, true, true, true, true, true, true, true, true, false] rfl rfl (by kernel_rfl) (fun _ _ _ h => h) (Or.inl ⟨by rfl, ?_⟩) ?_ ?_
                    rotate_left
                    · intro w'
                      go_simp
                      with_reducible rfl
                    rotate_left
                    · simp only [Act.put, List.setIfInBounds_toArray, List.set_cons_zero, List.set_cons_succ, i64_w, i32_w]
                      rfl
                    refine pure_ (i := 13) (N := some 158) (v := ?_) (a' := ?_) #[true, true, true, true, true, true, true, true, true, true, true, true, true, true] rfl rfl (by kernel_rfl) (fun _ _ _ h => h) (Or.inl ⟨by rfl, ?_⟩) ?_ ?_
                    rotate_left
                    · intro w'
                      go_simp
                      with_reducible rfl
                    rotate_left
                    · simp only [Act.put, List.setIfInBounds_toArray, List.set_cons_zero, List.set_cons_succ, i64_w, i32_w]
                      rfl
                    refine done_ (by kernel_rfl) ?_
                    replace HB := Aside0.mk hHeld.1
                    replace HT := Aside0.mk hHeld.2.1
                    replace RN := Aside0.mk hHeld.2.2.1
                    replace SW := Aside0.mk hHeld.2.2.2.1
                    clear hHeld cw
                    go_wp2_with fail
                    go_roundg kk
                    case measure => omega
                    case rel => exact ⟨i + 1, by omega, by go_num, HB, HT, RN, SW⟩
                · have hlt' : ¬ (i : Int) < (n : Int) := by omega
                  go_wp2_with fail
                  refine (back_idle tb gt n xo 0 false false _ h2 hXl.out (by decide) HT.out).mono ?_
                  rintro e w91 ⟨rfl, ht, hB⟩
                  have T91 := Aside0.mk ht
                  have HB91 := Aside0.mk (below_mix HB.out GB.out hB)
                  clear hB ht HB HT
                  go_wp2_with fail
                  go_ret
                  exact ⟨rfl, HB91.out⟩
theorem walk (b : Int) (A : Option Addr) (c : Nat) (l : List S31) (B : Option Addr) (d : Nat) (m : List S31) (u v : Bool) (w : World) (_ : (Lit.int .i64 b).wf = true) (hc : l.length ≤ c) (hA : Kd.C k31 w A l.length l) (hd : m.length ≤ d) (hB : Kd.C k31 w B m.length m) :
    Calls Try.prog 10 #[.int .i64 b, .slice A l.length c, .slice B m.length d, .bool u, .bool v] w fun e w' => e = .returned (.bool true) ∧ Below w.heap.size w w' := by
  by_cases h : b < 1 ∨ (¬ b < 1 ∧ 64 < b) ∨ (¬ b < 1 ∧ ¬ 64 < b ∧ 20 < (l.length : Int)) ∨ (¬ b < 1 ∧ ¬ 64 < b ∧ ¬ 20 < (l.length : Int) ∧ 20 < (m.length : Int))
  · exact early b A c l B d m u v w h
  · obtain ⟨n, rfl⟩ := Int.eq_ofNat_of_zero_le (show 0 ≤ b by omega)
    cases u <;> cases v
    · exact main_bn n A c l B d m w (by omega) (by omega) (by omega) (by omega) hc hd hA hB
    · exact main_bl n A c l B d m w (by omega) (by omega) (by omega) (by omega) hc hd hA hB
    · exact main_dn n A c l B d m w (by omega) (by omega) (by omega) (by omega) hc hd hA hB
    · exact main_dl n A c l B d m w (by omega) (by omega) (by omega) (by omega) hc hd hA hB
end Go.Proofs.Ytffemlfdhkndiaa.WTrackKeeps
