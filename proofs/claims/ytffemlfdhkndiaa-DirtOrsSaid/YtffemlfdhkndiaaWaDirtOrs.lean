/- DirtOrs, walked: marks of two that are put together are those of both, in either order. -/
import Derived.Test.YtffemlfdhkndiaaDirtSets
import Derived.Deep.RegionHeld3
import Derived.Deep.WholeRow
import Derived.Test.YtffemlfdhkndiaaAx0
namespace Go.Proofs.Ytffemlfdhkndiaa.WDirtOrs
open Go.RowKit Go.Proofs.YtffemlfdhkndiaaW.PrintWords Go.Proofs.YtffemlfdhkndiaaW.PrintLast Go.Proofs.YtffemlfdhkndiaaW.PrintMore Go.Proofs.Ytffemlfdhkndiaa.A Go.Proofs.Ytffemlfdhkndiaa.Bits Go.Proofs.Ytffemlfdhkndiaa.Hand
set_option linter.unusedVariables false
set_option linter.unusedSimpArgs false
attribute [local go_sem] max2_int min2_int max_two min_two max_three min_three max_four min_four

theorem orAll_or (n : Nat) : ∀ (l : List S31) (x : Nat), orAll n l x = x ||| orAll n l 0
  | [], x => (Nat.or_zero x).symm
  | s :: l, x => by
    show orAll n l (x ||| markV n s.f0 s.f1) = x ||| orAll n l (0 ||| markV n s.f0 s.f1)
    rw [orAll_or n l, orAll_or n l (0 ||| _), Nat.zero_or, Nat.or_assoc]
set_option maxRecDepth 100000 in
theorem early (b : Int) (A : Option Addr) (c : Nat) (l : List S31) (A2 : Option Addr) (c2 : Nat) (l2 : List S31) (w : World) (h : b < 0 ∨ 64 < b ∨ 20 < (l.length : Int) ∨ 20 < (l2.length : Int)) :
    Calls Try.prog 3 #[.int .i64 b, .slice A l.length c, .slice A2 l2.length c2] w fun e w' => e = .returned (.bool true) ∧ Below w.heap.size w w' := by
  by_cases h1 : b < 0
  · go_enter Try.func3, Try.ntmps3
    go_wp2_with (go_at_call 13; refine (alive3.calls true _ rfl).mono ?_; rintro e w1 ⟨rfl, hB⟩)
    go_ret
    exact ⟨rfl, hB⟩
  · by_cases h2 : 64 < b
    · go_enter Try.func3, Try.ntmps3
      go_wp2_with (go_at_call 13; refine (alive3.calls true _ rfl).mono ?_; rintro e w1 ⟨rfl, hB⟩)
      go_ret
      exact ⟨rfl, hB⟩
    · by_cases h3 : 20 < (l.length : Int)
      · go_enter Try.func3, Try.ntmps3
        go_wp2_with (go_at_call 13; refine (alive3.calls true _ rfl).mono ?_; rintro e w1 ⟨rfl, hB⟩)
        go_ret
        exact ⟨rfl, hB⟩
      · have h4 : 20 < (l2.length : Int) := by omega
        go_enter Try.func3, Try.ntmps3
        go_wp2_with (go_at_call 13; refine (alive3.calls true _ rfl).mono ?_; rintro e w1 ⟨rfl, hB⟩)
        go_ret
        exact ⟨rfl, hB⟩
set_option maxRecDepth 100000 in
set_option maxHeartbeats 3200000 in
theorem main (n : Nat) (A : Option Addr) (c : Nat) (l : List S31) (A2 : Option Addr) (c2 : Nat) (l2 : List S31) (w : World) (h2 : n ≤ 64) (h3 : l.length ≤ 20) (h4 : l2.length ≤ 20)
    (hc : l.length ≤ c) (hC : Kd.C k31 w A l.length l) (hc2 : l2.length ≤ c2) (hC2 : Kd.C k31 w A2 l2.length l2) :
    Calls Try.prog 3 #[.int .i64 (n : Int), .slice A l.length c, .slice A2 l2.length c2] w fun e w' => e = .returned (.bool true) ∧ Below w.heap.size w w' := by
  have HC := Aside0.mk hC
  have HC2 := Aside0.mk hC2
  have Hc := Aside0.mk hc
  have Hc2 := Aside0.mk hc2
  clear hC hC2 hc hc2
  have i0 : (0 : Int) ≤ (n : Int) := by omega
  have i2 : (n : Int) ≤ 64 := by omega
  have i3 : (l.length : Int) ≤ 20 := by omega
  have i4 : (l2.length : Int) ≤ 20 := by omega
  go_enter Try.func3, Try.ntmps3
  go_wp2_with fail
  refine (alive3.calls true _ rfl).mono ?_
  rintro e w1 ⟨rfl, hB⟩
  have HB : Aside0 (Below w.heap.size w w1) := ⟨hB⟩
  clear hB
  go_wp2_with fail
  refine (dirt_new (n : Int) _).mono ?_
  rintro e w2 ⟨rfl, hd, hB⟩
  rw [show (min (max (n : Int) 0) 64).toNat = n by omega] at hd
  have HB2 : Aside0 (Below w.heap.size w w2) := ⟨below_step HB.out hB⟩
  have Hg : Aside0 (w.heap.size ≤ w1.heap.size) := ⟨HB.out.size⟩
  have Hd := Aside0.mk hd
  clear hB HB hd
  generalize w1.heap.size = g at *
  go_wp2_with fail
  refine (dirt_new (n : Int) _).mono ?_
  rintro e w3 ⟨rfl, he, hB⟩
  rw [show (min (max (n : Int) 0) 64).toNat = n by omega] at he
  have HB3 : Aside0 (Below w.heap.size w w3) := ⟨below_step HB2.out hB⟩
  have Hh : Aside0 (w.heap.size ≤ w2.heap.size) := ⟨HB2.out.size⟩
  have Hgh : Aside0 (g ≠ w2.heap.size) := ⟨Nat.ne_of_lt Hd.out.lt⟩
  have Hd2 := Aside0.mk (Hd.out.keep hB)
  have He := Aside0.mk he
  clear hB HB2 Hd he
  generalize w2.heap.size = h at *
  go_wp2_with fail
  refine (emulsionref1_Set_Put.calls none64 ⟨by simp⟩ A c l true _ (Kd.C_below HC.out HB3.out) Hc.out).mono ?_
  rintro e w4 ⟨rfl, hB⟩
  have HB4 : Aside0 (Below w.heap.size w w4) := ⟨below_step HB3.out hB⟩
  have Hd3 := Aside0.mk (Hd2.out.keep hB)
  have He3 := Aside0.mk (He.out.keep hB)
  have hl1 : Aside0 ((putS none64 l true).length = 64) := ⟨(putS_length _ _ _).trans (by simp)⟩
  clear hB HB3 Hd2 He
  go_wp2_with fail
  refine (emulsionref1_Set_Put.calls (putS none64 l true) hl1 A2 c2 l2 true _ (Kd.C_below HC2.out HB4.out) Hc2.out).mono ?_
  rintro e w5 ⟨rfl, hB⟩
  have HB5 : Aside0 (Below w.heap.size w w5) := ⟨below_step HB4.out hB⟩
  have Hd4 := Aside0.mk (Hd3.out.keep hB)
  have He4 := Aside0.mk (He3.out.keep hB)
  have hl2 : Aside0 ((putS (putS none64 l true) l2 true).length = 64) := ⟨(putS_length _ _ _).trans hl1.out⟩
  clear hB HB4 Hd3 He3
  have hset : Aside0 (∀ k, k < n → (orAll n l2 (orAll n l 0)).testBit k = (putS (putS none64 l true) l2 true).getD k false) := ⟨fun k hk => orAll_put n k hk l2 _ _ hl1.out (orAll_put n k hk l 0 none64 (by simp) (by rw [Nat.zero_testBit, none64_get]))⟩
  generalize putS (putS none64 l true) l2 true = s at *
  clear hl1
  have hsz : (setArr s).size = 64 := by rw [setArr_size, hl2.out]
  go_wp2_with ((with_reducible refine wpList_store_row rfl 27 (.tmp 9) (.tmp 52) rfl w5.heap.size (setArr s) rfl rfl 27 _ (heap_alloc_new _ _) (by rw [setArr_size, hl2.out] <;> exact info27) (by rw [setArr_size, hl2.out] <;> with_unfolding_all rfl) (setArr_one _) ?_))
  rw [World.setRow_alloc_new]
  have HB6 : Aside0 (Below w.heap.size w (w5.alloc (.cells (setArr s) 27))) := ⟨below_alloc HB5.out _⟩
  have HD := Aside0.mk (Hd4.out.alloc (.cells (setArr s) 27))
  have HE := Aside0.mk (He4.out.alloc (.cells (setArr s) 27))
  have HS : Aside0 (Blk (w5.alloc (.cells (setArr s) 27)) w5.heap.size 27 (setArr s)) := ⟨Blk.new _ _ _⟩
  have Hz1 : Aside0 (w.heap.size ≤ w5.heap.size) := ⟨HB5.out.size⟩
  have Hz2 : Aside0 (g ≠ w5.heap.size) := ⟨Nat.ne_of_lt Hd4.out.lt⟩
  have Hz3 : Aside0 (h ≠ w5.heap.size) := ⟨Nat.ne_of_lt He4.out.lt⟩
  clear HB5 Hd4 He4 hsz
  generalize w5.alloc (.cells (setArr s) 27) = w6 at *
  generalize w5.heap.size = z at *
  go_loopg [10] l.length (fun kq v wq => ∃ (i : Nat), i + kq = l.length ∧ v = .int .i64 (i : Int) ∧ Aside0 (Below w.heap.size w wq) ∧ Aside0 (DirtAt wq g n (orAll n (l.take i) 0)) ∧ Aside0 (DirtAt wq h n 0) ∧ Aside0 (Blk wq z 27 (setArr s)))
  case atStart => exact ⟨0, by omega, rfl, HB6, HD, HE, HS⟩
  case round =>
    clear HB6 HD HE HS
    obtain ⟨i, hi, rfl, HB, HD, HE, HS⟩ := hrel
    by_cases hlt : i < l.length
    · obtain ⟨ad, e1, x0, x1⟩ := at_T31 (Kd.C_below HC.out HB.out) (i : Int) (by omega) (by omega)
      subst e1
      rw [Int.toNat_natCast] at x0 x1
      have hlt' : (i : Int) < (l.length : Int) := by omega
      obtain ⟨kk, rfl⟩ : ∃ z, gk = z + 1 := ⟨gk - 1, by omega⟩
      have Hs := Aside0.mk (orAll_snoc n l 0 i hlt)
      generalize rd_T31 l (i : Int) = X at *
      obtain ⟨F, M⟩ := X
      have hy := orAll_lt n (l.take i) 0 (by decide)
      go_wp2_with fail
      refine (dirt_mark g n _ F M h2 hy _ HD.out).mono ?_
      rintro e w7 ⟨rfl, hd, ho⟩
      rw [← Hs.out] at hd
      have HB7 : Aside0 (Below w.heap.size w w7) := ⟨below_only HB.out ho Hg.out⟩
      have HD7 := Aside0.mk hd
      have HE7 : Aside0 (DirtAt w7 h n 0) := ⟨HE.out.only ho (Ne.symm Hgh.out)⟩
      have HS7 := Aside0.mk (HS.out.only ho (Ne.symm Hz2.out))
      clear hd ho HB HD HE HS Hs hy
      go_wp2_with fail
      go_roundg kk
      case measure => omega
      case rel => exact ⟨i + 1, by omega, by go_num, HB7, HD7, HE7, HS7⟩
    · have hlt' : ¬ (i : Int) < (l.length : Int) := by omega
      go_wp2_with fail
      rw [List.take_of_length_le (by omega)] at HD
      have hx := Aside0.mk (orAll_lt n l 0 (by decide))
      have hxh : Aside0 (∀ j, n ≤ j → (orAll n l 0).testBit j = false) := ⟨fun j hj => orAll_high n l 0 j (Nat.zero_testBit j) hj⟩
      have hset2 : Aside0 (∀ k, k < n → (orAll n l 0 ||| orAll n l2 0).testBit k = s.getD k false) := ⟨fun k hk => by rw [← orAll_or]; exact hset.out k hk⟩
      clear hset HC Hc
      generalize orAll n l 0 = x at *
      go_loopg [11] l2.length (fun kq v wq => ∃ (i : Nat), i + kq = l2.length ∧ v = .int .i64 (i : Int) ∧ Aside0 (Below w.heap.size w wq) ∧ Aside0 (DirtAt wq g n x) ∧ Aside0 (DirtAt wq h n (orAll n (l2.take i) 0)) ∧ Aside0 (Blk wq z 27 (setArr s)))
      case atStart => exact ⟨0, by omega, rfl, HB, HD, HE, HS⟩
      case round =>
        clear HB HD HE HS
        obtain ⟨i, hi, rfl, HB, HD, HE, HS⟩ := hrel
        by_cases hlt : i < l2.length
        · obtain ⟨ad, e1, x0, x1⟩ := at_T31 (Kd.C_below HC2.out HB.out) (i : Int) (by omega) (by omega)
          subst e1
          rw [Int.toNat_natCast] at x0 x1
          have hlt' : (i : Int) < (l2.length : Int) := by omega
          obtain ⟨kk, rfl⟩ : ∃ z, gk = z + 1 := ⟨gk - 1, by omega⟩
          have Hs := Aside0.mk (orAll_snoc n l2 0 i hlt)
          generalize rd_T31 l2 (i : Int) = X at *
          obtain ⟨F, M⟩ := X
          have hy := orAll_lt n (l2.take i) 0 (by decide)
          go_wp2_with fail
          refine (dirt_mark h n _ F M h2 hy _ HE.out).mono ?_
          rintro e w7 ⟨rfl, hd, ho⟩
          rw [← Hs.out] at hd
          have HB7 : Aside0 (Below w.heap.size w w7) := ⟨below_only HB.out ho Hh.out⟩
          have HE7 := Aside0.mk hd
          have HD7 : Aside0 (DirtAt w7 g n x) := ⟨HD.out.only ho Hgh.out⟩
          have HS7 := Aside0.mk (HS.out.only ho (Ne.symm Hz3.out))
          clear hd ho HB HD HE HS Hs hy
          go_wp2_with fail
          go_roundg kk
          case measure => omega
          case rel => exact ⟨i + 1, by omega, by go_num, HB7, HD7, HE7, HS7⟩
        · have hlt' : ¬ (i : Int) < (l2.length : Int) := by omega
          rw [List.take_of_length_le (by omega)] at HE
          have hy := Aside0.mk (orAll_lt n l2 0 (by decide))
          have hyh : Aside0 (∀ j, n ≤ j → (orAll n l2 0).testBit j = false) := ⟨fun j hj => orAll_high n l2 0 j (Nat.zero_testBit j) hj⟩
          clear HC2 Hc2
          generalize orAll n l2 0 = y at *
          go_wp2_with fail
          refine (dirt_count g n x hx.out _ HD.out).mono ?_
          rintro e w7 ⟨rfl, hB⟩
          have HB7 : Aside0 (Below w.heap.size w w7) := ⟨below_step HB.out hB⟩
          have HD7 := Aside0.mk (HD.out.keep hB)
          have HE7 := Aside0.mk (HE.out.keep hB)
          have HS7 := Aside0.mk (HS.out.keep hB)
          clear hB HB HD HE HS
          go_wp2_with fail
          refine (dirt_count h n y hy.out _ HE7.out).mono ?_
          rintro e w8 ⟨rfl, hB⟩
          have HB8 : Aside0 (Below w.heap.size w w8) := ⟨below_step HB7.out hB⟩
          have HD8 := Aside0.mk (HD7.out.keep hB)
          have HE8 := Aside0.mk (HE7.out.keep hB)
          have HS8 := Aside0.mk (HS7.out.keep hB)
          clear hB HB7 HD7 HE7 HS7
          have my := Aside0.mk (mask_all n y hyh.out)
          have mxy := Aside0.mk (mask_all n (x ||| y) (fun j hj => by rw [Nat.testBit_or, hxh.out j hj, hyh.out j hj]; rfl))
          have hxy := Aside0.mk (or_lt hx.out hy.out)
          have yor : Aside0 (y ||| (x ||| y) = x ||| y) := ⟨by rw [Nat.or_comm x y, ← Nat.or_assoc, Nat.or_self]⟩
          have c1 := Aside0.mk (cnt_or x y)
          have c2 := Aside0.mk (cnt_or y (x ||| y))
          rw [yor.out] at c2
          go_wp2_with fail
          refine (dirt_or g n x h n y h2 hx.out hy.out _ HD8.out HE8.out).mono ?_
          rintro e w9 ⟨rfl, hd, ho⟩
          rw [my.out] at hd ⊢
          have HB9 : Aside0 (Below w.heap.size w w9) := ⟨below_only HB8.out ho Hg.out⟩
          have HD9 := Aside0.mk hd
          have HE9 : Aside0 (DirtAt w9 h n y) := ⟨HE8.out.only ho (Ne.symm Hgh.out)⟩
          have HS9 := Aside0.mk (HS8.out.only ho (Ne.symm Hz2.out))
          clear hd ho HB8 HD8 HE8 HS8 my hxh hyh
          generalize x ||| y = v at *
          go_wp2_with fail
          refine (dirt_or h n y g n v h2 hy.out hxy.out _ HE9.out HD9.out).mono ?_
          rintro e w10 ⟨rfl, hd, ho⟩
          rw [mxy.out] at hd ⊢
          rw [yor.out] at hd
          have HBa : Aside0 (Below w.heap.size w w10) := ⟨below_only HB9.out ho Hh.out⟩
          have HEa := Aside0.mk hd
          have HDa : Aside0 (DirtAt w10 g n v) := ⟨HD9.out.only ho Hgh.out⟩
          have HSa := Aside0.mk (HS9.out.only ho (Ne.symm Hz3.out))
          clear hd ho HB9 HD9 HE9 HS9 yor
          go_wp2_with fail
          refine (dirt_bytes g n v h2 hxy.out _ HDa.out).mono ?_
          rintro e w11 ⟨rfl, hB⟩
          have HBb : Aside0 (Below w.heap.size w w11) := ⟨below_step HBa.out hB⟩
          have HDb := Aside0.mk (HDa.out.keep hB)
          have HEb := Aside0.mk (HEa.out.keep hB)
          have HSb := Aside0.mk (HSa.out.keep hB)
          clear hB HBa HDa HEa HSa
          go_wp2_with fail
          refine (dirt_bytes h n v h2 hxy.out _ HEb.out).mono ?_
          rintro e w12 ⟨rfl, hB⟩
          generalize strOfNums (bytesD n v) = bs at *
          have HBc : Aside0 (Below w.heap.size w w12) := ⟨below_step HBb.out hB⟩
          have HDc := Aside0.mk (HDb.out.keep hB)
          have HEc := Aside0.mk (HEb.out.keep hB)
          have HSc := Aside0.mk (HSb.out.keep hB)
          clear hB HBb HDb HEb HSb
          go_wp2_with fail
          have b1 := cnt_le v
          have d3 : Aside0 (cnt (minus v v) = 0) := ⟨by have := cnt_or v v; rw [Nat.or_self] at this; omega⟩
          obtain ⟨V, hV⟩ : ∃ V : Nat, cnt v = V := ⟨_, rfl⟩
          have HV := Aside0.mk hV
          rw [hV] at b1
          have e1 : ((V : Nat) : Int) = ((cnt x : Nat) : Int) + ((cnt (minus y x) : Nat) : Int) := by have := c1.out; omega
          have e2 : ((V : Nat) : Int) = ((cnt y : Nat) : Int) + ((cnt (minus v y) : Nat) : Int) := by have := c2.out; omega
          clear c1 c2 hV
          generalize cnt (minus y x) = P at *
          generalize cnt (minus v y) = Q at *
          generalize cnt x = X at *
          generalize cnt y = Y at *
          clear hx hy
          have b2 : (0 : Int) ≤ (X : Int) := Int.natCast_nonneg _
          have b3 : (0 : Int) ≤ (Y : Int) := Int.natCast_nonneg _
          have b4 : (0 : Int) ≤ (P : Int) := Int.natCast_nonneg _
          have b5 : (0 : Int) ≤ (Q : Int) := Int.natCast_nonneg _
          have b6 : (V : Int) ≤ 64 := by omega
          have b7 : (0 : Int) ≤ (V : Int) := Int.natCast_nonneg _
          refine (dirt_count g n v hxy.out _ HDc.out).mono ?_
          rintro e w13 ⟨rfl, hB⟩
          rw [HV.out]
          have HBd : Aside0 (Below w.heap.size w w13) := ⟨below_step HBc.out hB⟩
          have HDd := Aside0.mk (HDc.out.keep hB)
          have HEd := Aside0.mk (HEc.out.keep hB)
          have HSd := Aside0.mk (HSc.out.keep hB)
          clear hB HBc HDc HEc HSc
          have d1 : wrap64 ((V : Int) - (X : Int)) = (P : Int) := by rw [w_id (by omega) (by omega)]; omega
          have d2 : wrap64 ((V : Int) - (Y : Int)) = (Q : Int) := by rw [w_id (by omega) (by omega)]; omega
          clear e1 e2 b1 b2 b3 b4 b5 b6 b7
          go_wp2_with fail
          refine (dirt_count h n v hxy.out _ HEd.out).mono ?_
          rintro e w14 ⟨rfl, hB⟩
          rw [HV.out]
          have HBe : Aside0 (Below w.heap.size w w14) := ⟨below_step HBd.out hB⟩
          have HDe := Aside0.mk (HDd.out.keep hB)
          have HEe := Aside0.mk (HEd.out.keep hB)
          have HSe := Aside0.mk (HSd.out.keep hB)
          clear hB HBd HDd HEd HSd
          go_wp2_with fail
          refine (dirt_or g n v h n v h2 hxy.out hxy.out _ HDe.out HEe.out).mono ?_
          rintro e w15 ⟨rfl, hd, ho⟩
          rw [mxy.out, Nat.or_self] at hd
          rw [mxy.out, d3.out]
          have HBf : Aside0 (Below w.heap.size w w15) := ⟨below_only HBe.out ho Hg.out⟩
          have HDf := Aside0.mk hd
          have HSf := Aside0.mk (HSe.out.only ho (Ne.symm Hz2.out))
          clear hd ho HBe HDe HEe HSe mxy
          go_wp2_with fail
          go_loopg [16] n (fun kq vq wq => ∃ (q : Nat), q + kq = n ∧ vq = .int .i64 (q : Int) ∧ Aside0 (Below w.heap.size w wq) ∧ Aside0 (DirtAt wq g n v) ∧ Aside0 (Blk wq z 27 (setArr s)))
          case atStart => exact ⟨0, by omega, rfl, HBf, HDf, HSf⟩
          case round =>
            clear HBf HDf HSf
            obtain ⟨q, hi, rfl, HB, HD, HS⟩ := hrel
            by_cases hlt : q < n
            · have hlt' : (q : Int) < (n : Int) := by omega
              have hq0 : (0 : Int) ≤ (q : Int) := by omega
              have hq1 : (q : Int) < 64 := by omega
              obtain ⟨kk, rfl⟩ : ∃ z, gk = z + 1 := ⟨gk - 1, by omega⟩
              obtain ⟨bb, hbb⟩ : ∃ bb, bb = s.getD q false := ⟨_, rfl⟩
              have Hk : Aside0 ((decide ((0 : Int) ≤ (q : Int)) && decide ((q : Int) < (n : Int)) && v.testBit ((q : Int)).toNat) = bb) := ⟨by rw [Int.toNat_natCast, hset2.out q hlt, hbb]; simp; omega⟩
              go_wp2_with fail
              have C0 := HS.out.cell (setArr_get s q (by have := hl2.out; omega))
              rw [← hbb] at C0
              clear hbb
              refine start_ (n := 7) (S := fun w' => Below w.heap.size w w' ∧ DirtAt w' g n v ∧ Blk w' z 27 (setArr s) ∧ w'.cell? ⟨z, q, none⟩ = some (.bool bb)) (ds := []) #[false, false, false, false, false, false, false] (by kernel_rfl) rfl rfl ⟨(below_drew1 HB.out), (Blk.drew HD.out), (Blk.drew HS.out), C0⟩ (fun hHeld => ?_)
              refine pure_ (i := 0) (N := some 119) (v := ?_) (a' := ?_) #[true, false, false, false, false, false, false] rfl rfl (by kernel_rfl) (fun _ _ _ h => h) (Or.inl ⟨by rfl, ?_⟩) ?_ ?_
              rotate_left
              · intro w'
                go_simp
                with_reducible rfl
              rotate_left
              · simp only [Act.put, List.setIfInBounds_toArray, List.set_cons_zero, List.set_cons_succ, i64_w, i32_w]
                rfl
              refine pure_ (i := 1) (N := some 120) (v := ?_) (a' := ?_) #[true, true, false, false, false, false, false] rfl rfl (by kernel_rfl) (fun _ _ _ h => h) (Or.inl ⟨by rfl, ?_⟩) ?_ ?_
              rotate_left
              · intro w'
                go_simp
                with_reducible rfl
              rotate_left
              · simp only [Act.put, List.setIfInBounds_toArray, List.set_cons_zero, List.set_cons_succ, i64_w, i32_w]
                rfl
              refine pure_ (i := 3) (N := some 122) (v := ?_) (a' := ?_) #[true, true, false, true, false, false, false] rfl rfl (by kernel_rfl) (fun _ _ _ h => h) (Or.inl ⟨by rfl, ?_⟩) ?_ ?_
              rotate_left
              · intro w'
                go_simp
                with_reducible rfl
              rotate_left
              · simp only [Act.put, List.setIfInBounds_toArray, List.set_cons_zero, List.set_cons_succ, i64_w, i32_w]
                rfl
              refine pure_ (i := 4) (N := some 123) (v := ?_) (a' := ?_) #[true, true, false, true, true, false, false] rfl rfl (by kernel_rfl) (fun _ _ _ h => h) (Or.inl ⟨by rfl, ?_⟩) ?_ ?_
              rotate_left
              · intro w'
                go_simp
                with_reducible rfl
              rotate_left
              · simp only [Act.put, List.setIfInBounds_toArray, List.set_cons_zero, List.set_cons_succ, i64_w, i32_w]
                rfl
              refine take_ (i := 5) (N := some 124) (v := ?_) (a' := ?_) #[true, true, false, true, true, true, false] rfl rfl (by kernel_rfl) (fun _ _ _ h => h) (Or.inl ⟨by rfl, ?_⟩) hHeld ?_ ?_
              rotate_left
              · rintro w' ⟨s0, s1, s2, s3⟩
                go_simp
                with_reducible rfl
              rotate_left
              · simp only [Act.put, List.setIfInBounds_toArray, List.set_cons_zero, List.set_cons_succ, i64_w, i32_w]
                rfl
              refine one_ (i := 2) (N := some 121) #[true, true, true, true, true, true, false] rfl rfl (by kernel_rfl) (by decide) (fun K hK => ?_)
              refine goes_ Try.func20 (by kernel_rfl) rfl #[ptr g, .int .i64 (q : Int)] (by rfl) rfl rfl (by simp only [List.map_toArray, List.map_cons, List.map_nil]; rfl) ?_
              with_reducible refine (dirt_has g n v h2 hxy.out (q : Int) _ hHeld.2.1).mono ?_
              rintro e w16 ⟨rfl, hb⟩
              refine ⟨_, rfl, ?_⟩
              rw [Hk.out]
              have hEnd : Below w.heap.size w w16 ∧ DirtAt w16 g n v ∧ Blk w16 z 27 (setArr s) := ⟨below_step hHeld.1 hb, Blk.keep hHeld.2.1 hb, Blk.keep hHeld.2.2.1 hb⟩
              refine hK.out _ _ ⟨(below_step hHeld.1 hb), (Blk.keep hHeld.2.1 hb), (Blk.keep hHeld.2.2.1 hb), (keep hb hHeld.2.2.2)⟩ (fun hHeld => ?_)
              clear hK K
              refine norm_ (a' := ?_) ?_ ?_
              rotate_left
              · show Act.put _ (some 121) _ = _
                simp only [Act.put, List.setIfInBounds_toArray, List.set_cons_zero, List.set_cons_succ, i64_w, i32_w]
                rfl
              refine pure_ (i := 6) (N := some 125) (v := ?_) (a' := ?_) #[true, true, true, true, true, true, true] rfl rfl (by kernel_rfl) (fun _ _ _ h => h) (Or.inl ⟨by rfl, ?_⟩) ?_ ?_
              rotate_left
              · intro w'
                go_simp
                with_reducible rfl
              rotate_left
              · simp only [Act.put, List.setIfInBounds_toArray, List.set_cons_zero, List.set_cons_succ, i64_w, i32_w]
                rfl
              refine done_ (by kernel_rfl) ?_
              clear hHeld
              have HB1 := Aside0.mk hEnd.1
              have HD1 := Aside0.mk hEnd.2.1
              have HS1 := Aside0.mk hEnd.2.2
              clear hEnd C0 HB HD HS
              cases bb <;> go_wp2_with fail
              all_goals go_roundg kk
              case' measure => omega
              case' rel => exact ⟨q + 1, by omega, by go_num, HB1, HD1, HS1⟩
              case' measure => omega
              case' rel => exact ⟨q + 1, by omega, by go_num, HB1, HD1, HS1⟩
            · have hlt' : ¬ (q : Int) < (n : Int) := by omega
              go_wp2_with fail
              go_ret
              exact ⟨rfl, HB.out⟩
theorem walk (b : Int) (A : Option Addr) (c : Nat) (l : List S31) (A2 : Option Addr) (c2 : Nat) (l2 : List S31) (w : World) (_ : (Lit.int .i64 b).wf = true)
    (hc : l.length ≤ c) (hC : Kd.C k31 w A l.length l) (hc2 : l2.length ≤ c2) (hC2 : Kd.C k31 w A2 l2.length l2) :
    Calls Try.prog 3 #[.int .i64 b, .slice A l.length c, .slice A2 l2.length c2] w fun e w' => e = .returned (.bool true) ∧ Below w.heap.size w w' := by
  by_cases h : b < 0 ∨ 64 < b ∨ 20 < (l.length : Int) ∨ 20 < (l2.length : Int)
  · exact early b A c l A2 c2 l2 w h
  · obtain ⟨n, rfl⟩ := Int.eq_ofNat_of_zero_le (show 0 ≤ b by omega)
    exact main n A c l A2 c2 l2 w (by omega) (by omega) (by omega) hc hC hc2 hC2
end Go.Proofs.Ytffemlfdhkndiaa.WDirtOrs
