/- DirtBack, walked: marks as bytes, and back, are the same; other marks are other bytes. -/
import Derived.Test.YtffemlfdhkndiaaRead
import Derived.Test.YtffemlfdhkndiaaDirtR
import Derived.Test.YtffemlfdhkndiaaAx0
namespace Go.Proofs.Ytffemlfdhkndiaa.WDirtBack
open Go.RowKit Go.Proofs.YtffemlfdhkndiaaW.PrintWords Go.Proofs.YtffemlfdhkndiaaW.PrintLast Go.Proofs.YtffemlfdhkndiaaW.PrintMore Go.Proofs.Ytffemlfdhkndiaa.A Go.Proofs.Ytffemlfdhkndiaa.Bits Go.Proofs.Ytffemlfdhkndiaa.Hand
set_option linter.unusedVariables false
set_option linter.unusedSimpArgs false
attribute [local go_sem] max2_int min2_int max_two min_two max_three min_three max_four min_four
theorem digits_eq : ∀ (m x y : Nat), x < 256 ^ m → y < 256 ^ m → (∀ i, i < m → x / 256 ^ i % 256 = y / 256 ^ i % 256) → x = y
  | 0, x, y, hx, hy, _ => by simp at hx hy; omega
  | m + 1, x, y, hx, hy, h => by
    have h0 := h 0 (by omega)
    simp only [Nat.pow_zero, Nat.div_one] at h0
    have ih := digits_eq m (x / 256) (y / 256) (by rw [Nat.pow_succ] at hx; omega) (by rw [Nat.pow_succ] at hy; omega) (fun i hi => by
      have := h (i + 1) (by omega)
      rw [Nat.pow_succ, Nat.mul_comm, ← Nat.div_div_eq_div_mul, ← Nat.div_div_eq_div_mul] at this
      exact this)
    omega
theorem wordB_div (b : List Nat) (hb : ∀ x ∈ b, x < 256) (i : Nat) : ∀ m, i < m → wordB b m / 256 ^ i % 256 = b.getD i 0
  | 0, h => by omega
  | m + 1, h => by
    have h2 : b.getD i 0 < 256 := by
      rw [List.getD_eq_getElem?_getD]
      cases h : b[i]? with
      | none => decide
      | some x => exact hb x (List.mem_of_getElem? h)
    show (wordB b m + b.getD m 0 * 256 ^ m) / 256 ^ i % 256 = _
    by_cases e : i = m
    · subst e
      have hl := wordB_lt b hb i
      rw [Nat.add_mul_div_right _ _ (Nat.pow_pos (by decide)), Nat.div_eq_of_lt hl, Nat.zero_add, Nat.mod_eq_of_lt h2]
    · have ih := wordB_div b hb i m (by omega)
      have hp : 256 ^ m = 256 ^ (m - i - 1) * 256 * 256 ^ i := by
        rw [← Nat.pow_succ, ← Nat.pow_add]; congr 1; omega
      rw [hp, ← Nat.mul_assoc, Nat.add_mul_div_right _ _ (Nat.pow_pos (by decide)), ← Nat.mul_assoc, Nat.add_mul_mod_self_right]
      exact ih
theorem size_of (n x : Nat) : (strOfNums (bytesD n x)).size = (n + 7) / 8 := by rw [strOfNums_size, bytesD_length]
theorem word_back (n x : Nat) (hx : x < 2 ^ n) : wordB (natsOf (strOfNums (bytesD n x))) (strOfNums (bytesD n x)).size = x := by
  have hn := natsOf_lt (strOfNums (bytesD n x))
  refine digits_eq ((n + 7) / 8) _ _ (by rw [size_of]; exact wordB_lt _ hn _) (Nat.lt_of_lt_of_le hx (by rw [show (256 : Nat) = 2 ^ 8 by decide, ← Nat.pow_mul]; exact Nat.pow_le_pow_right (by decide) (by omega))) (fun i hi => ?_)
  rw [wordB_div _ hn i _ (by rw [size_of]; exact hi)]
  unfold natsOf
  rw [strOfNums_data, List.getD_eq_getElem?_getD, List.getElem?_map, List.getElem?_map]
  unfold bytesD
  rw [List.getElem?_map, List.getElem?_range hi]
  simp only [Option.map_some, Option.getD_some, Int.toNat_natCast]
  rw [UInt8.toNat_ofNat']
  omega
theorem orAll_small (n : Nat) (l : List S31) : orAll n l 0 < 2 ^ n := by
  refine Nat.lt_pow_two_of_testBit _ (fun i hi => ?_)
  exact orAll_high n l 0 i (Nat.zero_testBit i) hi
theorem runs_eq (n x y : Nat) (hn : n ≤ 64) (hx : x < 2 ^ n) (hy : y < 2 ^ n) (h : spansOf (bitsS n x) = spansOf (bitsS n y)) : x = y := by
  apply Nat.eq_of_testBit_eq
  intro i
  by_cases hi : i < n
  · have a := bits_mem n x (i : Int)
    have b := bits_mem n y (i : Int)
    rw [h, b] at a
    simp only [Int.toNat_natCast] at a
    rw [Bool.eq_iff_iff]
    constructor
    · intro hh; exact (a.2 ⟨by omega, by omega, by omega, hh⟩).2.2.2
    · intro hh; exact (a.1 ⟨by omega, by omega, by omega, hh⟩).2.2.2
  · rw [Nat.testBit_lt_two_pow (Nat.lt_of_lt_of_le hx (Nat.pow_le_pow_right (by decide) (by omega))), Nat.testBit_lt_two_pow (Nat.lt_of_lt_of_le hy (Nat.pow_le_pow_right (by decide) (by omega)))]
theorem full (n x : Nat) (hn : n ≤ 64) (hx : x < 2 ^ n) : minus x (ones 0 n) = 0 := by
  apply Nat.eq_of_testBit_eq
  intro i
  rw [Nat.zero_testBit]
  by_cases hi : i < 64
  · rw [minus_test _ _ _ hi, ones_test]
    by_cases hni : n ≤ i
    · rw [Nat.testBit_lt_two_pow (Nat.lt_of_lt_of_le hx (Nat.pow_le_pow_right (by decide) hni))]; rfl
    · have : i < n := by omega
      simp [this]
  · by_cases hni : n ≤ i
    · exact Nat.testBit_lt_two_pow (Nat.lt_of_le_of_lt (minus_le _ _) (Nat.lt_of_lt_of_le hx (Nat.pow_le_pow_right (by decide) hni)))
    · omega
set_option maxRecDepth 100000 in
theorem early (b : Int) (A : Option Addr) (c : Nat) (l : List S31) (B : Option Addr) (d : Nat) (m : List S31) (w : World) (h : b < 0 ∨ (¬ b < 0 ∧ 64 < b) ∨ (¬ b < 0 ∧ ¬ 64 < b ∧ 20 < (l.length : Int)) ∨ (¬ b < 0 ∧ ¬ 64 < b ∧ ¬ 20 < (l.length : Int) ∧ 20 < (m.length : Int))) :
    Calls Try.prog 7 #[.int .i64 b, .slice A l.length c, .slice B m.length d] w fun e w' => e = .returned (.bool true) ∧ Below w.heap.size w w' := by
  rcases h with h | ⟨h0, h⟩ | ⟨h0, h1, h⟩ | ⟨h0, h1, h2, h⟩
  all_goals
    go_enter Try.func7, Try.ntmps7
    go_wp2_with (go_at_call 13; refine (alive3.calls true _ rfl).mono ?_; rintro e w1 ⟨rfl, hB⟩)
    go_ret
    exact ⟨rfl, hB⟩
set_option maxRecDepth 100000 in
set_option maxHeartbeats 3200000 in
theorem main (n : Nat) (A : Option Addr) (c : Nat) (a : List S31) (B : Option Addr) (d : Nat) (b : List S31) (w : World) (h2 : n ≤ 64) (h3 : a.length ≤ 20) (h4 : b.length ≤ 20) (hA : Kd.C k31 w A a.length a) (hB0 : Kd.C k31 w B b.length b) :
    Calls Try.prog 7 #[.int .i64 (n : Int), .slice A a.length c, .slice B b.length d] w fun e w' => e = .returned (.bool true) ∧ Below w.heap.size w w' := by
  have CA := Aside0.mk hA
  have CB := Aside0.mk hB0
  have i1 : ¬ (n : Int) < 0 := by omega
  have i2 : ¬ (64 : Int) < (n : Int) := by omega
  have i3 : ¬ (20 : Int) < (a.length : Int) := by omega
  have i4 : ¬ (20 : Int) < (b.length : Int) := by omega
  have i5 : (0 : Int) ≤ (n : Int) := by omega
  have i6 : (n : Int) ≤ 64 := by omega
  have i7 : (a.length : Int) ≤ 20 := by omega
  have i8 : (b.length : Int) ≤ 20 := by omega
  have HB0 := Aside0.mk (Below.refl w.heap.size w)
  clear hA hB0
  go_enter Try.func7, Try.ntmps7
  go_wp2_with fail
  refine (alive3.calls true _ rfl).mono ?_
  rintro e w1 ⟨rfl, hB⟩
  have HB1 := Aside0.mk (below_step HB0.out hB)
  clear hB HB0
  go_wp2_with fail
  refine (dirt_new (n : Int) _).mono ?_
  rintro e w2 ⟨rfl, hr, hB⟩
  rw [show (min (max (n : Int) 0) 64).toNat = n by omega] at hr
  have GE_D : Aside0 (w.heap.size ≤ w1.heap.size) := ⟨HB1.out.size⟩
  have HB2 := Aside0.mk (below_step HB1.out hB)
  have D_2 := Aside0.mk hr
  clear hr hB HB1
  generalize w1.heap.size = gx at *
  go_wp2_with fail
  refine (dirt_new (n : Int) _).mono ?_
  rintro e w3 ⟨rfl, hr, hB⟩
  rw [show (min (max (n : Int) 0) 64).toNat = n by omega] at hr
  have G_D_E : Aside0 (gx ≠ w2.heap.size) := ⟨by have := D_2.out.lt; omega⟩
  have GE_E : Aside0 (w.heap.size ≤ w2.heap.size) := ⟨HB2.out.size⟩
  have D_3 := Aside0.mk (D_2.out.keep hB)
  clear D_2
  have HB3 := Aside0.mk (below_step HB2.out hB)
  have E_3 := Aside0.mk hr
  clear hr hB HB2
  generalize w2.heap.size = gy at *
  go_wp2_with fail
  go_loopg [9] a.length (fun kq v wq => ∃ i : Nat, i + kq = a.length ∧ v = .int .i64 (i : Int) ∧ Aside0 (Below w.heap.size w wq) ∧ Aside0 (DirtAt wq gx n (orAll n (a.take i) 0)) ∧ Aside0 (DirtAt wq gy n (0)))
  case atStart => exact ⟨0, by omega, rfl, HB3, D_3, E_3⟩
  case round =>
    clear HB3 D_3 E_3
    obtain ⟨i, hi, rfl, HB, HX, HY⟩ := hrel
    by_cases hlt : i < a.length
    · have hlt' : (i : Int) < (a.length : Int) := by omega
      obtain ⟨ad, e1, x0, x1⟩ := at_T31 (Kd.C_below CA.out HB.out) (i : Int) (by omega) (by omega)
      subst e1
      rw [Int.toNat_natCast] at x0 x1
      have hone := Aside0.mk (orAll_snoc n a 0 i hlt)
      have hyl := Aside0.mk (orAll_lt n (a.take i) 0 (by decide))
      generalize rd_T31 a (i : Int) = X at *
      generalize orAll n (a.take i) 0 = y at *
      obtain ⟨F, M⟩ := X
      simp only at x0 x1
      obtain ⟨kk, rfl⟩ : ∃ z, gk = z + 1 := ⟨gk - 1, by omega⟩
      go_wp2_with fail
      refine (dirt_mark gx n y F M h2 hyl.out _ HX.out).mono ?_
      rintro e w9 ⟨rfl, hd, ho⟩
      have HB9 := Aside0.mk (below_only HB.out ho GE_D.out)
      have HX9 := Aside0.mk hd
      have HY9 := Aside0.mk (HY.out.only ho (Ne.symm G_D_E.out))
      clear hd ho
      generalize ((cnt (minus (markV n F M) y) : Nat) : Int) = zz at *
      go_wp2_with fail
      go_roundg kk
      case measure => omega
      case rel => exact ⟨i + 1, by omega, by go_num, HB9, by rw [hone.out]; exact HX9, HY9⟩
    · have hlt' : ¬ (i : Int) < (a.length : Int) := by omega
      obtain rfl : i = a.length := by omega
      rw [List.take_length] at HX
      have HBa := HB
      have Da := HX
      have Ea := HY
      clear HB HX HY hlt hi
      go_wp2_with fail
      go_loopg [10] b.length (fun kq v wq => ∃ i : Nat, i + kq = b.length ∧ v = .int .i64 (i : Int) ∧ Aside0 (Below w.heap.size w wq) ∧ Aside0 (DirtAt wq gy n (orAll n (b.take i) 0)) ∧ Aside0 (DirtAt wq gx n (orAll n a 0)))
      case atStart => exact ⟨0, by omega, rfl, HBa, Ea, Da⟩
      case round =>
        clear HBa Ea Da
        obtain ⟨i, hi, rfl, HB, HX, HY⟩ := hrel
        by_cases hlt : i < b.length
        · have hlt' : (i : Int) < (b.length : Int) := by omega
          obtain ⟨ad, e1, x0, x1⟩ := at_T31 (Kd.C_below CB.out HB.out) (i : Int) (by omega) (by omega)
          subst e1
          rw [Int.toNat_natCast] at x0 x1
          have hone := Aside0.mk (orAll_snoc n b 0 i hlt)
          have hyl := Aside0.mk (orAll_lt n (b.take i) 0 (by decide))
          generalize rd_T31 b (i : Int) = X at *
          generalize orAll n (b.take i) 0 = y at *
          obtain ⟨F, M⟩ := X
          simp only at x0 x1
          obtain ⟨kk, rfl⟩ : ∃ z, gk = z + 1 := ⟨gk - 1, by omega⟩
          go_wp2_with fail
          refine (dirt_mark gy n y F M h2 hyl.out _ HX.out).mono ?_
          rintro e w9 ⟨rfl, hd, ho⟩
          have HB9 := Aside0.mk (below_only HB.out ho GE_E.out)
          have HX9 := Aside0.mk hd
          have HY9 := Aside0.mk (HY.out.only ho G_D_E.out)
          clear hd ho
          generalize ((cnt (minus (markV n F M) y) : Nat) : Int) = zz at *
          go_wp2_with fail
          go_roundg kk
          case measure => omega
          case rel => exact ⟨i + 1, by omega, by go_num, HB9, by rw [hone.out]; exact HX9, HY9⟩
        · have hlt' : ¬ (i : Int) < (b.length : Int) := by omega
          obtain rfl : i = b.length := by omega
          rw [List.take_length] at HX
          have HBb := HB
          have Eb := HX
          have Db := HY
          clear HB HX HY hlt hi
          have hX := orAll_small n a
          have hY := orAll_small n b
          have HXl := Aside0.mk (orAll_lt n a 0 (by decide))
          have HYl := Aside0.mk (orAll_lt n b 0 (by decide))
          generalize orAll n a 0 = X at *
          generalize orAll n b 0 = Y at *
          have hWX := Aside0.mk (word_back n X hX)
          have hFX := Aside0.mk (full n X h2 hX)
          have hSX := size_of n X
          have HSX := Aside0.mk hSX
          have HCMP : Aside0 ((strOfNums (bytesD n X) = strOfNums (bytesD n Y) ↔ X = Y) ∧ (spansOf (bitsS n X) = spansOf (bitsS n Y) ↔ X = Y)) := ⟨⟨fun h => by rw [← word_back n X hX, ← word_back n Y hY, h], fun h => by rw [h]⟩, ⟨runs_eq n X Y h2 hX hY, fun h => by rw [h]⟩⟩
          clear hX hY hSX
          generalize hsx : strOfNums (bytesD n X) = sx at *
          generalize hsy : strOfNums (bytesD n Y) = sy at *
          replace hsx := Aside0.mk hsx
          replace hsy := Aside0.mk hsy
          go_wp2_with fail
          refine (dirt_bytes gx n X h2 HXl.out _ Db.out).mono ?_
          rintro e w24 ⟨rfl, hB⟩
          rw [hsx.out]
          have D_24 := Aside0.mk (Db.out.keep hB)
          clear Db
          have E_24 := Aside0.mk (Eb.out.keep hB)
          clear Eb
          have HB24 := Aside0.mk (below_step HBb.out hB)
          clear hB HBb
          go_wp2_with fail
          refine (dirt_read_ok sx n h2 HSX.out _).mono ?_
          rintro e w40 ⟨hor, hB⟩
          rw [hWX.out] at hor
          have hor2 : e = .returned (.tuple #[ptr w24.heap.size, .int .i64 0]) ∧ DirtAt w40 w24.heap.size n X := by
            rcases hor with ⟨_, h⟩ | ⟨h0, _⟩
            · exact h
            · exact absurd hFX.out h0
          obtain ⟨rfl, hz⟩ := hor2
          have HB40 := Aside0.mk (below_step HB24.out hB)
          have D40 := Aside0.mk (D_24.out.keep hB)
          have E40 := Aside0.mk (E_24.out.keep hB)
          have Z40 := Aside0.mk hz
          clear hor hz hB HB24 D_24 E_24
          generalize w24.heap.size = gz at *
          generalize hLx : spansOf (bitsS n X) = Lx at *
          generalize hLy : spansOf (bitsS n Y) = Ly at *
          have TLx : Aside0 (Tidy 0 Lx) := ⟨hLx ▸ spansOf_tidy _⟩
          have TLy : Aside0 (Tidy 0 Ly) := ⟨hLy ▸ spansOf_tidy _⟩
          replace hLx := Aside0.mk hLx
          replace hLy := Aside0.mk hLy
          go_wp2_with fail
          refine (dirt_runs gz n X h2 HXl.out _ Z40.out).mono ?_
          rintro e w41 ⟨rfl, hr, hB⟩
          rw [hLx.out] at hr
          have D_41 := Aside0.mk (D40.out.keep hB)
          clear D40
          have E_41 := Aside0.mk (E40.out.keep hB)
          clear E40
          have Z_41 := Aside0.mk (Z40.out.keep hB)
          clear Z40
          have Q1_41 := Aside0.mk hr
          have HB41 := Aside0.mk (below_step HB40.out hB)
          clear hr hB HB40
          generalize w40.heap.size = q1 at *
          go_wp2_with fail
          refine (dirt_runs gx n X h2 HXl.out _ D_41.out).mono ?_
          rintro e w42 ⟨rfl, hr, hB⟩
          rw [hLx.out] at hr
          have D_42 := Aside0.mk (D_41.out.keep hB)
          clear D_41
          have E_42 := Aside0.mk (E_41.out.keep hB)
          clear E_41
          have Z_42 := Aside0.mk (Z_41.out.keep hB)
          clear Z_41
          have Q1_42 := Aside0.mk (Q1_41.out.keep hB)
          clear Q1_41
          have Q2_42 := Aside0.mk hr
          have HB42 := Aside0.mk (below_step HB41.out hB)
          clear hr hB HB41
          generalize w41.heap.size = q2 at *
          go_wp2_with fail
          refine (dirt_runs gy n Y h2 HYl.out _ E_42.out).mono ?_
          rintro e w43 ⟨rfl, hr, hB⟩
          rw [hLy.out] at hr
          have D_43 := Aside0.mk (D_42.out.keep hB)
          clear D_42
          have E_43 := Aside0.mk (E_42.out.keep hB)
          clear E_42
          have Z_43 := Aside0.mk (Z_42.out.keep hB)
          clear Z_42
          have Q1_43 := Aside0.mk (Q1_42.out.keep hB)
          clear Q1_42
          have Q2_43 := Aside0.mk (Q2_42.out.keep hB)
          clear Q2_42
          have Q3_43 := Aside0.mk hr
          have HB43 := Aside0.mk (below_step HB42.out hB)
          clear hr hB HB42
          generalize w42.heap.size = q3 at *
          clear Q1_43
          clear Q2_43
          clear Q3_43
          go_wp2_with fail
          refine (dirt_runs gz n X h2 HXl.out _ Z_43.out).mono ?_
          rintro e w44 ⟨rfl, hr, hB⟩
          rw [hLx.out] at hr
          have D_44 := Aside0.mk (D_43.out.keep hB)
          clear D_43
          have E_44 := Aside0.mk (E_43.out.keep hB)
          clear E_43
          have Z_44 := Aside0.mk (Z_43.out.keep hB)
          clear Z_43
          have Q4_44 := Aside0.mk hr
          have HB44 := Aside0.mk (below_step HB43.out hB)
          clear hr hB HB43
          generalize w43.heap.size = q4 at *
          go_wp2_with fail
          refine (dirt_runs gx n X h2 HXl.out _ D_44.out).mono ?_
          rintro e w45 ⟨rfl, hr, hB⟩
          rw [hLx.out] at hr
          have D_45 := Aside0.mk (D_44.out.keep hB)
          clear D_44
          have E_45 := Aside0.mk (E_44.out.keep hB)
          clear E_44
          have Z_45 := Aside0.mk (Z_44.out.keep hB)
          clear Z_44
          have Q4_45 := Aside0.mk (Q4_44.out.keep hB)
          clear Q4_44
          have Q5_45 := Aside0.mk hr
          have HB45 := Aside0.mk (below_step HB44.out hB)
          clear hr hB HB44
          generalize w44.heap.size = q5 at *
          go_wp2_with fail
          refine (runs_same q4 q4 q5 q5 Lx Lx _ TLx.out TLx.out Q4_45.out Q5_45.out).mono ?_
          rintro e w46 ⟨rfl, hB⟩
          rw [decide_eq_true rfl]
          have D_46 := Aside0.mk (D_45.out.keep hB)
          clear D_45
          have E_46 := Aside0.mk (E_45.out.keep hB)
          clear E_45
          have Z_46 := Aside0.mk (Z_45.out.keep hB)
          clear Z_45
          have Q4_46 := Aside0.mk (Q4_45.out.keep hB)
          clear Q4_45
          have Q5_46 := Aside0.mk (Q5_45.out.keep hB)
          clear Q5_45
          have HB46 := Aside0.mk (below_step HB45.out hB)
          clear hB HB45
          go_wp2_with fail
          refine (dirt_bytes gx n X h2 HXl.out _ D_46.out).mono ?_
          rintro e w47 ⟨rfl, hB⟩
          rw [hsx.out]
          have D_47 := Aside0.mk (D_46.out.keep hB)
          clear D_46
          have E_47 := Aside0.mk (E_46.out.keep hB)
          clear E_46
          have Z_47 := Aside0.mk (Z_46.out.keep hB)
          clear Z_46
          have Q4_47 := Aside0.mk (Q4_46.out.keep hB)
          clear Q4_46
          have Q5_47 := Aside0.mk (Q5_46.out.keep hB)
          clear Q5_46
          have HB47 := Aside0.mk (below_step HB46.out hB)
          clear hB HB46
          go_wp2_with fail
          refine (dirt_bytes gy n Y h2 HYl.out _ E_47.out).mono ?_
          rintro e w48 ⟨rfl, hB⟩
          rw [hsy.out]
          have D_48 := Aside0.mk (D_47.out.keep hB)
          clear D_47
          have E_48 := Aside0.mk (E_47.out.keep hB)
          clear E_47
          have Z_48 := Aside0.mk (Z_47.out.keep hB)
          clear Z_47
          have Q4_48 := Aside0.mk (Q4_47.out.keep hB)
          clear Q4_47
          have Q5_48 := Aside0.mk (Q5_47.out.keep hB)
          clear Q5_47
          have HB48 := Aside0.mk (below_step HB47.out hB)
          clear hB HB47
          go_wp2_with fail
          refine (dirt_runs gx n X h2 HXl.out _ D_48.out).mono ?_
          rintro e w49 ⟨rfl, hr, hB⟩
          rw [hLx.out] at hr
          have D_49 := Aside0.mk (D_48.out.keep hB)
          clear D_48
          have E_49 := Aside0.mk (E_48.out.keep hB)
          clear E_48
          have Z_49 := Aside0.mk (Z_48.out.keep hB)
          clear Z_48
          have Q4_49 := Aside0.mk (Q4_48.out.keep hB)
          clear Q4_48
          have Q5_49 := Aside0.mk (Q5_48.out.keep hB)
          clear Q5_48
          have Q6_49 := Aside0.mk hr
          have HB49 := Aside0.mk (below_step HB48.out hB)
          clear hr hB HB48
          generalize w48.heap.size = q6 at *
          go_wp2_with fail
          refine (dirt_runs gy n Y h2 HYl.out _ E_49.out).mono ?_
          rintro e w50 ⟨rfl, hr, hB⟩
          rw [hLy.out] at hr
          have D_50 := Aside0.mk (D_49.out.keep hB)
          clear D_49
          have E_50 := Aside0.mk (E_49.out.keep hB)
          clear E_49
          have Z_50 := Aside0.mk (Z_49.out.keep hB)
          clear Z_49
          have Q4_50 := Aside0.mk (Q4_49.out.keep hB)
          clear Q4_49
          have Q5_50 := Aside0.mk (Q5_49.out.keep hB)
          clear Q5_49
          have Q6_50 := Aside0.mk (Q6_49.out.keep hB)
          clear Q6_49
          have Q7_50 := Aside0.mk hr
          have HB50 := Aside0.mk (below_step HB49.out hB)
          clear hr hB HB49
          generalize w49.heap.size = q7 at *
          go_wp2_with fail
          refine (runs_same q6 q6 q7 q7 Lx Ly _ TLx.out TLy.out Q6_50.out Q7_50.out).mono ?_
          rintro e w51 ⟨rfl, hB⟩
          generalize hdd : decide (Lx = Ly) = dd
          replace hdd := Aside0.mk hdd
          have D_51 := Aside0.mk (D_50.out.keep hB)
          clear D_50
          have E_51 := Aside0.mk (E_50.out.keep hB)
          clear E_50
          have Z_51 := Aside0.mk (Z_50.out.keep hB)
          clear Z_50
          have Q4_51 := Aside0.mk (Q4_50.out.keep hB)
          clear Q4_50
          have Q5_51 := Aside0.mk (Q5_50.out.keep hB)
          clear Q5_50
          have Q6_51 := Aside0.mk (Q6_50.out.keep hB)
          clear Q6_50
          have Q7_51 := Aside0.mk (Q7_50.out.keep hB)
          clear Q7_50
          have HB51 := Aside0.mk (below_step HB50.out hB)
          clear hB HB50
          by_cases hxy : X = Y
          · have e1 : sx = sy := HCMP.out.1.2 hxy
            have e2 : dd = true := by rw [← hdd.out]; exact decide_eq_true (HCMP.out.2.2 hxy)
            clear hxy
            subst e1 e2
            go_wp2_with fail
            go_ret
            exact ⟨by simp, HB51.out⟩
          · have e1 : ¬ sx = sy := fun h => hxy (HCMP.out.1.1 h)
            have e2 : dd = false := by rw [← hdd.out]; exact decide_eq_false (fun h => hxy (HCMP.out.2.1 h))
            have e3 : ¬ sx.toList = sy.toList := fun h => e1 (by rw [ByteArray.toList_eq, ByteArray.toList_eq] at h; have := Array.toList_inj.1 h; cases sx; cases sy; simp_all)
            clear hxy
            subst e2
            go_wp2_with fail
            go_ret
            exact ⟨by simp [e3], HB51.out⟩
theorem walk (b : Int) (A : Option Addr) (c : Nat) (l : List S31) (B : Option Addr) (d : Nat) (m : List S31) (w : World) (_ : (Lit.int .i64 b).wf = true) (hc : l.length ≤ c) (hA : Kd.C k31 w A l.length l) (hd : m.length ≤ d) (hB : Kd.C k31 w B m.length m) :
    Calls Try.prog 7 #[.int .i64 b, .slice A l.length c, .slice B m.length d] w fun e w' => e = .returned (.bool true) ∧ Below w.heap.size w w' := by
  by_cases h : b < 0 ∨ (¬ b < 0 ∧ 64 < b) ∨ (¬ b < 0 ∧ ¬ 64 < b ∧ 20 < (l.length : Int)) ∨ (¬ b < 0 ∧ ¬ 64 < b ∧ ¬ 20 < (l.length : Int) ∧ 20 < (m.length : Int))
  · exact early b A c l B d m w h
  · obtain ⟨n, rfl⟩ := Int.eq_ofNat_of_zero_le (show 0 ≤ b by omega)
    exact main n A c l B d m w (by omega) (by omega) (by omega) hA hB
end Go.Proofs.Ytffemlfdhkndiaa.WDirtBack
