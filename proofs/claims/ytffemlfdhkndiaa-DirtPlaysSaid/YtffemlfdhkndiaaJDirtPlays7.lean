/- Parts of the proof for DirtPlays: WaDirtPlays. -/
import Derived.Deep.WholeRow
import Derived.Deep.DeepCutAuto
import Derived.Deep.CutBlock
import Derived.Test.YtffemlfdhkndiaaJDirtPlays5
import Derived.Test.YtffemlfdhkndiaaJDirtPlays4
import Derived.Test.YtffemlfdhkndiaaJDirtPlays6
import Derived.Test.YtffemlfdhkndiaaJDirtPlays2
section
namespace Go.Proofs.Ytffemlfdhkndiaa.WDirtPlays
open Go.RowKit Go.Proofs.YtffemlfdhkndiaaW.PrintWords Go.Proofs.YtffemlfdhkndiaaW.PrintLast Go.Proofs.YtffemlfdhkndiaaW.PrintMore Go.Proofs.Ytffemlfdhkndiaa.A Go.Proofs.Ytffemlfdhkndiaa.Hand Go.Proofs.Ytffemlfdhkndiaa.Open Go.Proofs.Ytffemlfdhkndiaa.Bits
set_option linter.unusedVariables false
set_option linter.unusedSimpArgs false
attribute [local go_sem] max2_int min2_int max_two min_two max_three min_three max_four min_four
abbrev SP := S31
theorem bits_none (n : Nat) : bitsS n 0 = none64 := by
  refine bools_ext (bitsS_length _ _) (by simp) (fun k hk => ?_)
  rw [bitsS_get n 0 k hk, none64_get, Nat.zero_testBit, Bool.and_false]
abbrev spanS (a m : Int) : List Bool := putS none64 [⟨a, m⟩] true
theorem spanS_len (a m : Int) : (spanS a m).length = 64 := putS_len _ _ _ (by simp)
theorem spanS_get (a m : Int) (k : Nat) : (spanS a m).getD k false = decide (wh a m ∧ a ≤ (k : Int) ∧ (k : Int) < a + m) := by
  show (putOne none64 ⟨a, m⟩ true).getD k false = _
  rw [putOne_get _ _ _ _ (by simp), none64_get]
  by_cases h : wh a m ∧ a ≤ (k : Int) ∧ (k : Int) < a + m
  · rw [if_pos h, decide_eq_true h]
  · rw [if_neg h, decide_eq_false h]
theorem C_lit1 (W : World) (n : Nat) (hn : W.heap.size = n) (a m : Int) : Kd.C k31 (W.alloc (.cells #[.int .i64 a, .int .i64 m] 31)) (some ⟨n, 0, none⟩) 1 [⟨a, m⟩] := by
  subst hn
  exact C_lit W [⟨a, m⟩] (by simp) _ rfl
theorem put_one (s : List Bool) (hs : Aside0 (s.length = 64)) (ad : Addr) (c : Nat) (F M : Int) (w : World) (hC : Kd.C k31 w (some ad) 1 [⟨F, M⟩]) (hc : 1 ≤ c) :
    Calls Try.prog 15 #[.agg (setArr s), .slice (some ad) 1 c, .bool true] w fun e w' => e = .returned (.agg (setArr (putS s [⟨F, M⟩] true))) ∧ Below w.heap.size w w' :=
  emulsionref1_Set_Put.calls s hs (some ad) c [⟨F, M⟩] true w hC hc
/-- What a set of marks comes to, block by block, below a place. -/
theorem upS_bits {n n' x v : Nat} {s : List Bool} (hn : n ≤ 64) (hn' : n' ≤ n) (hv : ∀ k, k < 64 → v.testBit k = (decide (k < n') && s.getD k false)) : upS (fun j => (bitsS n x).getD j false || s.getD j false) (bitsS n x) n' = bitsS n (x ||| v) := by
  refine bools_ext (upS_length _ _ _) (bitsS_length _ _) (fun k hk => ?_)
  rw [upS_get _ _ _ _ hk, bitsS_get n (x ||| v) k hk, bitsS_get n x k hk, Nat.testBit_or, hv k hk]
  by_cases h : k < n'
  · rw [if_pos h, decide_eq_true h, decide_eq_true (show k < n by omega)]; simp
  · rw [if_neg h, decide_eq_false h]; simp
theorem mark_get (n : Nat) (F M : Int) (k : Nat) (hk : k < 64) : (markV n F M).testBit k = (decide (k < n) && (spanS F M).getD k false) := by
  rw [markV_test, spanS_get, Bool.and_comm]
theorem mark2_get (n n2 : Nat) (F M : Int) (k : Nat) (hk : k < 64) : ((0 ||| markV n2 F M) &&& ones 0 n).testBit k = (decide (k < min n n2) && (spanS F M).getD k false) := by
  rw [Nat.testBit_and, Nat.testBit_or, Nat.zero_testBit, Bool.false_or, mark_get n2 F M k hk, ones_test, Nat.zero_add, decide_eq_true (Nat.zero_le k), Bool.true_and]
  have e : decide (k < min n n2) = (decide (k < n) && decide (k < n2)) := by rw [Bool.eq_iff_iff]; simp [Nat.lt_min]
  rw [e]
  by_cases h1 : k < n <;> by_cases h2 : k < n2 <;> simp [h1, h2]
theorem R_len' {w : World} {B c : Nat} {A : Option Addr} {T : List SP} (h : Kd.R k31 31 w B (fun _ => True) (.slice A T.length c) T) : T.length ≤ c := (Kd.R_reads' h).2.1
theorem same_C (A : Option Addr) (c : Nat) (B : Option Addr) (d : Nat) (T : List SP) (hc : T.length ≤ c) (hd : T.length ≤ d) (hT : T.length ≤ 1000000) (w : World) (hA : Kd.C k31 w A T.length T) (hB : Kd.C k31 w B T.length T) :
    Calls Try.prog 28 #[.slice A T.length c, .slice B T.length d] w fun e w' => e = .returned (.bool true) ∧ Below w.heap.size w w' := by
  refine (emulsionbook_SameSpans.calls (T.length + 1) A c T B d T true w hA hc hB hd (sameSpans_f T (by omega) _ (by omega))).mono ?_
  rintro e w' ⟨rfl, hd⟩
  exact ⟨rfl, drawnB hd⟩
theorem cnt_new (x v : Nat) : ((cnt (minus v x) : Nat) : Int) = ((cnt (x ||| v) : Nat) : Int) - ((cnt x : Nat) : Int) := by rw [cnt_or]; omega
set_option maxRecDepth 100000 in
theorem early (bl ask : Int) (A : Option Addr) (c : Nat) (l : List Op3) (w : World) (h : 60 < (l.length : Int)) :
    Calls Try.prog 6 #[.int .i64 bl, .slice A l.length c, .int .i64 ask] w fun e w' => e = .returned (.bool true) ∧ Below w.heap.size w w' := by
  go_enter Try.func6, Try.ntmps6
  go_wp2_with fail
  refine (alive3.calls true _ rfl).mono ?_
  rintro e w1 ⟨rfl, hB⟩
  go_wp2_with fail
  go_ret
  exact ⟨rfl, hB⟩
set_option maxRecDepth 100000 in
set_option maxHeartbeats 8000000 in
theorem main (bl ask : Int) (n : Nat) (A : Option Addr) (c : Nat) (l : List Op3) (w : World) (hn : n = (min (max bl 0) 64).toNat) (hl : l.length ≤ 60) (hA : Ops3C w A l) :
    Calls Try.prog 6 #[.int .i64 bl, .slice A l.length c, .int .i64 ask] w fun e w' => e = .returned (.bool true) ∧ Below w.heap.size w w' := by
  have HB := Aside0.mk (Below.refl w.heap.size w)
  have CA := Aside0.mk hA
  have Hl := Aside0.mk hl
  have i1 : (l.length : Int) ≤ 60 := by omega
  have n1 : ¬ (60 : Int) < (l.length : Int) := by omega
  have Hn := Aside0.mk hn
  have Hn64 : Aside0 (n ≤ 64) := ⟨by omega⟩
  clear hA hl hn
  go_enter Try.func6, Try.ntmps6
  go_wp2_with fail
  refine (alive3.calls true _ rfl).mono ?_
  rintro e w1 ⟨rfl, hB⟩
  replace HB := Aside0.mk (below_step HB.out hB)
  clear hB
  go_wp2_with fail
  refine (dirt_new bl _).mono ?_
  rintro e w2 ⟨rfl, hr, hB⟩
  rw [← Hn.out] at hr
  have GE_D : Aside0 (w.heap.size ≤ w1.heap.size) := ⟨by have := HB.out.size; omega⟩
  replace HB := Aside0.mk (below_step HB.out hB)
  clear hB
  have D := Aside0.mk hr
  clear hr
  generalize w1.heap.size = gd at *
  go_upto_region 6 with fail
  go_cut [0] (fun v0 wc => v0 = .int .i64 (n : Int) ∧ Aside0 (Below w.heap.size w wc) ∧ Aside0 (DirtAt wc gd n 0))
  case first =>
    have hn := Hn.out
    rcases Int.lt_or_le bl 0 with hb | hb
    · obtain rfl : n = 0 := by omega
      have hb2 : ¬ (64 : Int) < 0 := by omega
      go_wp2_with fail
      go_meet
      case rel => exact ⟨rfl, HB, D⟩
    · rcases Int.lt_or_le 64 bl with hb2 | hb2
      · obtain rfl : n = 64 := by omega
        clear hn
        go_wp2_with fail
        go_meet
        case rel => exact ⟨rfl, HB, D⟩
      · obtain rfl : bl = (n : Int) := by omega
        clear hn
        go_wp2_with fail
        go_meet
        case rel => exact ⟨rfl, HB, D⟩
  case rest =>
    clear HB D
    obtain ⟨rfl, HB, D⟩ := hcut
    have GEX : Aside0 (w.heap.size ≤ wc.heap.size) := ⟨HB.out.size⟩
    go_wp2_with (with_reducible refine wpList_store_row rfl 27 (.tmp 8) (.tmp 37) rfl (wc.heap.size) (setArr none64) rfl rfl 27 _ (heap_alloc_new _ _) (by with_unfolding_all rfl) (by with_unfolding_all rfl) (setArr_one _) ?_)
    try rw [World.setRow_alloc_new]
    refine code_abs (fun WQ => Below w.heap.size w WQ ∧ DirtAt WQ gd n 0 ∧ Blk WQ wc.heap.size 27 (setArr (bitsS n 0)) ∧ KeptAt WQ w.heap.size (wc.heap.size + 1) (fun k => WQ.heap.size ≤ k) [] [] []) ⟨below_step HB.out (below_alloc (below_alloc (Below.refl _ _) _) _), D.out.keep (below_alloc (below_alloc (Below.refl _ _) _) _), (by rw [bits_none]; exact (Blk.new _ _ _).alloc _), KeptAt.new' _ _ _ (by simp) (by simp; have := GEX.out; omega)⟩ ?_
    rintro w3 ⟨h_HB, h_D, h_SX, h_HK⟩
    replace HB := Aside0.mk h_HB
    replace D := Aside0.mk h_D
    have SX := Aside0.mk h_SX
    have HK := Aside0.mk h_HK
    clear h_HB h_D h_SX h_HK
    generalize wc.heap.size = gx at *
    obtain ⟨gB, hgB⟩ : ∃ g, g = gx + 1 := ⟨_, rfl⟩
    rw [← hgB] at HK ⊢
    clear hgB
    have GE_SX := GEX
    go_loopg [10] l.length (fun kq v wz => ∃ (i x : Nat) (LS : List (List SP)), i + kq = l.length ∧ v = .int .i64 (i : Int) ∧ Aside0 (x < 18446744073709551616) ∧ Aside0 (Hi n x) ∧ Aside0 (LS.length = i ∧ ∀ y ∈ LS, y.length ≤ 65) ∧ Aside0 (Below w.heap.size w wz) ∧ Aside0 (DirtAt wz gd n x) ∧ Aside0 (Blk wz gx 27 (setArr (bitsS n x))) ∧ Aside0 (KeptAt wz w.heap.size gB (fun k => wz.heap.size ≤ k) [] LS []))
    case atStart => exact ⟨0, 0, [], by omega, rfl, ⟨by decide⟩, ⟨Hi.zero n⟩, ⟨rfl, fun y hy => by cases hy⟩, HB, D, SX, HK⟩
    case round =>
      clear HB D SX HK
      obtain ⟨i, x, LS, hi, rfl, Hx, Hh, HLS, HB, D, SX, HK⟩ := hrel
      by_cases hlt : i < l.length
      · have hlt' : (i : Int) < (l.length : Int) := by omega
        obtain ⟨kk, rfl⟩ : ∃ z, gk = z + 1 := ⟨gk - 1, by omega⟩
        obtain ⟨ad, e1, x0, x1, x2, x3⟩ := (CA.out.keep HB.out).at i hlt
        subst e1
        generalize l[i] = O at *
        obtain ⟨ki, N, F, M⟩ := O
        simp only at x0 x1 x2 x3
        have Hcx : Aside0 (cntS (bitsS n x) 64 = cnt x) := ⟨cnt_bits Hn64.out Hh.out⟩
        have HXl : Aside0 ((bitsS n x).length = 64) := ⟨bitsS_length n x⟩
        go_upto_region 13 with fail
        clear x0 x1 x2 x3
        refine code_abs (fun WQ => Below w.heap.size w WQ ∧ DirtAt WQ gd n x ∧ Blk WQ gx 27 (setArr (bitsS n x)) ∧ KeptAt WQ w.heap.size gB (fun k => WQ.heap.size ≤ k) [] LS [] ∧ Blk WQ wr.heap.size 54 #[.int .i64 ki, .int .i64 N, .int .i64 F, .int .i64 M]) ⟨below_step HB.out (by repeat (first | exact Below.refl _ _ | apply below_alloc | refine Below.setCell ?_ (Nat.le_refl _) _ | refine Below.setCell ?_ (by simp) _)), D.out.keep (by repeat (first | exact Below.refl _ _ | apply below_alloc | refine Below.setCell ?_ (Nat.le_refl _) _ | refine Below.setCell ?_ (by simp) _)), SX.out.keep (by repeat (first | exact Below.refl _ _ | apply below_alloc | refine Below.setCell ?_ (Nat.le_refl _) _ | refine Below.setCell ?_ (by simp) _)), (HK.out.keep (by repeat (first | exact Below.refl _ _ | apply below_alloc | refine Below.setCell ?_ (Nat.le_refl _) _ | refine Below.setCell ?_ (by simp) _))).top, Blk.new _ _ _⟩ ?_
        rintro w4 ⟨h_HB, h_D, h_SX, h_HK, h_OP⟩
        replace HB := Aside0.mk h_HB
        replace D := Aside0.mk h_D
        replace SX := Aside0.mk h_SX
        replace HK := Aside0.mk h_HK
        have OP := Aside0.mk h_OP
        clear h_HB h_D h_SX h_HK h_OP
        generalize wr.heap.size = go at *
        have hc64 : ((cnt x : Nat) : Int) ≤ 64 := by have := cnt_le x; omega
        obtain ⟨cx, hcx⟩ : ∃ q, q = cnt x := ⟨_, rfl⟩
        rw [← hcx] at hc64 Hcx
        replace hcx := Aside0.mk hcx
        go_wp2_with (with_reducible refine wpList_load_row rfl 27 (.tmp 8) rfl gx rfl 27 _ (0, 0) _ SX.out.hd Try.underlying27 rfl (by rw [setArr_size, HXl.out] <;> exact info27) ?_)
        refine (set_cnt (bitsS n x) cx HXl.out Hcx.out _).mono ?_
        rintro e w5 ⟨rfl, hB⟩
        replace HB := Aside0.mk (below_step HB.out hB)
        replace D := Aside0.mk (D.out.keep hB)
        replace SX := Aside0.mk (SX.out.keep hB)
        replace HK := Aside0.mk ((HK.out.keep hB).top)
        replace OP := Aside0.mk (OP.out.keep hB)
        clear hB
        have o0 := OP.out.cell (i := 0) (v := .int .i64 ki) rfl
        have o1 := OP.out.cell (i := 1) (v := .int .i64 N) rfl
        have o2 := OP.out.cell (i := 2) (v := .int .i64 F) rfl
        have o3 := OP.out.cell (i := 3) (v := .int .i64 M) rfl
        go_upto_block 2 with fail
        clear o0 o1 o2 o3
        go_cut [12, 13] (fun v12 v13 wc => ∃ x' cw : Nat, v12 = .int .i64 (cw : Int) ∧ v13 = .int .i64 (((cnt x' : Nat) : Int) - (cw : Int)) ∧ Aside0 (x' < 18446744073709551616) ∧ Aside0 (Hi n x') ∧ Aside0 (cw ≤ 64) ∧ Aside0 (Below w.heap.size w wc) ∧ Aside0 (DirtAt wc gd n x') ∧ Aside0 (Blk wc gx 27 (setArr (bitsS n x'))) ∧ Aside0 (KeptAt wc w.heap.size gB (fun k => wc.heap.size ≤ k) [] LS []))
        case first =>
          rcases Decidable.em (ki = 1) with rfl | hk1
          · as_aux_lemma =>
            have o0 := OP.out.cell (i := 0) (v := .int .i64 1) rfl
            have o1 := OP.out.cell (i := 1) (v := .int .i64 N) rfl
            have o2 := OP.out.cell (i := 2) (v := .int .i64 F) rfl
            have o3 := OP.out.cell (i := 3) (v := .int .i64 M) rfl
            go_wp2_with fail
            clear o0 o1 o2 o3
            refine calls_abs (fun WQ => Below w.heap.size w WQ ∧ DirtAt WQ gd n x ∧ Blk WQ gx 27 (setArr (bitsS n x)) ∧ KeptAt WQ w.heap.size gB (fun k => WQ.heap.size ≤ k) [] LS [] ∧ Blk WQ go 54 #[.int .i64 1, .int .i64 N, .int .i64 F, .int .i64 M] ∧ Kd.C k31 WQ (some ⟨w5.heap.size, 0, none⟩) 1 [⟨F, M⟩]) ⟨below_step HB.out (by repeat (first | exact Below.refl _ _ | apply below_alloc | refine Below.setCell ?_ (Nat.le_refl _) _ | refine Below.setCell ?_ (by simp) _)), D.out.keep (by repeat (first | exact Below.refl _ _ | apply below_alloc | refine Below.setCell ?_ (Nat.le_refl _) _ | refine Below.setCell ?_ (by simp) _)), SX.out.keep (by repeat (first | exact Below.refl _ _ | apply below_alloc | refine Below.setCell ?_ (Nat.le_refl _) _ | refine Below.setCell ?_ (by simp) _)), (HK.out.keep (by repeat (first | exact Below.refl _ _ | apply below_alloc | refine Below.setCell ?_ (Nat.le_refl _) _ | refine Below.setCell ?_ (by simp) _))).top, OP.out.keep (by repeat (first | exact Below.refl _ _ | apply below_alloc | refine Below.setCell ?_ (Nat.le_refl _) _ | refine Below.setCell ?_ (by simp) _)), C_lit1 _ _ rfl F M⟩ ?_
            rintro w6 ⟨h_HB, h_D, h_SX, h_HK, h_OP, h_C1⟩
            replace HB := Aside0.mk h_HB
            replace D := Aside0.mk h_D
            replace SX := Aside0.mk h_SX
            replace HK := Aside0.mk h_HK
            replace OP := Aside0.mk h_OP
            have C1 := Aside0.mk h_C1
            clear h_HB h_D h_SX h_HK h_OP h_C1
            refine (put_one none64 ⟨by simp⟩ ⟨w5.heap.size, 0, none⟩ 1 F M _ C1.out (by decide)).mono ?_
            rintro e w7 ⟨rfl, hB⟩
            replace HB := Aside0.mk (below_step HB.out hB)
            replace D := Aside0.mk (D.out.keep hB)
            replace SX := Aside0.mk (SX.out.keep hB)
            replace HK := Aside0.mk ((HK.out.keep hB).top)
            replace OP := Aside0.mk (OP.out.keep hB)
            clear hB
            clear C1
            have HSl : Aside0 ((spanS F M).length = 64) := ⟨spanS_len F M⟩
            go_upto_region 21 with (with_reducible refine wpList_store_row rfl 27 (.tmp 14) (.tmp 64) rfl (w7.heap.size) (setArr (spanS F M)) rfl rfl 27 _ (heap_alloc_new _ _) (by rw [setArr_size, HSl.out] <;> exact info27) (by rw [setArr_size, HSl.out] <;> with_unfolding_all rfl) (setArr_one _) ?_)
            rw [World.setRow_alloc_new]
            have HSX : Aside0 (gx < w7.heap.size) := ⟨SX.out.lt⟩
            refine code_abs (fun WQ => Below w.heap.size w WQ ∧ DirtAt WQ gd n x ∧ Blk WQ gx 27 (setArr (bitsS n x)) ∧ KeptAt WQ w.heap.size gB (fun k => WQ.heap.size ≤ k) [] LS [] ∧ Blk WQ go 54 #[.int .i64 1, .int .i64 N, .int .i64 F, .int .i64 M] ∧ Blk WQ w7.heap.size 27 (setArr (spanS F M))) ⟨below_step HB.out (by repeat (first | exact Below.refl _ _ | apply below_alloc | refine Below.setCell ?_ (Nat.le_refl _) _ | refine Below.setCell ?_ (by simp) _)), D.out.keep (by repeat (first | exact Below.refl _ _ | apply below_alloc | refine Below.setCell ?_ (Nat.le_refl _) _ | refine Below.setCell ?_ (by simp) _)), SX.out.keep (by repeat (first | exact Below.refl _ _ | apply below_alloc | refine Below.setCell ?_ (Nat.le_refl _) _ | refine Below.setCell ?_ (by simp) _)), (HK.out.keep (by repeat (first | exact Below.refl _ _ | apply below_alloc | refine Below.setCell ?_ (Nat.le_refl _) _ | refine Below.setCell ?_ (by simp) _))).top, OP.out.keep (by repeat (first | exact Below.refl _ _ | apply below_alloc | refine Below.setCell ?_ (Nat.le_refl _) _ | refine Below.setCell ?_ (by simp) _)), Blk.new _ _ _⟩ ?_
            rintro w8 ⟨h_HB, h_D, h_SX, h_HK, h_OP, h_SS⟩
            replace HB := Aside0.mk h_HB
            replace D := Aside0.mk h_D
            replace SX := Aside0.mk h_SX
            replace HK := Aside0.mk h_HK
            replace OP := Aside0.mk h_OP
            have SS := Aside0.mk h_SS
            clear h_HB h_D h_SX h_HK h_OP h_SS
            generalize w7.heap.size = gs at *
            have o0 := OP.out.cell (i := 0) (v := .int .i64 1) rfl
            have o1 := OP.out.cell (i := 1) (v := .int .i64 N) rfl
            have o2 := OP.out.cell (i := 2) (v := .int .i64 F) rfl
            have o3 := OP.out.cell (i := 3) (v := .int .i64 M) rfl
            go_wp2_with fail
            refine (dirt_mark gd n x F M Hn64.out Hx.out _ D.out).mono ?_
            rintro e w9 ⟨rfl, hr, ho⟩
            clear o0 o1 o2 o3
            replace HB := Aside0.mk (below_only HB.out ho GE_D.out)
            replace SX := Aside0.mk (SX.out.onlyT ho D.out (by decide))
            replace HK := Aside0.mk ((HK.out.only ho D.out (by decide)).top)
            replace OP := Aside0.mk (OP.out.onlyT ho D.out (by decide))
            replace SS := Aside0.mk (SS.out.onlyT ho D.out (by decide))
            clear ho
            replace D := Aside0.mk hr
            clear hr
            have Hvt : Aside0 (∀ k, k < 64 → (markV n F M).testBit k = (decide (k < n) && (spanS F M).getD k false)) := ⟨fun k hk => mark_get n F M k hk⟩
            have Hx2 : Aside0 (x ||| markV n F M < 18446744073709551616) := ⟨or_lt Hx.out (markV_lt n F M)⟩
            have Hh2 : Aside0 (Hi n (x ||| markV n F M)) := ⟨Hh.out.or (Hi.mark n F M)⟩
            have Hnp : Aside0 (n ≤ n) := ⟨Nat.le_refl _⟩
            have Hcn : Aside0 (((cnt (minus (markV n F M) x) : Nat) : Int) = ((cnt (x ||| (markV n F M)) : Nat) : Int) - (cx : Int)) := ⟨by rw [hcx.out]; exact cnt_new x _⟩
            rw [Hcn.out]
            have Hfin := Aside0.mk (upS_bits (x := x) Hn64.out Hnp.out Hvt.out)
            have hnp64 : (n : Int) ≤ 64 := by have := Hnp.out; have := Hn64.out; omega
            generalize x ||| (markV n F M) = xn at *
            obtain ⟨gt, hgt⟩ : ∃ q : Int, q = ((cnt xn : Nat) : Int) - (cx : Int) := ⟨_, rfl⟩
            rw [← hgt]
            have Hgt := Aside0.mk hgt
            clear hgt Hcn
            clear OP
            replace SX : Aside0 (Blk w9 gx 27 (setArr (upS (fun j => (bitsS n x).getD j false || (spanS F M).getD j false) (bitsS n x) 0))) := ⟨by rw [upS_zero _ _ HXl.out]; exact SX.out⟩
            go_wp2_with fail
            go_loopg [17] n (fun kq v wz => ∃ k : Nat, k + kq = n ∧ v = .int .i64 (k : Int) ∧ Aside0 (Below w.heap.size w wz) ∧ Aside0 (DirtAt wz gd n xn) ∧ Aside0 (Blk wz gx 27 (setArr (upS (fun j => (bitsS n x).getD j false || (spanS F M).getD j false) (bitsS n x) k))) ∧ Aside0 (KeptAt wz w.heap.size gB (fun k => wz.heap.size ≤ k) [] LS []) ∧ Aside0 (Blk wz gs 27 (setArr (spanS F M))))
            case atStart => exact ⟨0, by omega, rfl, HB, D, SX, HK, SS⟩
            case round =>
              clear HB D SX HK SS
              obtain ⟨k, hk, rfl, HB, D, SX, HK, SS⟩ := hrel
              have Hk := Aside0.mk hk
              clear hk
              by_cases hlk : k < n
              · have hlk' : (k : Int) < (n : Int) := by omega
                have hk64 : k < 64 := by omega
                have hk64' : (k : Int) < 64 := by omega
                obtain ⟨kz, rfl⟩ : ∃ z, gk = z + 1 := ⟨gk - 1, by have := Hk.out; omega⟩
                have hst := Aside0.mk (upS_step (fun j => (bitsS n x).getD j false || (spanS F M).getD j false) (bitsS n x) k hk64)
                have s0 := SX.out.cell (setArr_get _ k (by rw [upS_length]; omega))
                rw [upS_get _ _ _ _ hk64, if_neg (Nat.lt_irrefl k)] at s0
                have sf := SX.out.frozen k
                have s1 := SS.out.cell (setArr_get (spanS F M) k (by rw [HSl.out]; omega))
                obtain ⟨pb, hpb⟩ : ∃ b, b = (bitsS n x).getD k false := ⟨_, rfl⟩
                obtain ⟨qb, hqb⟩ : ∃ b, b = (spanS F M).getD k false := ⟨_, rfl⟩
                have hstb : Aside0 ((upS (fun j => (bitsS n x).getD j false || (spanS F M).getD j false) (bitsS n x) k).set k (pb || qb) = upS (fun j => (bitsS n x).getD j false || (spanS F M).getD j false) (bitsS n x) (k + 1)) := ⟨by rw [hpb, hqb]; exact hst.out⟩
                rw [← hpb] at s0
                rw [← hqb] at s1
                clear hpb hqb hst
                cases pb with
                | true =>
                  go_wp2_with fail
                  have Z1 := SX.out.set_ k (.bool true)
                  rw [setArr_set] at Z1
                  have h1 := hstb.out
                  simp only [Bool.true_or, Bool.false_or] at h1
                  rw [h1] at Z1
                  have ho := only_set (only_refl wr gx) k (.bool true)
                  have HBn := Aside0.mk (below_only HB.out ho GE_SX.out)
                  have Dn := Aside0.mk (D.out.onlyT ho SX.out (by decide))
                  have HKn := Aside0.mk ((HK.out.only ho SX.out (by decide)).top)
                  have SSn := Aside0.mk (SS.out.far (p := ⟨gx, k, none⟩) (by have := HSX.out; show gs ≠ gx; omega) (.bool true))
                  clear h1 ho HB D SX HK SS s0 s1 sf
                  go_roundg kz
                  case measure => omega
                  case rel => exact ⟨k + 1, by have := Hk.out; omega, by go_num, HBn, Dn, ⟨Z1⟩, HKn, SSn⟩
                | false =>
                  cases qb with
                  | true =>
                    go_wp2_with fail
                    have Z1 := SX.out.set_ k (.bool true)
                    rw [setArr_set] at Z1
                    have h1 := hstb.out
                    simp only [Bool.true_or, Bool.false_or] at h1
                    rw [h1] at Z1
                    have ho := only_set (only_refl wr gx) k (.bool true)
                    have HBn := Aside0.mk (below_only HB.out ho GE_SX.out)
                    have Dn := Aside0.mk (D.out.onlyT ho SX.out (by decide))
                    have HKn := Aside0.mk ((HK.out.only ho SX.out (by decide)).top)
                    have SSn := Aside0.mk (SS.out.far (p := ⟨gx, k, none⟩) (by have := HSX.out; show gs ≠ gx; omega) (.bool true))
                    clear h1 ho HB D SX HK SS s0 s1 sf
                    go_roundg kz
                    case measure => omega
                    case rel => exact ⟨k + 1, by have := Hk.out; omega, by go_num, HBn, Dn, ⟨Z1⟩, HKn, SSn⟩
                  | false =>
                    go_wp2_with fail
                    have Z1 := SX.out.set_ k (.bool false)
                    rw [setArr_set] at Z1
                    have h1 := hstb.out
                    simp only [Bool.true_or, Bool.false_or] at h1
                    rw [h1] at Z1
                    have ho := only_set (only_refl wr gx) k (.bool false)
                    have HBn := Aside0.mk (below_only HB.out ho GE_SX.out)
                    have Dn := Aside0.mk (D.out.onlyT ho SX.out (by decide))
                    have HKn := Aside0.mk ((HK.out.only ho SX.out (by decide)).top)
                    have SSn := Aside0.mk (SS.out.far (p := ⟨gx, k, none⟩) (by have := HSX.out; show gs ≠ gx; omega) (.bool false))
                    clear h1 ho HB D SX HK SS s0 s1 sf
                    go_roundg kz
                    case measure => omega
                    case rel => exact ⟨k + 1, by have := Hk.out; omega, by go_num, HBn, Dn, ⟨Z1⟩, HKn, SSn⟩
              · have hlk' : ¬ (k : Int) < (n : Int) := by omega
                have hkn : k = n := by have := Hk.out; omega
                rw [hkn, Hfin.out] at SX
                clear hkn
                go_wp2_with fail
                go_meet
                case rel => exact ⟨xn, cx, rfl, by rw [Hgt.out], Hx2, Hh2, ⟨by omega⟩, HB, D, SX, HK⟩
          · have hk1b : (ki == 1) = false := by simpa using hk1
            rcases Decidable.em (ki = 3) with rfl | hk3
            · as_aux_lemma =>
              have o0 := OP.out.cell (i := 0) (v := .int .i64 3) rfl
              have o1 := OP.out.cell (i := 1) (v := .int .i64 N) rfl
              have o2 := OP.out.cell (i := 2) (v := .int .i64 F) rfl
              have o3 := OP.out.cell (i := 3) (v := .int .i64 M) rfl
              go_wp2_with fail
              clear o0 o1 o2 o3
              refine calls_abs (fun WQ => Below w.heap.size w WQ ∧ DirtAt WQ gd n x ∧ Blk WQ gx 27 (setArr (bitsS n x)) ∧ KeptAt WQ w.heap.size gB (fun k => WQ.heap.size ≤ k) [] LS [] ∧ Blk WQ go 54 #[.int .i64 3, .int .i64 N, .int .i64 F, .int .i64 M] ∧ Kd.C k31 WQ (some ⟨w5.heap.size, 0, none⟩) 1 [⟨F, M⟩]) ⟨below_step HB.out (by repeat (first | exact Below.refl _ _ | apply below_alloc | refine Below.setCell ?_ (Nat.le_refl _) _ | refine Below.setCell ?_ (by simp) _)), D.out.keep (by repeat (first | exact Below.refl _ _ | apply below_alloc | refine Below.setCell ?_ (Nat.le_refl _) _ | refine Below.setCell ?_ (by simp) _)), SX.out.keep (by repeat (first | exact Below.refl _ _ | apply below_alloc | refine Below.setCell ?_ (Nat.le_refl _) _ | refine Below.setCell ?_ (by simp) _)), (HK.out.keep (by repeat (first | exact Below.refl _ _ | apply below_alloc | refine Below.setCell ?_ (Nat.le_refl _) _ | refine Below.setCell ?_ (by simp) _))).top, OP.out.keep (by repeat (first | exact Below.refl _ _ | apply below_alloc | refine Below.setCell ?_ (Nat.le_refl _) _ | refine Below.setCell ?_ (by simp) _)), C_lit1 _ _ rfl F M⟩ ?_
              rintro w10 ⟨h_HB, h_D, h_SX, h_HK, h_OP, h_C1⟩
              replace HB := Aside0.mk h_HB
              replace D := Aside0.mk h_D
              replace SX := Aside0.mk h_SX
              replace HK := Aside0.mk h_HK
              replace OP := Aside0.mk h_OP
              have C1 := Aside0.mk h_C1
              clear h_HB h_D h_SX h_HK h_OP h_C1
              refine (put_one none64 ⟨by simp⟩ ⟨w5.heap.size, 0, none⟩ 1 F M _ C1.out (by decide)).mono ?_
              rintro e w11 ⟨rfl, hB⟩
              replace HB := Aside0.mk (below_step HB.out hB)
              replace D := Aside0.mk (D.out.keep hB)
              replace SX := Aside0.mk (SX.out.keep hB)
              replace HK := Aside0.mk ((HK.out.keep hB).top)
              replace OP := Aside0.mk (OP.out.keep hB)
              clear hB
              clear C1
              have HSl : Aside0 ((spanS F M).length = 64) := ⟨spanS_len F M⟩
              go_upto_region 21 with (with_reducible refine wpList_store_row rfl 27 (.tmp 14) (.tmp 64) rfl (w11.heap.size) (setArr (spanS F M)) rfl rfl 27 _ (heap_alloc_new _ _) (by rw [setArr_size, HSl.out] <;> exact info27) (by rw [setArr_size, HSl.out] <;> with_unfolding_all rfl) (setArr_one _) ?_)
              rw [World.setRow_alloc_new]
              have HSX : Aside0 (gx < w11.heap.size) := ⟨SX.out.lt⟩
              refine code_abs (fun WQ => Below w.heap.size w WQ ∧ DirtAt WQ gd n x ∧ Blk WQ gx 27 (setArr (bitsS n x)) ∧ KeptAt WQ w.heap.size gB (fun k => WQ.heap.size ≤ k) [] LS [] ∧ Blk WQ go 54 #[.int .i64 3, .int .i64 N, .int .i64 F, .int .i64 M] ∧ Blk WQ w11.heap.size 27 (setArr (spanS F M))) ⟨below_step HB.out (by repeat (first | exact Below.refl _ _ | apply below_alloc | refine Below.setCell ?_ (Nat.le_refl _) _ | refine Below.setCell ?_ (by simp) _)), D.out.keep (by repeat (first | exact Below.refl _ _ | apply below_alloc | refine Below.setCell ?_ (Nat.le_refl _) _ | refine Below.setCell ?_ (by simp) _)), SX.out.keep (by repeat (first | exact Below.refl _ _ | apply below_alloc | refine Below.setCell ?_ (Nat.le_refl _) _ | refine Below.setCell ?_ (by simp) _)), (HK.out.keep (by repeat (first | exact Below.refl _ _ | apply below_alloc | refine Below.setCell ?_ (Nat.le_refl _) _ | refine Below.setCell ?_ (by simp) _))).top, OP.out.keep (by repeat (first | exact Below.refl _ _ | apply below_alloc | refine Below.setCell ?_ (Nat.le_refl _) _ | refine Below.setCell ?_ (by simp) _)), Blk.new _ _ _⟩ ?_
              rintro w12 ⟨h_HB, h_D, h_SX, h_HK, h_OP, h_SS⟩
              replace HB := Aside0.mk h_HB
              replace D := Aside0.mk h_D
              replace SX := Aside0.mk h_SX
              replace HK := Aside0.mk h_HK
              replace OP := Aside0.mk h_OP
              have SS := Aside0.mk h_SS
              clear h_HB h_D h_SX h_HK h_OP h_SS
              generalize w11.heap.size = gs at *
              obtain ⟨n2, hn2⟩ : ∃ q, q = (min (max N 0) 64).toNat := ⟨_, rfl⟩
              have Hn2 := Aside0.mk hn2
              clear hn2
              have Hn264 : Aside0 (n2 ≤ 64) := ⟨by have := Hn2.out; omega⟩
              obtain ⟨np, hnp⟩ : ∃ q, q = min n n2 := ⟨_, rfl⟩
              replace hnp := Aside0.mk hnp
              have o0 := OP.out.cell (i := 0) (v := .int .i64 3) rfl
              have o1 := OP.out.cell (i := 1) (v := .int .i64 N) rfl
              have o2 := OP.out.cell (i := 2) (v := .int .i64 F) rfl
              have o3 := OP.out.cell (i := 3) (v := .int .i64 M) rfl
              go_upto_region 23 with fail
              clear o0 o1 o2 o3
              go_cut [15] (fun v15 wc => v15 = .int .i64 (np : Int) ∧ Aside0 (Below w.heap.size w wc) ∧ Aside0 (DirtAt wc gd n x) ∧ Aside0 (Blk wc gx 27 (setArr (bitsS n x))) ∧ Aside0 (KeptAt wc w.heap.size gB (fun k => wc.heap.size ≤ k) [] LS []) ∧ Aside0 (Blk wc go 54 #[.int .i64 3, .int .i64 N, .int .i64 F, .int .i64 M]) ∧ Aside0 (Blk wc gs 27 (setArr (spanS F M))))
              case first =>
                have o0 := OP.out.cell (i := 0) (v := .int .i64 3) rfl
                have o1 := OP.out.cell (i := 1) (v := .int .i64 N) rfl
                have o2 := OP.out.cell (i := 2) (v := .int .i64 F) rfl
                have o3 := OP.out.cell (i := 3) (v := .int .i64 M) rfl
                have hn2 := Hn2.out
                have hnq := hnp.out
                have hn64 := Hn64.out
                rcases Int.lt_or_le N 0 with hb | hb
                · obtain rfl : n2 = 0 := by omega
                  rcases Nat.eq_zero_or_pos n with hc | hc
                  · obtain rfl : np = 0 := by omega
                    subst hc
                    clear hn2 hnq hn64
                    go_wp2_with fail
                    all_goals
                      go_meet
                      case rel => exact ⟨rfl, HB, D, SX, HK, OP, SS⟩
                  · have hci : (0 : Int) < (n : Int) := by omega
                    obtain rfl : np = 0 := by omega
                    clear hn2 hnq hn64 hc
                    go_wp2_with fail
                    go_meet
                    case rel => exact ⟨rfl, HB, D, SX, HK, OP, SS⟩
                · rcases Int.lt_or_le 64 N with hb2 | hb2
                  · obtain rfl : n2 = 64 := by omega
                    rcases Nat.lt_trichotomy n 64 with hc | hc | hc
                    · have hci : (n : Int) < (64 : Int) := by omega
                      obtain rfl : np = n := by omega
                      clear hn2 hnq hn64 hc
                      go_wp2_with fail
                      go_meet
                      case rel => exact ⟨rfl, HB, D, SX, HK, OP, SS⟩
                    · obtain rfl : np = 64 := by omega
                      subst hc
                      clear hn2 hnq hn64
                      go_wp2_with fail
                      all_goals
                        go_meet
                        case rel => exact ⟨rfl, HB, D, SX, HK, OP, SS⟩
                    · have hci : (64 : Int) < (n : Int) := by omega
                      obtain rfl : np = 64 := by omega
                      clear hn2 hnq hn64 hc
                      go_wp2_with fail
                      go_meet
                      case rel => exact ⟨rfl, HB, D, SX, HK, OP, SS⟩
                  · obtain rfl : N = (n2 : Int) := by omega
                    have hb3 : (n2 : Int) ≤ 64 := by omega
                    rcases Nat.lt_trichotomy n n2 with hc | hc | hc
                    · have hci : (n : Int) < (n2 : Int) := by omega
                      obtain rfl : np = n := by omega
                      clear hn2 hnq hn64 hc
                      go_wp2_with fail
                      go_meet
                      case rel => exact ⟨rfl, HB, D, SX, HK, OP, SS⟩
                    · obtain rfl : np = n2 := by omega
                      subst hc
                      clear hn2 hnq hn64
                      go_wp2_with fail
                      all_goals
                        go_meet
                        case rel => exact ⟨rfl, HB, D, SX, HK, OP, SS⟩
                    · have hci : (n2 : Int) < (n : Int) := by omega
                      obtain rfl : np = n2 := by omega
                      clear hn2 hnq hn64 hc
                      go_wp2_with fail
                      go_meet
                      case rel => exact ⟨rfl, HB, D, SX, HK, OP, SS⟩
              case rest =>
                clear HB D SX HK OP SS
                obtain ⟨rfl, HB, D, SX, HK, OP, SS⟩ := hcut
                have o0 := OP.out.cell (i := 0) (v := .int .i64 3) rfl
                have o1 := OP.out.cell (i := 1) (v := .int .i64 N) rfl
                have o2 := OP.out.cell (i := 2) (v := .int .i64 F) rfl
                have o3 := OP.out.cell (i := 3) (v := .int .i64 M) rfl
                go_wp2_with fail
                refine (dirt_new N _).mono ?_
                rintro e w13 ⟨rfl, hr, hB⟩
                rw [← Hn2.out] at hr
                clear o0 o1 o2 o3
                have NE_D_E : Aside0 (gd ≠ wc.heap.size) := ⟨by have := D.out.lt; omega⟩
                have GE_E : Aside0 (w.heap.size ≤ wc.heap.size) := ⟨by have := HB.out.size; omega⟩
                replace HB := Aside0.mk (below_step HB.out hB)
                replace D := Aside0.mk (D.out.keep hB)
                replace SX := Aside0.mk (SX.out.keep hB)
                replace HK := Aside0.mk ((HK.out.keep hB).top)
                replace OP := Aside0.mk (OP.out.keep hB)
                replace SS := Aside0.mk (SS.out.keep hB)
                clear hB
                have E := Aside0.mk hr
                clear hr
                generalize wc.heap.size = ge at *
                have o0 := OP.out.cell (i := 0) (v := .int .i64 3) rfl
                have o1 := OP.out.cell (i := 1) (v := .int .i64 N) rfl
                have o2 := OP.out.cell (i := 2) (v := .int .i64 F) rfl
                have o3 := OP.out.cell (i := 3) (v := .int .i64 M) rfl
                go_wp2_with fail
                refine (dirt_mark ge n2 0 F M Hn264.out (by decide) _ E.out).mono ?_
                rintro e w14 ⟨rfl, hr, ho⟩
                clear o0 o1 o2 o3
                replace HB := Aside0.mk (below_only HB.out ho GE_E.out)
                replace D := Aside0.mk (D.out.only ho NE_D_E.out)
                replace SX := Aside0.mk (SX.out.onlyT ho E.out (by decide))
                replace HK := Aside0.mk ((HK.out.only ho E.out (by decide)).top)
                replace OP := Aside0.mk (OP.out.onlyT ho E.out (by decide))
                replace SS := Aside0.mk (SS.out.onlyT ho E.out (by decide))
                clear ho
                replace E := Aside0.mk hr
                clear hr
                generalize ((cnt (minus (markV n2 F M) 0) : Nat) : Int) = zq at *
                have Hy2 : Aside0 (0 ||| markV n2 F M < 18446744073709551616) := ⟨or_lt (by decide) (markV_lt n2 F M)⟩
                go_wp2_with fail
                refine (dirt_or gd n x ge n2 (0 ||| markV n2 F M) Hn64.out Hx.out Hy2.out _ D.out E.out).mono ?_
                rintro e w15 ⟨rfl, hr, ho⟩
                replace HB := Aside0.mk (below_only HB.out ho GE_D.out)
                replace SX := Aside0.mk (SX.out.onlyT ho D.out (by decide))
                replace HK := Aside0.mk ((HK.out.only ho D.out (by decide)).top)
                replace OP := Aside0.mk (OP.out.onlyT ho D.out (by decide))
                replace SS := Aside0.mk (SS.out.onlyT ho D.out (by decide))
                replace E := Aside0.mk (E.out.only ho NE_D_E.out.symm)
                clear ho
                replace D := Aside0.mk hr
                clear hr
                clear E
                have Hvt : Aside0 (∀ k, k < 64 → ((0 ||| markV n2 F M) &&& ones 0 n).testBit k = (decide (k < np) && (spanS F M).getD k false)) := ⟨fun k hk => by rw [hnp.out]; exact mark2_get n n2 F M k hk⟩
                have Hx2 : Aside0 (x ||| ((0 ||| markV n2 F M) &&& ones 0 n) < 18446744073709551616) := ⟨or_lt Hx.out (and_lt Hy2.out)⟩
                have Hh2 : Aside0 (Hi n (x ||| ((0 ||| markV n2 F M) &&& ones 0 n))) := ⟨Hh.out.or Hi.and⟩
                have Hnp : Aside0 (np ≤ n) := ⟨by have := hnp.out; omega⟩
                have Hcn : Aside0 (((cnt (minus ((0 ||| markV n2 F M) &&& ones 0 n) x) : Nat) : Int) = ((cnt (x ||| ((0 ||| markV n2 F M) &&& ones 0 n)) : Nat) : Int) - (cx : Int)) := ⟨by rw [hcx.out]; exact cnt_new x _⟩
                rw [Hcn.out]
                have Hfin := Aside0.mk (upS_bits (x := x) Hn64.out Hnp.out Hvt.out)
                have hnp64 : (np : Int) ≤ 64 := by have := Hnp.out; have := Hn64.out; omega
                generalize x ||| ((0 ||| markV n2 F M) &&& ones 0 n) = xn at *
                obtain ⟨gt, hgt⟩ : ∃ q : Int, q = ((cnt xn : Nat) : Int) - (cx : Int) := ⟨_, rfl⟩
                rw [← hgt]
                have Hgt := Aside0.mk hgt
                clear hgt Hcn
                clear OP
                replace SX : Aside0 (Blk w15 gx 27 (setArr (upS (fun j => (bitsS n x).getD j false || (spanS F M).getD j false) (bitsS n x) 0))) := ⟨by rw [upS_zero _ _ HXl.out]; exact SX.out⟩
                go_wp2_with fail
                go_loopg [17] np (fun kq v wz => ∃ k : Nat, k + kq = np ∧ v = .int .i64 (k : Int) ∧ Aside0 (Below w.heap.size w wz) ∧ Aside0 (DirtAt wz gd n xn) ∧ Aside0 (Blk wz gx 27 (setArr (upS (fun j => (bitsS n x).getD j false || (spanS F M).getD j false) (bitsS n x) k))) ∧ Aside0 (KeptAt wz w.heap.size gB (fun k => wz.heap.size ≤ k) [] LS []) ∧ Aside0 (Blk wz gs 27 (setArr (spanS F M))))
                case atStart => exact ⟨0, by omega, rfl, HB, D, SX, HK, SS⟩
                case round =>
                  clear HB D SX HK SS
                  obtain ⟨k, hk, rfl, HB, D, SX, HK, SS⟩ := hrel
                  have Hk := Aside0.mk hk
                  clear hk
                  by_cases hlk : k < np
                  · have hlk' : (k : Int) < (np : Int) := by omega
                    have hk64 : k < 64 := by omega
                    have hk64' : (k : Int) < 64 := by omega
                    obtain ⟨kz, rfl⟩ : ∃ z, gk = z + 1 := ⟨gk - 1, by have := Hk.out; omega⟩
                    have hst := Aside0.mk (upS_step (fun j => (bitsS n x).getD j false || (spanS F M).getD j false) (bitsS n x) k hk64)
                    have s0 := SX.out.cell (setArr_get _ k (by rw [upS_length]; omega))
                    rw [upS_get _ _ _ _ hk64, if_neg (Nat.lt_irrefl k)] at s0
                    have sf := SX.out.frozen k
                    have s1 := SS.out.cell (setArr_get (spanS F M) k (by rw [HSl.out]; omega))
                    obtain ⟨pb, hpb⟩ : ∃ b, b = (bitsS n x).getD k false := ⟨_, rfl⟩
                    obtain ⟨qb, hqb⟩ : ∃ b, b = (spanS F M).getD k false := ⟨_, rfl⟩
                    have hstb : Aside0 ((upS (fun j => (bitsS n x).getD j false || (spanS F M).getD j false) (bitsS n x) k).set k (pb || qb) = upS (fun j => (bitsS n x).getD j false || (spanS F M).getD j false) (bitsS n x) (k + 1)) := ⟨by rw [hpb, hqb]; exact hst.out⟩
                    rw [← hpb] at s0
                    rw [← hqb] at s1
                    clear hpb hqb hst
                    cases pb with
                    | true =>
                      go_wp2_with fail
                      have Z1 := SX.out.set_ k (.bool true)
                      rw [setArr_set] at Z1
                      have h1 := hstb.out
                      simp only [Bool.true_or, Bool.false_or] at h1
                      rw [h1] at Z1
                      have ho := only_set (only_refl wr gx) k (.bool true)
                      have HBn := Aside0.mk (below_only HB.out ho GE_SX.out)
                      have Dn := Aside0.mk (D.out.onlyT ho SX.out (by decide))
                      have HKn := Aside0.mk ((HK.out.only ho SX.out (by decide)).top)
                      have SSn := Aside0.mk (SS.out.far (p := ⟨gx, k, none⟩) (by have := HSX.out; show gs ≠ gx; omega) (.bool true))
                      clear h1 ho HB D SX HK SS s0 s1 sf
                      go_roundg kz
                      case measure => omega
                      case rel => exact ⟨k + 1, by have := Hk.out; omega, by go_num, HBn, Dn, ⟨Z1⟩, HKn, SSn⟩
                    | false =>
                      cases qb with
                      | true =>
                        go_wp2_with fail
                        have Z1 := SX.out.set_ k (.bool true)
                        rw [setArr_set] at Z1
                        have h1 := hstb.out
                        simp only [Bool.true_or, Bool.false_or] at h1
                        rw [h1] at Z1
                        have ho := only_set (only_refl wr gx) k (.bool true)
                        have HBn := Aside0.mk (below_only HB.out ho GE_SX.out)
                        have Dn := Aside0.mk (D.out.onlyT ho SX.out (by decide))
                        have HKn := Aside0.mk ((HK.out.only ho SX.out (by decide)).top)
                        have SSn := Aside0.mk (SS.out.far (p := ⟨gx, k, none⟩) (by have := HSX.out; show gs ≠ gx; omega) (.bool true))
                        clear h1 ho HB D SX HK SS s0 s1 sf
                        go_roundg kz
                        case measure => omega
                        case rel => exact ⟨k + 1, by have := Hk.out; omega, by go_num, HBn, Dn, ⟨Z1⟩, HKn, SSn⟩
                      | false =>
                        go_wp2_with fail
                        have Z1 := SX.out.set_ k (.bool false)
                        rw [setArr_set] at Z1
                        have h1 := hstb.out
                        simp only [Bool.true_or, Bool.false_or] at h1
                        rw [h1] at Z1
                        have ho := only_set (only_refl wr gx) k (.bool false)
                        have HBn := Aside0.mk (below_only HB.out ho GE_SX.out)
                        have Dn := Aside0.mk (D.out.onlyT ho SX.out (by decide))
                        have HKn := Aside0.mk ((HK.out.only ho SX.out (by decide)).top)
                        have SSn := Aside0.mk (SS.out.far (p := ⟨gx, k, none⟩) (by have := HSX.out; show gs ≠ gx; omega) (.bool false))
                        clear h1 ho HB D SX HK SS s0 s1 sf
                        go_roundg kz
                        case measure => omega
                        case rel => exact ⟨k + 1, by have := Hk.out; omega, by go_num, HBn, Dn, ⟨Z1⟩, HKn, SSn⟩
                  · have hlk' : ¬ (k : Int) < (np : Int) := by omega
                    obtain rfl : np = k := by have := Hk.out; omega
                    rw [Hfin.out] at SX
                    go_wp2_with fail
                    go_meet
                    case rel => exact ⟨xn, cx, rfl, by rw [Hgt.out], Hx2, Hh2, ⟨by omega⟩, HB, D, SX, HK⟩
            · have hk3b : (ki == 3) = false := by simpa using hk3
              have o0 := OP.out.cell (i := 0) (v := .int .i64 ki) rfl
              have o1 := OP.out.cell (i := 1) (v := .int .i64 N) rfl
              have o2 := OP.out.cell (i := 2) (v := .int .i64 F) rfl
              have o3 := OP.out.cell (i := 3) (v := .int .i64 M) rfl
              go_wp2_with fail
              refine (dirt_wipe gd n x _ D.out).mono ?_
              rintro e w16 ⟨rfl, hr, ho⟩
              clear o0 o1 o2 o3
              replace HB := Aside0.mk (below_only HB.out ho GE_D.out)
              replace SX := Aside0.mk (SX.out.onlyT ho D.out (by decide))
              replace HK := Aside0.mk ((HK.out.only ho D.out (by decide)).top)
              replace OP := Aside0.mk (OP.out.onlyT ho D.out (by decide))
              clear ho
              replace D := Aside0.mk hr
              clear hr
              go_wp2_with (with_reducible refine wpList_store_row rfl 27 (.tmp 8) (.tmp 56) rfl gx (setArr none64) rfl rfl 27 (setArr (bitsS n x)) SX.out.hd (by with_unfolding_all rfl) (by rw [setArr_size, setArr_size, HXl.out]; with_unfolding_all rfl) (setArr_one _) ?_)
              have ho := only_row w16 gx (setArr none64)
              have HBn := Aside0.mk (below_only HB.out ho GE_SX.out)
              have Dn := Aside0.mk (D.out.onlyT ho SX.out (by decide))
              have HKn := Aside0.mk ((HK.out.only ho SX.out (by decide)).top)
              have SXn : Aside0 (Blk (w16.setRow gx (setArr none64)) gx 27 (setArr (bitsS n 0))) := ⟨by rw [bits_none]; exact SX.out.row _⟩
              go_meet
              case rel => exact ⟨0, 0, rfl, by rw [cnt_zero]; rfl, ⟨by decide⟩, ⟨Hi.zero n⟩, ⟨by decide⟩, HBn, Dn, SXn, HKn⟩
        case rest =>
          clear HB D SX HK OP Hx Hh Hcx HXl hcx hc64
          obtain ⟨x, cw, rfl, rfl, Hx, Hh, Hcw, HB, D, SX, HK⟩ := hcut
          have Hcx : Aside0 (cntS (bitsS n x) 64 = cnt x) := ⟨cnt_bits Hn64.out Hh.out⟩
          have HXl : Aside0 ((bitsS n x).length = 64) := ⟨bitsS_length n x⟩
          have hc64 : ((cnt x : Nat) : Int) ≤ 64 := by have := cnt_le x; omega
          have hw64 : (cw : Int) ≤ 64 := by have := Hcw.out; omega
          obtain ⟨cx, hcx⟩ : ∃ q, q = cnt x := ⟨_, rfl⟩
          rw [← hcx] at hc64 Hcx ⊢
          replace hcx := Aside0.mk hcx
          have hlen := Aside0.mk (spans_len (bitsS n x))
          have HLt : Aside0 (LS.length < 250) := ⟨by have h1 := HLS.out.1; have h2 := Hl.out; omega⟩
          go_wp2_with fail
          refine (dirt_runs gd n x Hn64.out Hx.out _ D.out).mono ?_
          rintro e w17 ⟨rfl, hr, hB⟩
          have GE_RR : Aside0 (w.heap.size ≤ wc.heap.size) := ⟨by have := HB.out.size; omega⟩
          replace HB := Aside0.mk (below_step HB.out hB)
          replace D := Aside0.mk (D.out.keep hB)
          replace SX := Aside0.mk (SX.out.keep hB)
          replace HK := Aside0.mk ((HK.out.keep hB).top)
          clear hB
          have RR := Aside0.mk hr
          clear hr
          generalize wc.heap.size = gr at *
          go_wp2_with fail
          refine (runs_all gr gr _ (by have := hlen.out; omega) _ RR.out).mono ?_
          rintro e w18 ⟨v, rfl, ho, hB⟩
          have FR_VA : Aside0 (∀ k, Value.ownBlock v = some k → w17.heap.size ≤ k) := ⟨fun k hk => Kd.R_base (ho.to_R) k hk⟩
          have VA := Aside0.mk (Kd.R_lower (ho.to_R) HB.out.size)
          clear ho
          replace HB := Aside0.mk (below_step HB.out hB)
          replace D := Aside0.mk (D.out.keep hB)
          replace SX := Aside0.mk (SX.out.keep hB)
          replace HK := Aside0.mk (HK.out.keep hB)
          replace RR := Aside0.mk (RR.out.keep hB)
          clear hB
          obtain ⟨A2, c2, hve, hc0, hc1⟩ := Kd.R_reads VA.out
          subst hve
          have HC_VA := Aside0.mk hc0
          clear hc0 hc1
          obtain ⟨cs0, hkb0⟩ := HK.out.book
          have hkb := Aside0.mk hkb0
          clear hkb0
          go_wp2_with fail
          refine (kept_S gB w.heap.size _ _ _ _ _ _ _ HK.out VA.out (by have := hlen.out; omega) (HLt.out) FR_VA.out HB.out.size).mono ?_
          rintro e w19 ⟨rfl, hk, hfx⟩
          replace HB := Aside0.mk (HB.out.trans hfx.1)
          replace D := Aside0.mk (hfx.blkT hkb.out D.out (by decide) (by decide))
          replace SX := Aside0.mk (hfx.blkT hkb.out SX.out (by decide) (by decide))
          replace RR := Aside0.mk (hfx.runs hkb.out RR.out (by decide) (by decide) (by decide) (by decide))
          replace VA := Aside0.mk (hfx.Rr rfl hkb.out VA.out (by decide) (by decide))
          clear hfx
          replace HK := Aside0.mk hk.top
          clear hk hkb cs0
          obtain ⟨X, hX⟩ : ∃ X, X = bitsS n x := ⟨_, rfl⟩
          rw [← hX] at SX RR VA HK hlen Hcx HXl ⊢
          have HX := Aside0.mk hX
          clear hX
          obtain ⟨T, hT⟩ : ∃ T, T = spansOf X := ⟨_, rfl⟩
          rw [← hT] at VA HK hlen ⊢
          have HTs := Aside0.mk hT
          clear hT
          have hwn : wrap64 ((cx : Int) - (cw : Int)) = (cx : Int) - (cw : Int) := w_id (by omega) (by omega)
          rcases Int.lt_or_le ask 0 with hf0 | hf0
          · as_aux_lemma =>
            have hin1 : ¬ (0 : Int) ≤ ask := by omega
            have hHs : Aside0 ((decide (0 ≤ ask) && decide (ask < (n : Int)) && x.testBit ask.toNat) = false) := ⟨by rw [decide_eq_false hin1]; rfl⟩
            have hin3 : decide ((0 : Int) ≤ ask) = false := decide_eq_false hin1
            have hSB : Aside0 (∀ W : World, Calls Try.prog 30 #[.agg (setArr X), .int .i64 (n : Int)] W fun e w' => e = .returned (.string (strOfNums (bytesD n x))) ∧ Below W.heap.size W w') := ⟨fun W => bytes_ref n x Hn64.out Hh.out X HX.out W⟩
            have hDB : Aside0 (∀ W : World, DirtAt W gd n x → Calls Try.prog 19 #[ptr gd] W fun e w' => e = .returned (.string (strOfNums (bytesD n x))) ∧ Below W.heap.size W w') := ⟨fun W h => dirt_bytes gd n x Hn64.out Hx.out W h⟩
            generalize strOfNums (bytesD n x) = SB at *
            have hDC : Aside0 (∀ W : World, DirtAt W gd n x → Calls Try.prog 17 #[ptr gd] W fun e w' => e = .returned (.int .i64 (cx : Int)) ∧ Below W.heap.size W w') := ⟨fun W h => by rw [hcx.out]; exact dirt_count gd n x Hx.out W h⟩
            have hDH : Aside0 (∀ W : World, DirtAt W gd n x → Calls Try.prog 20 #[ptr gd, .int .i64 ask] W fun e w' => e = .returned (.bool false) ∧ Below W.heap.size W w') := ⟨fun W h => by have h2 := dirt_has gd n x Hn64.out Hx.out ask W h; rw [hHs.out] at h2; exact h2⟩
            go_wp2_with fail
            have HS : Aside0 (Below w19.heap.size w19 w19) := ⟨Below.refl _ _⟩
            refine start_ (n := 52) (S := fun w' => Below w19.heap.size w19 w' ∧ Blk w' gx 27 (setArr X) ∧ DirtAt w' gd n x ∧ Kd.R k31 31 w' w.heap.size (fun _ => True) (.slice A2 (T).length c2) (T)) (ds := []) #[false, false, false, false, false, false, false, false, false, false, false, false, false, false, false, false, false, false, false, false, false, false, false, false, false, false, false, false, false, false, false, false, false, false, false, false, false, false, false, false, false, false, false, false, false, false, false, false, false, false, false, false] (by kernel_rfl) rfl rfl ⟨(below_drew1 HS.out), (SX.out.keep (below_drew1 (Below.refl _ _))), (D.out.keep (below_drew1 (Below.refl _ _))), (Kd.R_below VA.out (below_drew1 (Below.refl _ _)))⟩ (fun hHeld => ?_)
            refine pure_ (i := 0) (N := some 115) (v := ?_) (a' := ?_) #[true, false, false, false, false, false, false, false, false, false, false, false, false, false, false, false, false, false, false, false, false, false, false, false, false, false, false, false, false, false, false, false, false, false, false, false, false, false, false, false, false, false, false, false, false, false, false, false, false, false, false, false] rfl rfl (by kernel_rfl) (fun _ _ _ h => h) (Or.inl ⟨by rfl, ?_⟩) ?_ ?_
            rotate_left
            · intro w'
              go_simp
              with_reducible rfl
            rotate_left
            · simp only [Act.put, List.setIfInBounds_toArray, List.set_cons_zero, List.set_cons_succ, i64_w, i32_w]
              rfl
            refine pure_ (i := 3) (N := some 118) (v := ?_) (a' := ?_) #[true, false, false, true, false, false, false, false, false, false, false, false, false, false, false, false, false, false, false, false, false, false, false, false, false, false, false, false, false, false, false, false, false, false, false, false, false, false, false, false, false, false, false, false, false, false, false, false, false, false, false, false] rfl rfl (by kernel_rfl) (fun _ _ _ h => h) (Or.inl ⟨by rfl, ?_⟩) ?_ ?_
            rotate_left
            · intro w'
              go_simp
              with_reducible rfl
            rotate_left
            · simp only [Act.put, List.setIfInBounds_toArray, List.set_cons_zero, List.set_cons_succ, i64_w, i32_w]
              rfl
            refine take_ (i := 1) (N := some 116) (v := ?_) (a' := ?_) #[true, true, false, true, false, false, false, false, false, false, false, false, false, false, false, false, false, false, false, false, false, false, false, false, false, false, false, false, false, false, false, false, false, false, false, false, false, false, false, false, false, false, false, false, false, false, false, false, false, false, false, false] rfl rfl (by kernel_rfl) (fun _ _ _ h => h) (Or.inl ⟨by rfl, ?_⟩) hHeld ?_ ?_
            rotate_left
            · rintro w' ⟨s0, s1, s2, s3⟩
              refine row_yields 27 (.tmp 8) ?_ gx ?_ 27 (setArr X) (0, 0) _ s1.hd Try.underlying27 rfl (by rw [setArr_size, HXl.out] <;> exact info27)
              · rfl
              · rfl
            rotate_left
            · simp only [Act.put, List.setIfInBounds_toArray, List.set_cons_zero, List.set_cons_succ, i64_w, i32_w]
              rfl
            refine one_ (i := 2) (N := some 117) #[true, true, true, true, false, false, false, false, false, false, false, false, false, false, false, false, false, false, false, false, false, false, false, false, false, false, false, false, false, false, false, false, false, false, false, false, false, false, false, false, false, false, false, false, false, false, false, false, false, false, false, false] rfl rfl (by kernel_rfl) (by decide) (fun K hK => ?_)
            refine goes_ Try.func24 (by kernel_rfl) rfl #[.agg (setArr X)] (by rfl) rfl rfl (by simp only [List.map_toArray, List.map_cons, List.map_nil]; rfl) ?_
            with_reducible refine (set_cnt X cx HXl.out Hcx.out _).mono ?_
            rintro e w60 ⟨rfl, hb⟩
            refine ⟨_, rfl, ?_⟩
            refine hK.out _ _ ⟨(below_step hHeld.1 hb), (hHeld.2.1.keep hb), (hHeld.2.2.1.keep hb), (Kd.R_below hHeld.2.2.2 hb)⟩ (fun hHeld => ?_)
            clear hK K
            refine norm_ (a' := ?_) ?_ ?_
            rotate_left
            · show Act.put _ (some 117) _ = _
              simp only [Act.put, List.setIfInBounds_toArray, List.set_cons_zero, List.set_cons_succ, i64_w, i32_w]
              rfl
            refine pure_ (i := 4) (N := some 119) (v := ?_) (a' := ?_) #[true, true, true, true, true, false, false, false, false, false, false, false, false, false, false, false, false, false, false, false, false, false, false, false, false, false, false, false, false, false, false, false, false, false, false, false, false, false, false, false, false, false, false, false, false, false, false, false, false, false, false, false] rfl rfl (by kernel_rfl) (fun _ _ _ h => h) (Or.inl ⟨by rfl, ?_⟩) ?_ ?_
            rotate_left
            · intro w'
              go_simp
              with_reducible rfl
            rotate_left
            · simp only [Act.put, List.setIfInBounds_toArray, List.set_cons_zero, List.set_cons_succ, i64_w, i32_w]
              rfl
            refine pure_ (i := 5) (N := some 120) (v := ?_) (a' := ?_) #[true, true, true, true, true, true, false, false, false, false, false, false, false, false, false, false, false, false, false, false, false, false, false, false, false, false, false, false, false, false, false, false, false, false, false, false, false, false, false, false, false, false, false, false, false, false, false, false, false, false, false, false] rfl rfl (by kernel_rfl) (fun _ _ _ h => h) (Or.inl ⟨by rfl, ?_⟩) ?_ ?_
            rotate_left
            · intro w'
              go_simp
              with_reducible rfl
            rotate_left
            · simp only [Act.put, List.setIfInBounds_toArray, List.set_cons_zero, List.set_cons_succ, i64_w, i32_w]
              rfl
            refine pure_ (i := 6) (N := some 121) (v := ?_) (a' := ?_) #[true, true, true, true, true, true, true, false, false, false, false, false, false, false, false, false, false, false, false, false, false, false, false, false, false, false, false, false, false, false, false, false, false, false, false, false, false, false, false, false, false, false, false, false, false, false, false, false, false, false, false, false] rfl rfl (by kernel_rfl) (fun _ _ _ h => h) (Or.inl ⟨by rfl, ?_⟩) ?_ ?_
            rotate_left
            · intro w'
              go_simp
              with_reducible rfl
            rotate_left
            · simp only [Act.put, List.setIfInBounds_toArray, List.set_cons_zero, List.set_cons_succ, i64_w, i32_w]
              rfl
            refine pure_ (i := 7) (N := some 122) (v := ?_) (a' := ?_) #[true, true, true, true, true, true, true, true, false, false, false, false, false, false, false, false, false, false, false, false, false, false, false, false, false, false, false, false, false, false, false, false, false, false, false, false, false, false, false, false, false, false, false, false, false, false, false, false, false, false, false, false] rfl rfl (by kernel_rfl) (fun _ _ _ h => h) (Or.inl ⟨by rfl, ?_⟩) ?_ ?_
            rotate_left
            · intro w'
              go_simp
              with_reducible rfl
            rotate_left
            · simp only [Act.put, List.setIfInBounds_toArray, List.set_cons_zero, List.set_cons_succ, i64_w, i32_w]
              rfl
            refine take_ (i := 8) (N := some 123) (v := ?_) (a' := ?_) #[true, true, true, true, true, true, true, true, true, false, false, false, false, false, false, false, false, false, false, false, false, false, false, false, false, false, false, false, false, false, false, false, false, false, false, false, false, false, false, false, false, false, false, false, false, false, false, false, false, false, false, false] rfl rfl (by kernel_rfl) (fun _ _ _ h => h) (Or.inl ⟨by rfl, ?_⟩) hHeld ?_ ?_
            rotate_left
            · rintro w' ⟨s0, s1, s2, s3⟩
              refine row_yields 27 (.tmp 8) ?_ gx ?_ 27 (setArr X) (0, 0) _ s1.hd Try.underlying27 rfl (by rw [setArr_size, HXl.out] <;> exact info27)
              · rfl
              · rfl
            rotate_left
            · simp only [Act.put, List.setIfInBounds_toArray, List.set_cons_zero, List.set_cons_succ, i64_w, i32_w]
              rfl
            refine one_ (i := 9) (N := some 124) #[true, true, true, true, true, true, true, true, true, true, false, false, false, false, false, false, false, false, false, false, false, false, false, false, false, false, false, false, false, false, false, false, false, false, false, false, false, false, false, false, false, false, false, false, false, false, false, false, false, false, false, false] rfl rfl (by kernel_rfl) (by decide) (fun K hK => ?_)
            refine goes_ Try.func29 (by kernel_rfl) rfl #[.agg (setArr X)] (by rfl) rfl rfl (by simp only [List.map_toArray, List.map_cons, List.map_nil]; rfl) ?_
            with_reducible refine (set_spans X HXl.out _).mono ?_
            rintro e w61 ⟨vs, rfl, hos, hb⟩
            refine ⟨_, rfl, ?_⟩
            rw [← HTs.out] at hos
            obtain ⟨As, cs, hse, hcs, hCs, _⟩ := hos.reads
            subst hse
            refine hK.out _ _ ⟨(below_step hHeld.1 hb), (hHeld.2.1.keep hb), (hHeld.2.2.1.keep hb), (Kd.R_below hHeld.2.2.2 hb)⟩ (fun hHeld => ?_)
            clear hK K
            refine norm_ (a' := ?_) ?_ ?_
            rotate_left
            · show Act.put _ (some 124) _ = _
              simp only [Act.put, List.setIfInBounds_toArray, List.set_cons_zero, List.set_cons_succ, i64_w, i32_w]
              rfl
            refine one_ (i := 10) (N := some 125) #[true, true, true, true, true, true, true, true, true, true, true, false, false, false, false, false, false, false, false, false, false, false, false, false, false, false, false, false, false, false, false, false, false, false, false, false, false, false, false, false, false, false, false, false, false, false, false, false, false, false, false, false] rfl rfl (by kernel_rfl) (by decide) (fun K hK => ?_)
            refine goes_ Try.func28 (by kernel_rfl) rfl #[.slice A2 T.length c2, .slice As T.length cs] (by rfl) rfl rfl (by simp only [List.map_toArray, List.map_cons, List.map_nil]; rfl) ?_
            with_reducible refine (same_C A2 c2 As cs T (R_len' hHeld.2.2.2) hcs (by have := hlen.out; omega) _ (C_of_R hHeld.2.2.2).1 hCs).mono ?_
            rintro e w62 ⟨rfl, hb⟩
            refine ⟨_, rfl, ?_⟩
            clear hCs hcs hos
            refine hK.out _ _ ⟨(below_step hHeld.1 hb), (hHeld.2.1.keep hb), (hHeld.2.2.1.keep hb), (Kd.R_below hHeld.2.2.2 hb)⟩ (fun hHeld => ?_)
            clear hK K
            refine norm_ (a' := ?_) ?_ ?_
            rotate_left
            · show Act.put _ (some 125) _ = _
              simp only [Act.put, List.setIfInBounds_toArray, List.set_cons_zero, List.set_cons_succ, i64_w, i32_w]
              rfl
            refine pure_ (i := 11) (N := some 126) (v := ?_) (a' := ?_) #[true, true, true, true, true, true, true, true, true, true, true, true, false, false, false, false, false, false, false, false, false, false, false, false, false, false, false, false, false, false, false, false, false, false, false, false, false, false, false, false, false, false, false, false, false, false, false, false, false, false, false, false] rfl rfl (by kernel_rfl) (fun _ _ _ h => h) (Or.inl ⟨by rfl, ?_⟩) ?_ ?_
            rotate_left
            · intro w'
              go_simp
              with_reducible rfl
            rotate_left
            · simp only [Act.put, List.setIfInBounds_toArray, List.set_cons_zero, List.set_cons_succ, i64_w, i32_w]
              rfl
            refine pure_ (i := 12) (N := some 127) (v := ?_) (a' := ?_) #[true, true, true, true, true, true, true, true, true, true, true, true, true, false, false, false, false, false, false, false, false, false, false, false, false, false, false, false, false, false, false, false, false, false, false, false, false, false, false, false, false, false, false, false, false, false, false, false, false, false, false, false] rfl rfl (by kernel_rfl) (fun _ _ _ h => h) (Or.inl ⟨by rfl, ?_⟩) ?_ ?_
            rotate_left
            · intro w'
              go_simp
              with_reducible rfl
            rotate_left
            · simp only [Act.put, List.setIfInBounds_toArray, List.set_cons_zero, List.set_cons_succ, i64_w, i32_w]
              rfl
            refine pure_ (i := 13) (N := some 128) (v := ?_) (a' := ?_) #[true, true, true, true, true, true, true, true, true, true, true, true, true, true, false, false, false, false, false, false, false, false, false, false, false, false, false, false, false, false, false, false, false, false, false, false, false, false, false, false, false, false, false, false, false, false, false, false, false, false, false, false] rfl rfl (by kernel_rfl) (fun _ _ _ h => h) (Or.inl ⟨by rfl, ?_⟩) ?_ ?_
            rotate_left
            · intro w'
              go_simp
              with_reducible rfl
            rotate_left
            · simp only [Act.put, List.setIfInBounds_toArray, List.set_cons_zero, List.set_cons_succ, i64_w, i32_w]
              rfl
            refine pure_ (i := 14) (N := some 129) (v := ?_) (a' := ?_) #[true, true, true, true, true, true, true, true, true, true, true, true, true, true, true, false, false, false, false, false, false, false, false, false, false, false, false, false, false, false, false, false, false, false, false, false, false, false, false, false, false, false, false, false, false, false, false, false, false, false, false, false] rfl rfl (by kernel_rfl) (fun _ _ _ h => h) (Or.inl ⟨by rfl, ?_⟩) ?_ ?_
            rotate_left
            · intro w'
              go_simp
              with_reducible rfl
            rotate_left
            · simp only [Act.put, List.setIfInBounds_toArray, List.set_cons_zero, List.set_cons_succ, i64_w, i32_w]
              rfl
            refine take_ (i := 16) (N := some 131) (v := ?_) (a' := ?_) #[true, true, true, true, true, true, true, true, true, true, true, true, true, true, true, false, true, false, false, false, false, false, false, false, false, false, false, false, false, false, false, false, false, false, false, false, false, false, false, false, false, false, false, false, false, false, false, false, false, false, false, false] rfl rfl (by kernel_rfl) (fun _ _ _ h => h) (Or.inl ⟨by rfl, ?_⟩) hHeld ?_ ?_
            rotate_left
            · rintro w' ⟨s0, s1, s2, s3⟩
              refine row_yields 27 (.tmp 8) ?_ gx ?_ 27 (setArr X) (0, 0) _ s1.hd Try.underlying27 rfl (by rw [setArr_size, HXl.out] <;> exact info27)
              · rfl
              · rfl
            rotate_left
            · simp only [Act.put, List.setIfInBounds_toArray, List.set_cons_zero, List.set_cons_succ, i64_w, i32_w]
              rfl
            refine one_ (i := 15) (N := some 130) #[true, true, true, true, true, true, true, true, true, true, true, true, true, true, true, true, true, false, false, false, false, false, false, false, false, false, false, false, false, false, false, false, false, false, false, false, false, false, false, false, false, false, false, false, false, false, false, false, false, false, false, false] rfl rfl (by kernel_rfl) (by decide) (fun K hK => ?_)
            refine goes_ Try.func17 (by kernel_rfl) rfl #[ptr gd] (by rfl) rfl rfl (by simp only [List.map_toArray, List.map_cons, List.map_nil]; rfl) ?_
            with_reducible refine (hDC.out _ hHeld.2.2.1).mono ?_
            rintro e w63 ⟨rfl, hb⟩
            refine ⟨_, rfl, ?_⟩
            refine hK.out _ _ ⟨(below_step hHeld.1 hb), (hHeld.2.1.keep hb), (hHeld.2.2.1.keep hb), (Kd.R_below hHeld.2.2.2 hb)⟩ (fun hHeld => ?_)
            clear hK K
            refine norm_ (a' := ?_) ?_ ?_
            rotate_left
            · show Act.put _ (some 130) _ = _
              simp only [Act.put, List.setIfInBounds_toArray, List.set_cons_zero, List.set_cons_succ, i64_w, i32_w]
              rfl
            refine one_ (i := 17) (N := some 132) #[true, true, true, true, true, true, true, true, true, true, true, true, true, true, true, true, true, true, false, false, false, false, false, false, false, false, false, false, false, false, false, false, false, false, false, false, false, false, false, false, false, false, false, false, false, false, false, false, false, false, false, false] rfl rfl (by kernel_rfl) (by decide) (fun K hK => ?_)
            refine goes_ Try.func24 (by kernel_rfl) rfl #[.agg (setArr X)] (by rfl) rfl rfl (by simp only [List.map_toArray, List.map_cons, List.map_nil]; rfl) ?_
            with_reducible refine (set_cnt X cx HXl.out Hcx.out _).mono ?_
            rintro e w64 ⟨rfl, hb⟩
            refine ⟨_, rfl, ?_⟩
            refine hK.out _ _ ⟨(below_step hHeld.1 hb), (hHeld.2.1.keep hb), (hHeld.2.2.1.keep hb), (Kd.R_below hHeld.2.2.2 hb)⟩ (fun hHeld => ?_)
            clear hK K
            refine norm_ (a' := ?_) ?_ ?_
            rotate_left
            · show Act.put _ (some 132) _ = _
              simp only [Act.put, List.setIfInBounds_toArray, List.set_cons_zero, List.set_cons_succ, i64_w, i32_w]
              rfl
            refine pure_ (i := 18) (N := some 133) (v := ?_) (a' := ?_) #[true, true, true, true, true, true, true, true, true, true, true, true, true, true, true, true, true, true, true, false, false, false, false, false, false, false, false, false, false, false, false, false, false, false, false, false, false, false, false, false, false, false, false, false, false, false, false, false, false, false, false, false] rfl rfl (by kernel_rfl) (fun _ _ _ h => h) (Or.inl ⟨by rfl, ?_⟩) ?_ ?_
            rotate_left
            · intro w'
              go_simp
              with_reducible rfl
            rotate_left
            · simp only [Act.put, List.setIfInBounds_toArray, List.set_cons_zero, List.set_cons_succ, i64_w, i32_w]
              rfl
            refine pure_ (i := 19) (N := some 134) (v := ?_) (a' := ?_) #[true, true, true, true, true, true, true, true, true, true, true, true, true, true, true, true, true, true, true, true, false, false, false, false, false, false, false, false, false, false, false, false, false, false, false, false, false, false, false, false, false, false, false, false, false, false, false, false, false, false, false, false] rfl rfl (by kernel_rfl) (fun _ _ _ h => h) (Or.inl ⟨by rfl, ?_⟩) ?_ ?_
            rotate_left
            · intro w'
              go_simp
              with_reducible rfl
            rotate_left
            · simp only [Act.put, List.setIfInBounds_toArray, List.set_cons_zero, List.set_cons_succ, i64_w, i32_w]
              rfl
            refine pure_ (i := 20) (N := some 135) (v := ?_) (a' := ?_) #[true, true, true, true, true, true, true, true, true, true, true, true, true, true, true, true, true, true, true, true, true, false, false, false, false, false, false, false, false, false, false, false, false, false, false, false, false, false, false, false, false, false, false, false, false, false, false, false, false, false, false, false] rfl rfl (by kernel_rfl) (fun _ _ _ h => h) (Or.inl ⟨by rfl, ?_⟩) ?_ ?_
            rotate_left
            · intro w'
              go_simp
              with_reducible rfl
            rotate_left
            · simp only [Act.put, List.setIfInBounds_toArray, List.set_cons_zero, List.set_cons_succ, i64_w, i32_w]
              rfl
            refine pure_ (i := 21) (N := some 136) (v := ?_) (a' := ?_) #[true, true, true, true, true, true, true, true, true, true, true, true, true, true, true, true, true, true, true, true, true, true, false, false, false, false, false, false, false, false, false, false, false, false, false, false, false, false, false, false, false, false, false, false, false, false, false, false, false, false, false, false] rfl rfl (by kernel_rfl) (fun _ _ _ h => h) (Or.inl ⟨by rfl, ?_⟩) ?_ ?_
            rotate_left
            · intro w'
              go_simp
              with_reducible rfl
            rotate_left
            · simp only [Act.put, List.setIfInBounds_toArray, List.set_cons_zero, List.set_cons_succ, i64_w, i32_w]
              rfl
            refine pure_ (i := 22) (N := some 137) (v := ?_) (a' := ?_) #[true, true, true, true, true, true, true, true, true, true, true, true, true, true, true, true, true, true, true, true, true, true, true, false, false, false, false, false, false, false, false, false, false, false, false, false, false, false, false, false, false, false, false, false, false, false, false, false, false, false, false, false] rfl rfl (by kernel_rfl) (fun _ _ _ h => h) (Or.inl ⟨by rfl, ?_⟩) ?_ ?_
            rotate_left
            · intro w'
              go_simp
              with_reducible rfl
            rotate_left
            · simp only [Act.put, List.setIfInBounds_toArray, List.set_cons_zero, List.set_cons_succ, i64_w, i32_w]
              rfl
            refine pure_ (i := 24) (N := some 139) (v := ?_) (a' := ?_) #[true, true, true, true, true, true, true, true, true, true, true, true, true, true, true, true, true, true, true, true, true, true, true, false, true, false, false, false, false, false, false, false, false, false, false, false, false, false, false, false, false, false, false, false, false, false, false, false, false, false, false, false] rfl rfl (by kernel_rfl) (fun _ _ _ h => h) (Or.inl ⟨by rfl, ?_⟩) ?_ ?_
            rotate_left
            · intro w'
              go_simp
              with_reducible rfl
            rotate_left
            · simp only [Act.put, List.setIfInBounds_toArray, List.set_cons_zero, List.set_cons_succ, i64_w, i32_w]
              rfl
            refine pure_ (i := 25) (N := some 140) (v := ?_) (a' := ?_) #[true, true, true, true, true, true, true, true, true, true, true, true, true, true, true, true, true, true, true, true, true, true, true, false, true, true, false, false, false, false, false, false, false, false, false, false, false, false, false, false, false, false, false, false, false, false, false, false, false, false, false, false] rfl rfl (by kernel_rfl) (fun _ _ _ h => h) (Or.inl ⟨by rfl, ?_⟩) ?_ ?_
            rotate_left
            · intro w'
              go_simp
              with_reducible rfl
            rotate_left
            · simp only [Act.put, List.setIfInBounds_toArray, List.set_cons_zero, List.set_cons_succ, i64_w, i32_w]
              rfl
            refine one_ (i := 23) (N := some 138) #[true, true, true, true, true, true, true, true, true, true, true, true, true, true, true, true, true, true, true, true, true, true, true, true, true, true, false, false, false, false, false, false, false, false, false, false, false, false, false, false, false, false, false, false, false, false, false, false, false, false, false, false] rfl rfl (by kernel_rfl) (by decide) (fun K hK => ?_)
            refine goes_ Try.func20 (by kernel_rfl) rfl #[ptr gd, .int .i64 ask] (by rfl) rfl rfl (by simp only [List.map_toArray, List.map_cons, List.map_nil]; rfl) ?_
            with_reducible refine (hDH.out _ hHeld.2.2.1).mono ?_
            rintro e w65 ⟨rfl, hb⟩
            refine ⟨_, rfl, ?_⟩
            refine hK.out _ _ ⟨(below_step hHeld.1 hb), (hHeld.2.1.keep hb), (hHeld.2.2.1.keep hb), (Kd.R_below hHeld.2.2.2 hb)⟩ (fun hHeld => ?_)
            clear hK K
            refine norm_ (a' := ?_) ?_ ?_
            rotate_left
            · show Act.put _ (some 138) _ = _
              simp only [Act.put, List.setIfInBounds_toArray, List.set_cons_zero, List.set_cons_succ, i64_w, i32_w]
              rfl
            refine pure_ (i := 26) (N := some 141) (v := ?_) (a' := ?_) #[true, true, true, true, true, true, true, true, true, true, true, true, true, true, true, true, true, true, true, true, true, true, true, true, true, true, true, false, false, false, false, false, false, false, false, false, false, false, false, false, false, false, false, false, false, false, false, false, false, false, false, false] rfl rfl (by kernel_rfl) (fun _ _ _ h => h) (Or.inl ⟨by rfl, ?_⟩) ?_ ?_
            rotate_left
            · intro w'
              go_simp
              with_reducible rfl
            rotate_left
            · simp only [Act.put, List.setIfInBounds_toArray, List.set_cons_zero, List.set_cons_succ, i64_w, i32_w]
              rfl
            refine pure_ (i := 27) (N := some 142) (v := undef) (a' := ?_) #[true, true, true, true, true, true, true, true, true, true, true, true, true, true, true, true, true, true, true, true, true, true, true, true, true, true, true, true, false, false, false, false, false, false, false, false, false, false, false, false, false, false, false, false, false, false, false, false, false, false, false, false] rfl rfl (by kernel_rfl) (fun _ _ _ h => h) (Or.inr ⟨by rfl, rfl⟩) ?_ ?_
            rotate_left
            · simp only [Act.put, List.setIfInBounds_toArray, List.set_cons_zero, List.set_cons_succ, i64_w, i32_w]
              rfl
            refine pure_ (i := 28) (N := some 143) (v := undef) (a' := ?_) #[true, true, true, true, true, true, true, true, true, true, true, true, true, true, true, true, true, true, true, true, true, true, true, true, true, true, true, true, true, false, false, false, false, false, false, false, false, false, false, false, false, false, false, false, false, false, false, false, false, false, false, false] rfl rfl (by kernel_rfl) (fun _ _ _ h => h) (Or.inr ⟨by rfl, rfl⟩) ?_ ?_
            rotate_left
            · simp only [Act.put, List.setIfInBounds_toArray, List.set_cons_zero, List.set_cons_succ, i64_w, i32_w]
              rfl
            refine pure_ (i := 29) (N := some 144) (v := undef) (a' := ?_) #[true, true, true, true, true, true, true, true, true, true, true, true, true, true, true, true, true, true, true, true, true, true, true, true, true, true, true, true, true, true, false, false, false, false, false, false, false, false, false, false, false, false, false, false, false, false, false, false, false, false, false, false] rfl rfl (by kernel_rfl) (fun _ _ _ h => h) (Or.inr ⟨by rfl, rfl⟩) ?_ ?_
            rotate_left
            · simp only [Act.put, List.setIfInBounds_toArray, List.set_cons_zero, List.set_cons_succ, i64_w, i32_w]
              rfl
            refine pure_ (i := 30) (N := some 145) (v := ?_) (a' := ?_) #[true, true, true, true, true, true, true, true, true, true, true, true, true, true, true, true, true, true, true, true, true, true, true, true, true, true, true, true, true, true, true, false, false, false, false, false, false, false, false, false, false, false, false, false, false, false, false, false, false, false, false, false] rfl rfl (by kernel_rfl) (fun _ _ _ h => h) (Or.inl ⟨by rfl, ?_⟩) ?_ ?_
            rotate_left
            · intro w'
              go_simp
              with_reducible rfl
            rotate_left
            · simp only [Act.put, List.setIfInBounds_toArray, List.set_cons_zero, List.set_cons_succ, i64_w, i32_w]
              rfl
            refine pure_ (i := 31) (N := some 146) (v := ?_) (a' := ?_) #[true, true, true, true, true, true, true, true, true, true, true, true, true, true, true, true, true, true, true, true, true, true, true, true, true, true, true, true, true, true, true, true, false, false, false, false, false, false, false, false, false, false, false, false, false, false, false, false, false, false, false, false] rfl rfl (by kernel_rfl) (fun _ _ _ h => h) (Or.inl ⟨by rfl, ?_⟩) ?_ ?_
            rotate_left
            · intro w'
              go_simp
              with_reducible rfl
            rotate_left
            · simp only [Act.put, List.setIfInBounds_toArray, List.set_cons_zero, List.set_cons_succ, i64_w, i32_w]
              rfl
            refine pure_ (i := 32) (N := some 147) (v := undef) (a' := ?_) #[true, true, true, true, true, true, true, true, true, true, true, true, true, true, true, true, true, true, true, true, true, true, true, true, true, true, true, true, true, true, true, true, true, false, false, false, false, false, false, false, false, false, false, false, false, false, false, false, false, false, false, false] rfl rfl (by kernel_rfl) (fun _ _ _ h => h) (Or.inr ⟨by rfl, rfl⟩) ?_ ?_
            rotate_left
            · simp only [Act.put, List.setIfInBounds_toArray, List.set_cons_zero, List.set_cons_succ, i64_w, i32_w]
              rfl
            refine pure_ (i := 33) (N := some 148) (v := undef) (a' := ?_) #[true, true, true, true, true, true, true, true, true, true, true, true, true, true, true, true, true, true, true, true, true, true, true, true, true, true, true, true, true, true, true, true, true, true, false, false, false, false, false, false, false, false, false, false, false, false, false, false, false, false, false, false] rfl rfl (by kernel_rfl) (fun _ _ _ h => h) (Or.inr ⟨by rfl, rfl⟩) ?_ ?_
            rotate_left
            · simp only [Act.put, List.setIfInBounds_toArray, List.set_cons_zero, List.set_cons_succ, i64_w, i32_w]
              rfl
            refine pure_ (i := 34) (N := some 149) (v := undef) (a' := ?_) #[true, true, true, true, true, true, true, true, true, true, true, true, true, true, true, true, true, true, true, true, true, true, true, true, true, true, true, true, true, true, true, true, true, true, true, false, false, false, false, false, false, false, false, false, false, false, false, false, false, false, false, false] rfl rfl (by kernel_rfl) (fun _ _ _ h => h) (Or.inr ⟨by rfl, rfl⟩) ?_ ?_
            rotate_left
            · simp only [Act.put, List.setIfInBounds_toArray, List.set_cons_zero, List.set_cons_succ, i64_w, i32_w]
              rfl
            refine pure_ (i := 35) (N := some 150) (v := ?_) (a' := ?_) #[true, true, true, true, true, true, true, true, true, true, true, true, true, true, true, true, true, true, true, true, true, true, true, true, true, true, true, true, true, true, true, true, true, true, true, true, false, false, false, false, false, false, false, false, false, false, false, false, false, false, false, false] rfl rfl (by kernel_rfl) (fun _ _ _ h => h) (Or.inl ⟨by rfl, ?_⟩) ?_ ?_
            rotate_left
            · intro w'
              go_simp
              with_reducible rfl
            rotate_left
            · simp only [Act.put, List.setIfInBounds_toArray, List.set_cons_zero, List.set_cons_succ, i64_w, i32_w]
              rfl
            refine pure_ (i := 36) (N := some 151) (v := ?_) (a' := ?_) #[true, true, true, true, true, true, true, true, true, true, true, true, true, true, true, true, true, true, true, true, true, true, true, true, true, true, true, true, true, true, true, true, true, true, true, true, true, false, false, false, false, false, false, false, false, false, false, false, false, false, false, false] rfl rfl (by kernel_rfl) (fun _ _ _ h => h) (Or.inl ⟨by rfl, ?_⟩) ?_ ?_
            rotate_left
            · intro w'
              go_simp
              with_reducible rfl
            rotate_left
            · simp only [Act.put, List.setIfInBounds_toArray, List.set_cons_zero, List.set_cons_succ, i64_w, i32_w]
              rfl
            refine pure_ (i := 37) (N := some 152) (v := ?_) (a' := ?_) #[true, true, true, true, true, true, true, true, true, true, true, true, true, true, true, true, true, true, true, true, true, true, true, true, true, true, true, true, true, true, true, true, true, true, true, true, true, true, false, false, false, false, false, false, false, false, false, false, false, false, false, false] rfl rfl (by kernel_rfl) (fun _ _ _ h => h) (Or.inl ⟨by rfl, ?_⟩) ?_ ?_
            rotate_left
            · intro w'
              go_simp
              with_reducible rfl
            rotate_left
            · simp only [Act.put, List.setIfInBounds_toArray, List.set_cons_zero, List.set_cons_succ, i64_w, i32_w]
              rfl
            refine pure_ (i := 38) (N := some 153) (v := ?_) (a' := ?_) #[true, true, true, true, true, true, true, true, true, true, true, true, true, true, true, true, true, true, true, true, true, true, true, true, true, true, true, true, true, true, true, true, true, true, true, true, true, true, true, false, false, false, false, false, false, false, false, false, false, false, false, false] rfl rfl (by kernel_rfl) (fun _ _ _ h => h) (Or.inl ⟨by rfl, ?_⟩) ?_ ?_
            rotate_left
            · intro w'
              go_simp
              with_reducible rfl
            rotate_left
            · simp only [Act.put, List.setIfInBounds_toArray, List.set_cons_zero, List.set_cons_succ, i64_w, i32_w]
              rfl
            refine pure_ (i := 39) (N := some 154) (v := ?_) (a' := ?_) #[true, true, true, true, true, true, true, true, true, true, true, true, true, true, true, true, true, true, true, true, true, true, true, true, true, true, true, true, true, true, true, true, true, true, true, true, true, true, true, true, false, false, false, false, false, false, false, false, false, false, false, false] rfl rfl (by kernel_rfl) (fun _ _ _ h => h) (Or.inl ⟨by rfl, ?_⟩) ?_ ?_
            rotate_left
            · intro w'
              go_simp
              with_reducible rfl
            rotate_left
            · simp only [Act.put, List.setIfInBounds_toArray, List.set_cons_zero, List.set_cons_succ, i64_w, i32_w]
              rfl
            refine pure_ (i := 42) (N := some 157) (v := ?_) (a' := ?_) #[true, true, true, true, true, true, true, true, true, true, true, true, true, true, true, true, true, true, true, true, true, true, true, true, true, true, true, true, true, true, true, true, true, true, true, true, true, true, true, true, false, false, true, false, false, false, false, false, false, false, false, false] rfl rfl (by kernel_rfl) (fun _ _ _ h => h) (Or.inl ⟨by rfl, ?_⟩) ?_ ?_
            rotate_left
            · intro w'
              go_simp
              with_reducible rfl
            rotate_left
            · simp only [Act.put, List.setIfInBounds_toArray, List.set_cons_zero, List.set_cons_succ, i64_w, i32_w]
              rfl
            refine take_ (i := 41) (N := some 156) (v := ?_) (a' := ?_) #[true, true, true, true, true, true, true, true, true, true, true, true, true, true, true, true, true, true, true, true, true, true, true, true, true, true, true, true, true, true, true, true, true, true, true, true, true, true, true, true, false, true, true, false, false, false, false, false, false, false, false, false] rfl rfl (by kernel_rfl) (fun _ _ _ h => h) (Or.inl ⟨by rfl, ?_⟩) hHeld ?_ ?_
            rotate_left
            · rintro w' ⟨s0, s1, s2, s3⟩
              refine row_yields 27 (.tmp 8) ?_ gx ?_ 27 (setArr X) (0, 0) _ s1.hd Try.underlying27 rfl (by rw [setArr_size, HXl.out] <;> exact info27)
              · rfl
              · rfl
            rotate_left
            · simp only [Act.put, List.setIfInBounds_toArray, List.set_cons_zero, List.set_cons_succ, i64_w, i32_w]
              rfl
            refine one_ (i := 40) (N := some 155) #[true, true, true, true, true, true, true, true, true, true, true, true, true, true, true, true, true, true, true, true, true, true, true, true, true, true, true, true, true, true, true, true, true, true, true, true, true, true, true, true, true, true, true, false, false, false, false, false, false, false, false, false] rfl rfl (by kernel_rfl) (by decide) (fun K hK => ?_)
            refine goes_ Try.func19 (by kernel_rfl) rfl #[ptr gd] (by rfl) rfl rfl (by simp only [List.map_toArray, List.map_cons, List.map_nil]; rfl) ?_
            with_reducible refine (hDB.out _ hHeld.2.2.1).mono ?_
            rintro e w66 ⟨rfl, hb⟩
            refine ⟨_, rfl, ?_⟩
            refine hK.out _ _ ⟨(below_step hHeld.1 hb), (hHeld.2.1.keep hb), (hHeld.2.2.1.keep hb), (Kd.R_below hHeld.2.2.2 hb)⟩ (fun hHeld => ?_)
            clear hK K
            refine norm_ (a' := ?_) ?_ ?_
            rotate_left
            · show Act.put _ (some 155) _ = _
              simp only [Act.put, List.setIfInBounds_toArray, List.set_cons_zero, List.set_cons_succ, i64_w, i32_w]
              rfl
            refine one_ (i := 43) (N := some 158) #[true, true, true, true, true, true, true, true, true, true, true, true, true, true, true, true, true, true, true, true, true, true, true, true, true, true, true, true, true, true, true, true, true, true, true, true, true, true, true, true, true, true, true, true, false, false, false, false, false, false, false, false] rfl rfl (by kernel_rfl) (by decide) (fun K hK => ?_)
            refine goes_ Try.func30 (by kernel_rfl) rfl #[.agg (setArr X), .int .i64 (n : Int)] (by rfl) rfl rfl (by simp only [List.map_toArray, List.map_cons, List.map_nil]; rfl) ?_
            with_reducible refine (hSB.out _).mono ?_
            rintro e w67 ⟨rfl, hb⟩
            refine ⟨_, rfl, ?_⟩
            refine hK.out _ _ ⟨(below_step hHeld.1 hb), (hHeld.2.1.keep hb), (hHeld.2.2.1.keep hb), (Kd.R_below hHeld.2.2.2 hb)⟩ (fun hHeld => ?_)
            clear hK K
            refine norm_ (a' := ?_) ?_ ?_
            rotate_left
            · show Act.put _ (some 158) _ = _
              simp only [Act.put, List.setIfInBounds_toArray, List.set_cons_zero, List.set_cons_succ, i64_w, i32_w]
              rfl
            refine pure_ (i := 44) (N := some 159) (v := ?_) (a' := ?_) #[true, true, true, true, true, true, true, true, true, true, true, true, true, true, true, true, true, true, true, true, true, true, true, true, true, true, true, true, true, true, true, true, true, true, true, true, true, true, true, true, true, true, true, true, true, false, false, false, false, false, false, false] rfl rfl (by kernel_rfl) (fun _ _ _ h => h) (Or.inl ⟨by rfl, ?_⟩) ?_ ?_
            rotate_left
            · intro w'
              go_simp
              with_reducible rfl
            rotate_left
            · simp only [Act.put, List.setIfInBounds_toArray, List.set_cons_zero, List.set_cons_succ, i64_w, i32_w]
              rfl
            refine pure_ (i := 45) (N := some 160) (v := ?_) (a' := ?_) #[true, true, true, true, true, true, true, true, true, true, true, true, true, true, true, true, true, true, true, true, true, true, true, true, true, true, true, true, true, true, true, true, true, true, true, true, true, true, true, true, true, true, true, true, true, true, false, false, false, false, false, false] rfl rfl (by kernel_rfl) (fun _ _ _ h => h) (Or.inl ⟨by rfl, ?_⟩) ?_ ?_
            rotate_left
            · intro w'
              go_simp
              with_reducible rfl
            rotate_left
            · simp only [Act.put, List.setIfInBounds_toArray, List.set_cons_zero, List.set_cons_succ, i64_w, i32_w]
              rfl
            refine pure_ (i := 46) (N := some 161) (v := ?_) (a' := ?_) #[true, true, true, true, true, true, true, true, true, true, true, true, true, true, true, true, true, true, true, true, true, true, true, true, true, true, true, true, true, true, true, true, true, true, true, true, true, true, true, true, true, true, true, true, true, true, true, false, false, false, false, false] rfl rfl (by kernel_rfl) (fun _ _ _ h => h) (Or.inl ⟨by rfl, ?_⟩) ?_ ?_
            rotate_left
            · intro w'
              go_simp
              with_reducible rfl
            rotate_left
            · simp only [Act.put, List.setIfInBounds_toArray, List.set_cons_zero, List.set_cons_succ, i64_w, i32_w]
              rfl
            refine pure_ (i := 47) (N := some 162) (v := ?_) (a' := ?_) #[true, true, true, true, true, true, true, true, true, true, true, true, true, true, true, true, true, true, true, true, true, true, true, true, true, true, true, true, true, true, true, true, true, true, true, true, true, true, true, true, true, true, true, true, true, true, true, true, false, false, false, false] rfl rfl (by kernel_rfl) (fun _ _ _ h => h) (Or.inl ⟨by rfl, ?_⟩) ?_ ?_
            rotate_left
            · intro w'
              go_simp
              with_reducible rfl
            rotate_left
            · simp only [Act.put, List.setIfInBounds_toArray, List.set_cons_zero, List.set_cons_succ, i64_w, i32_w]
              rfl
            refine pure_ (i := 49) (N := some 164) (v := ?_) (a' := ?_) #[true, true, true, true, true, true, true, true, true, true, true, true, true, true, true, true, true, true, true, true, true, true, true, true, true, true, true, true, true, true, true, true, true, true, true, true, true, true, true, true, true, true, true, true, true, true, true, true, false, true, false, false] rfl rfl (by kernel_rfl) (fun _ _ _ h => h) (Or.inl ⟨by rfl, ?_⟩) ?_ ?_
            rotate_left
            · intro w'
              go_simp
              with_reducible rfl
            rotate_left
            · simp only [Act.put, List.setIfInBounds_toArray, List.set_cons_zero, List.set_cons_succ, i64_w, i32_w]
              rfl
            refine one_ (i := 48) (N := some 163) #[true, true, true, true, true, true, true, true, true, true, true, true, true, true, true, true, true, true, true, true, true, true, true, true, true, true, true, true, true, true, true, true, true, true, true, true, true, true, true, true, true, true, true, true, true, true, true, true, true, true, false, false] rfl rfl (by kernel_rfl) (by decide) (fun K hK => ?_)
            refine goes_ Try.func22 (by kernel_rfl) rfl #[ptr gd] (by rfl) rfl rfl (by simp only [List.map_toArray, List.map_cons, List.map_nil]; rfl) ?_
            with_reducible refine (dirt_blocks gd n x _ hHeld.2.2.1).mono ?_
            rintro e w68 ⟨rfl, hb⟩
            refine ⟨_, rfl, ?_⟩
            refine hK.out _ _ ⟨(below_step hHeld.1 hb), (hHeld.2.1.keep hb), (hHeld.2.2.1.keep hb), (Kd.R_below hHeld.2.2.2 hb)⟩ (fun hHeld => ?_)
            clear hK K
            refine norm_ (a' := ?_) ?_ ?_
            rotate_left
            · show Act.put _ (some 163) _ = _
              simp only [Act.put, List.setIfInBounds_toArray, List.set_cons_zero, List.set_cons_succ, i64_w, i32_w]
              rfl
            refine pure_ (i := 50) (N := some 165) (v := ?_) (a' := ?_) #[true, true, true, true, true, true, true, true, true, true, true, true, true, true, true, true, true, true, true, true, true, true, true, true, true, true, true, true, true, true, true, true, true, true, true, true, true, true, true, true, true, true, true, true, true, true, true, true, true, true, true, false] rfl rfl (by kernel_rfl) (fun _ _ _ h => h) (Or.inl ⟨by rfl, ?_⟩) ?_ ?_
            rotate_left
            · intro w'
              go_simp
              with_reducible rfl
            rotate_left
            · simp only [Act.put, List.setIfInBounds_toArray, List.set_cons_zero, List.set_cons_succ, i64_w, i32_w]
              rfl
            refine pure_ (i := 51) (N := some 166) (v := ?_) (a' := ?_) #[true, true, true, true, true, true, true, true, true, true, true, true, true, true, true, true, true, true, true, true, true, true, true, true, true, true, true, true, true, true, true, true, true, true, true, true, true, true, true, true, true, true, true, true, true, true, true, true, true, true, true, true] rfl rfl (by kernel_rfl) (fun _ _ _ h => h) (Or.inl ⟨by rfl, ?_⟩) ?_ ?_
            rotate_left
            · intro w'
              go_simp
              with_reducible rfl
            rotate_left
            · simp only [Act.put, List.setIfInBounds_toArray, List.set_cons_zero, List.set_cons_succ, i64_w, i32_w]
              rfl
            refine done_ (by kernel_rfl) ?_
            replace HS := Aside0.mk hHeld.1
            replace SX := Aside0.mk hHeld.2.1
            replace D := Aside0.mk hHeld.2.2.1
            replace VA := Aside0.mk hHeld.2.2.2
            clear hHeld
            replace HB := Aside0.mk (below_step HB.out HS.out)
            replace HK := Aside0.mk ((HK.out.keep HS.out).top)
            replace RR := Aside0.mk (RR.out.keep HS.out)
            clear HS
            clear VA
            clear hwn
            go_wp2_with fail
            have LTr : Aside0 (gr < w68.heap.size) := ⟨RR.out.lt⟩
            skip
            refine calls_abs (fun WQ => Below w.heap.size w WQ ∧ KeptAt WQ w.heap.size gB (fun k => WQ.heap.size ≤ k) ([]) (LS ++ [T]) ([]) ∧ RunsAt WQ gr gr (spansOf X) ∧ DirtAt WQ gd n x ∧ Blk WQ gx 27 (setArr X) ∧ Kd.C k31 WQ (some ⟨w68.heap.size, 0, none⟩) 1 [⟨0, 9⟩]) ⟨below_step HB.out (by repeat (first | exact Below.refl _ _ | apply below_alloc | refine Below.setCell ?_ (Nat.le_refl _) _ | refine Below.setCell ?_ (by simp) _)), (HK.out.keep (by repeat (first | exact Below.refl _ _ | apply below_alloc | refine Below.setCell ?_ (Nat.le_refl _) _ | refine Below.setCell ?_ (by simp) _))).top, RR.out.keep (by repeat (first | exact Below.refl _ _ | apply below_alloc | refine Below.setCell ?_ (Nat.le_refl _) _ | refine Below.setCell ?_ (by simp) _)), D.out.keep (by repeat (first | exact Below.refl _ _ | apply below_alloc | refine Below.setCell ?_ (Nat.le_refl _) _ | refine Below.setCell ?_ (by simp) _)), SX.out.keep (by repeat (first | exact Below.refl _ _ | apply below_alloc | refine Below.setCell ?_ (Nat.le_refl _) _ | refine Below.setCell ?_ (by simp) _)), C_lit w68 [⟨0, 9⟩] (by decide) _ rfl⟩ ?_
            rintro w20 ⟨h_HB, h_HK, h_RR, h_D, h_SX, h_C1⟩
            replace HB := Aside0.mk h_HB
            replace HK := Aside0.mk h_HK
            replace RR := Aside0.mk h_RR
            replace D := Aside0.mk h_D
            replace SX := Aside0.mk h_SX
            have C1 := Aside0.mk h_C1
            clear h_HB h_HK h_RR h_D h_SX h_C1
            refine (runs_put_one gr gr X ⟨w68.heap.size, 0, none⟩ 1 0 9 _ HXl.out RR.out (by have := RR.out.lt; omega) C1.out (by have := LTr.out; show w68.heap.size ≠ gr; omega)).mono ?_
            rintro e w21 ⟨zp, rfl, hr, ho⟩
            replace HB := Aside0.mk (below_only HB.out ho GE_RR.out)
            replace HK := Aside0.mk ((HK.out.onlyR ho RR.out).top)
            replace D := Aside0.mk (D.out.onlyR ho RR.out (by decide))
            replace SX := Aside0.mk (SX.out.onlyR ho RR.out (by decide))
            clear ho
            replace RR := Aside0.mk hr
            clear hr
            clear C1 LTr
            clear RR
            go_wp2_with fail
            have HS : Aside0 (Below w21.heap.size w21 w21) := ⟨Below.refl _ _⟩
            refine start_ (n := 5) (S := fun w' => Below w21.heap.size w21 w' ∧ Blk w' gx 27 (setArr X) ∧ DirtAt w' gd n x) (ds := []) #[false, false, false, false, false] (by kernel_rfl) rfl rfl ⟨(below_drew1 HS.out), (SX.out.keep (below_drew1 (Below.refl _ _))), (D.out.keep (below_drew1 (Below.refl _ _)))⟩ (fun hHeld => ?_)
            refine pure_ (i := 0) (N := some 171) (v := ?_) (a' := ?_) #[true, false, false, false, false] rfl rfl (by kernel_rfl) (fun _ _ _ h => h) (Or.inl ⟨by rfl, ?_⟩) ?_ ?_
            rotate_left
            · intro w'
              go_simp
              with_reducible rfl
            rotate_left
            · simp only [Act.put, List.setIfInBounds_toArray, List.set_cons_zero, List.set_cons_succ, i64_w, i32_w]
              rfl
            refine take_ (i := 2) (N := some 173) (v := ?_) (a' := ?_) #[true, false, true, false, false] rfl rfl (by kernel_rfl) (fun _ _ _ h => h) (Or.inl ⟨by rfl, ?_⟩) hHeld ?_ ?_
            rotate_left
            · rintro w' ⟨s0, s1, s2⟩
              refine row_yields 27 (.tmp 8) ?_ gx ?_ 27 (setArr X) (0, 0) _ s1.hd Try.underlying27 rfl (by rw [setArr_size, HXl.out] <;> exact info27)
              · rfl
              · rfl
            rotate_left
            · simp only [Act.put, List.setIfInBounds_toArray, List.set_cons_zero, List.set_cons_succ, i64_w, i32_w]
              rfl
            refine one_ (i := 1) (N := some 172) #[true, true, true, false, false] rfl rfl (by kernel_rfl) (by decide) (fun K hK => ?_)
            refine goes_ Try.func17 (by kernel_rfl) rfl #[ptr gd] (by rfl) rfl rfl (by simp only [List.map_toArray, List.map_cons, List.map_nil]; rfl) ?_
            with_reducible refine (hDC.out _ hHeld.2.2).mono ?_
            rintro e w70 ⟨rfl, hb⟩
            refine ⟨_, rfl, ?_⟩
            refine hK.out _ _ ⟨(below_step hHeld.1 hb), (hHeld.2.1.keep hb), (hHeld.2.2.keep hb)⟩ (fun hHeld => ?_)
            clear hK K
            refine norm_ (a' := ?_) ?_ ?_
            rotate_left
            · show Act.put _ (some 172) _ = _
              simp only [Act.put, List.setIfInBounds_toArray, List.set_cons_zero, List.set_cons_succ, i64_w, i32_w]
              rfl
            refine one_ (i := 3) (N := some 174) #[true, true, true, true, false] rfl rfl (by kernel_rfl) (by decide) (fun K hK => ?_)
            refine goes_ Try.func24 (by kernel_rfl) rfl #[.agg (setArr X)] (by rfl) rfl rfl (by simp only [List.map_toArray, List.map_cons, List.map_nil]; rfl) ?_
            with_reducible refine (set_cnt X cx HXl.out Hcx.out _).mono ?_
            rintro e w71 ⟨rfl, hb⟩
            refine ⟨_, rfl, ?_⟩
            refine hK.out _ _ ⟨(below_step hHeld.1 hb), (hHeld.2.1.keep hb), (hHeld.2.2.keep hb)⟩ (fun hHeld => ?_)
            clear hK K
            refine norm_ (a' := ?_) ?_ ?_
            rotate_left
            · show Act.put _ (some 174) _ = _
              simp only [Act.put, List.setIfInBounds_toArray, List.set_cons_zero, List.set_cons_succ, i64_w, i32_w]
              rfl
            refine pure_ (i := 4) (N := some 175) (v := ?_) (a' := ?_) #[true, true, true, true, true] rfl rfl (by kernel_rfl) (fun _ _ _ h => h) (Or.inl ⟨by rfl, ?_⟩) ?_ ?_
            rotate_left
            · intro w'
              go_simp
              with_reducible rfl
            rotate_left
            · simp only [Act.put, List.setIfInBounds_toArray, List.set_cons_zero, List.set_cons_succ, i64_w, i32_w]
              rfl
            refine done_ (by kernel_rfl) ?_
            replace HS := Aside0.mk hHeld.1
            replace SX := Aside0.mk hHeld.2.1
            replace D := Aside0.mk hHeld.2.2
            clear hHeld
            replace HB := Aside0.mk (below_step HB.out HS.out)
            replace HK := Aside0.mk ((HK.out.keep HS.out).top)
            clear HS
            go_wp2_with fail
            go_roundg kk
            case measure => omega
            case rel => exact ⟨i + 1, x, LS ++ [T], by omega, by go_num, Hx, Hh, ⟨by rw [List.length_append, HLS.out.1]; rfl, fun y hy => by rcases List.mem_append.1 hy with hy | hy; exact HLS.out.2 y hy; rw [List.mem_singleton.1 hy]; exact hlen.out⟩, HB, D, ⟨by rw [← HX.out]; exact SX.out⟩, HK⟩
          · rcases Int.lt_or_le ask (n : Int) with hf1 | hf1
            · as_aux_lemma =>
              obtain ⟨fn, rfl⟩ : ∃ z : Nat, ask = (z : Int) := ⟨ask.toNat, by omega⟩
              have hin1 : (0 : Int) ≤ (fn : Int) := by omega
              have hin2 : (fn : Int) < (n : Int) := by omega
              have hin3 : (fn : Int) < 64 := by have := Hn64.out; omega
              have hHs : (decide (0 ≤ (fn : Int)) && decide ((fn : Int) < (n : Int)) && x.testBit ((fn : Int)).toNat) = X.getD fn false := by rw [decide_eq_true hin1, decide_eq_true hin2, Int.toNat_natCast, HX.out, bitsS_get n x fn (by omega), decide_eq_true (show fn < n by omega)]; simp
              have Q0 := Aside0.mk (SX.out.cell (setArr_get X fn (by rw [HXl.out]; omega)))
              obtain ⟨bq, hhb⟩ : ∃ b, b = X.getD fn false := ⟨_, rfl⟩
              rw [← hhb] at Q0 hHs
              replace hHs := Aside0.mk hHs
              clear hhb
              have hSB : Aside0 (∀ W : World, Calls Try.prog 30 #[.agg (setArr X), .int .i64 (n : Int)] W fun e w' => e = .returned (.string (strOfNums (bytesD n x))) ∧ Below W.heap.size W w') := ⟨fun W => bytes_ref n x Hn64.out Hh.out X HX.out W⟩
              have hDB : Aside0 (∀ W : World, DirtAt W gd n x → Calls Try.prog 19 #[ptr gd] W fun e w' => e = .returned (.string (strOfNums (bytesD n x))) ∧ Below W.heap.size W w') := ⟨fun W h => dirt_bytes gd n x Hn64.out Hx.out W h⟩
              generalize strOfNums (bytesD n x) = SB at *
              have hDC : Aside0 (∀ W : World, DirtAt W gd n x → Calls Try.prog 17 #[ptr gd] W fun e w' => e = .returned (.int .i64 (cx : Int)) ∧ Below W.heap.size W w') := ⟨fun W h => by rw [hcx.out]; exact dirt_count gd n x Hx.out W h⟩
              have hDH : Aside0 (∀ W : World, DirtAt W gd n x → Calls Try.prog 20 #[ptr gd, .int .i64 (fn : Int)] W fun e w' => e = .returned (.bool bq) ∧ Below W.heap.size W w') := ⟨fun W h => by have h2 := dirt_has gd n x Hn64.out Hx.out (fn : Int) W h; rw [hHs.out] at h2; exact h2⟩
              go_wp2_with fail
              have HS : Aside0 (Below w19.heap.size w19 w19) := ⟨Below.refl _ _⟩
              refine start_ (n := 52) (S := fun w' => Below w19.heap.size w19 w' ∧ Blk w' gx 27 (setArr X) ∧ DirtAt w' gd n x ∧ Kd.R k31 31 w' w.heap.size (fun _ => True) (.slice A2 (T).length c2) (T) ∧ w'.cell? ⟨gx, fn, none⟩ = some (.bool bq)) (ds := []) #[false, false, false, false, false, false, false, false, false, false, false, false, false, false, false, false, false, false, false, false, false, false, false, false, false, false, false, false, false, false, false, false, false, false, false, false, false, false, false, false, false, false, false, false, false, false, false, false, false, false, false, false] (by kernel_rfl) rfl rfl ⟨(below_drew1 HS.out), (SX.out.keep (below_drew1 (Below.refl _ _))), (D.out.keep (below_drew1 (Below.refl _ _))), (Kd.R_below VA.out (below_drew1 (Below.refl _ _))), (keep (below_drew1 (Below.refl _ _)) Q0.out)⟩ (fun hHeld => ?_)
              refine pure_ (i := 0) (N := some 115) (v := ?_) (a' := ?_) #[true, false, false, false, false, false, false, false, false, false, false, false, false, false, false, false, false, false, false, false, false, false, false, false, false, false, false, false, false, false, false, false, false, false, false, false, false, false, false, false, false, false, false, false, false, false, false, false, false, false, false, false] rfl rfl (by kernel_rfl) (fun _ _ _ h => h) (Or.inl ⟨by rfl, ?_⟩) ?_ ?_
              rotate_left
              · intro w'
                go_simp
                with_reducible rfl
              rotate_left
              · simp only [Act.put, List.setIfInBounds_toArray, List.set_cons_zero, List.set_cons_succ, i64_w, i32_w]
                rfl
              refine pure_ (i := 3) (N := some 118) (v := ?_) (a' := ?_) #[true, false, false, true, false, false, false, false, false, false, false, false, false, false, false, false, false, false, false, false, false, false, false, false, false, false, false, false, false, false, false, false, false, false, false, false, false, false, false, false, false, false, false, false, false, false, false, false, false, false, false, false] rfl rfl (by kernel_rfl) (fun _ _ _ h => h) (Or.inl ⟨by rfl, ?_⟩) ?_ ?_
              rotate_left
              · intro w'
                go_simp
                with_reducible rfl
              rotate_left
              · simp only [Act.put, List.setIfInBounds_toArray, List.set_cons_zero, List.set_cons_succ, i64_w, i32_w]
                rfl
              refine take_ (i := 1) (N := some 116) (v := ?_) (a' := ?_) #[true, true, false, true, false, false, false, false, false, false, false, false, false, false, false, false, false, false, false, false, false, false, false, false, false, false, false, false, false, false, false, false, false, false, false, false, false, false, false, false, false, false, false, false, false, false, false, false, false, false, false, false] rfl rfl (by kernel_rfl) (fun _ _ _ h => h) (Or.inl ⟨by rfl, ?_⟩) hHeld ?_ ?_
              rotate_left
              · rintro w' ⟨s0, s1, s2, s3, s4⟩
                refine row_yields 27 (.tmp 8) ?_ gx ?_ 27 (setArr X) (0, 0) _ s1.hd Try.underlying27 rfl (by rw [setArr_size, HXl.out] <;> exact info27)
                · rfl
                · rfl
              rotate_left
              · simp only [Act.put, List.setIfInBounds_toArray, List.set_cons_zero, List.set_cons_succ, i64_w, i32_w]
                rfl
              refine one_ (i := 2) (N := some 117) #[true, true, true, true, false, false, false, false, false, false, false, false, false, false, false, false, false, false, false, false, false, false, false, false, false, false, false, false, false, false, false, false, false, false, false, false, false, false, false, false, false, false, false, false, false, false, false, false, false, false, false, false] rfl rfl (by kernel_rfl) (by decide) (fun K hK => ?_)
              refine goes_ Try.func24 (by kernel_rfl) rfl #[.agg (setArr X)] (by rfl) rfl rfl (by simp only [List.map_toArray, List.map_cons, List.map_nil]; rfl) ?_
              with_reducible refine (set_cnt X cx HXl.out Hcx.out _).mono ?_
              rintro e w60 ⟨rfl, hb⟩
              refine ⟨_, rfl, ?_⟩
              refine hK.out _ _ ⟨(below_step hHeld.1 hb), (hHeld.2.1.keep hb), (hHeld.2.2.1.keep hb), (Kd.R_below hHeld.2.2.2.1 hb), (keep hb hHeld.2.2.2.2)⟩ (fun hHeld => ?_)
              clear hK K
              refine norm_ (a' := ?_) ?_ ?_
              rotate_left
              · show Act.put _ (some 117) _ = _
                simp only [Act.put, List.setIfInBounds_toArray, List.set_cons_zero, List.set_cons_succ, i64_w, i32_w]
                rfl
              refine pure_ (i := 4) (N := some 119) (v := ?_) (a' := ?_) #[true, true, true, true, true, false, false, false, false, false, false, false, false, false, false, false, false, false, false, false, false, false, false, false, false, false, false, false, false, false, false, false, false, false, false, false, false, false, false, false, false, false, false, false, false, false, false, false, false, false, false, false] rfl rfl (by kernel_rfl) (fun _ _ _ h => h) (Or.inl ⟨by rfl, ?_⟩) ?_ ?_
              rotate_left
              · intro w'
                go_simp
                with_reducible rfl
              rotate_left
              · simp only [Act.put, List.setIfInBounds_toArray, List.set_cons_zero, List.set_cons_succ, i64_w, i32_w]
                rfl
              refine pure_ (i := 5) (N := some 120) (v := ?_) (a' := ?_) #[true, true, true, true, true, true, false, false, false, false, false, false, false, false, false, false, false, false, false, false, false, false, false, false, false, false, false, false, false, false, false, false, false, false, false, false, false, false, false, false, false, false, false, false, false, false, false, false, false, false, false, false] rfl rfl (by kernel_rfl) (fun _ _ _ h => h) (Or.inl ⟨by rfl, ?_⟩) ?_ ?_
              rotate_left
              · intro w'
                go_simp
                with_reducible rfl
              rotate_left
              · simp only [Act.put, List.setIfInBounds_toArray, List.set_cons_zero, List.set_cons_succ, i64_w, i32_w]
                rfl
              refine pure_ (i := 6) (N := some 121) (v := ?_) (a' := ?_) #[true, true, true, true, true, true, true, false, false, false, false, false, false, false, false, false, false, false, false, false, false, false, false, false, false, false, false, false, false, false, false, false, false, false, false, false, false, false, false, false, false, false, false, false, false, false, false, false, false, false, false, false] rfl rfl (by kernel_rfl) (fun _ _ _ h => h) (Or.inl ⟨by rfl, ?_⟩) ?_ ?_
              rotate_left
              · intro w'
                go_simp
                with_reducible rfl
              rotate_left
              · simp only [Act.put, List.setIfInBounds_toArray, List.set_cons_zero, List.set_cons_succ, i64_w, i32_w]
                rfl
              refine pure_ (i := 7) (N := some 122) (v := ?_) (a' := ?_) #[true, true, true, true, true, true, true, true, false, false, false, false, false, false, false, false, false, false, false, false, false, false, false, false, false, false, false, false, false, false, false, false, false, false, false, false, false, false, false, false, false, false, false, false, false, false, false, false, false, false, false, false] rfl rfl (by kernel_rfl) (fun _ _ _ h => h) (Or.inl ⟨by rfl, ?_⟩) ?_ ?_
              rotate_left
              · intro w'
                go_simp
                with_reducible rfl
              rotate_left
              · simp only [Act.put, List.setIfInBounds_toArray, List.set_cons_zero, List.set_cons_succ, i64_w, i32_w]
                rfl
              refine take_ (i := 8) (N := some 123) (v := ?_) (a' := ?_) #[true, true, true, true, true, true, true, true, true, false, false, false, false, false, false, false, false, false, false, false, false, false, false, false, false, false, false, false, false, false, false, false, false, false, false, false, false, false, false, false, false, false, false, false, false, false, false, false, false, false, false, false] rfl rfl (by kernel_rfl) (fun _ _ _ h => h) (Or.inl ⟨by rfl, ?_⟩) hHeld ?_ ?_
              rotate_left
              · rintro w' ⟨s0, s1, s2, s3, s4⟩
                refine row_yields 27 (.tmp 8) ?_ gx ?_ 27 (setArr X) (0, 0) _ s1.hd Try.underlying27 rfl (by rw [setArr_size, HXl.out] <;> exact info27)
                · rfl
                · rfl
              rotate_left
              · simp only [Act.put, List.setIfInBounds_toArray, List.set_cons_zero, List.set_cons_succ, i64_w, i32_w]
                rfl
              refine one_ (i := 9) (N := some 124) #[true, true, true, true, true, true, true, true, true, true, false, false, false, false, false, false, false, false, false, false, false, false, false, false, false, false, false, false, false, false, false, false, false, false, false, false, false, false, false, false, false, false, false, false, false, false, false, false, false, false, false, false] rfl rfl (by kernel_rfl) (by decide) (fun K hK => ?_)
              refine goes_ Try.func29 (by kernel_rfl) rfl #[.agg (setArr X)] (by rfl) rfl rfl (by simp only [List.map_toArray, List.map_cons, List.map_nil]; rfl) ?_
              with_reducible refine (set_spans X HXl.out _).mono ?_
              rintro e w61 ⟨vs, rfl, hos, hb⟩
              refine ⟨_, rfl, ?_⟩
              rw [← HTs.out] at hos
              obtain ⟨As, cs, hse, hcs, hCs, _⟩ := hos.reads
              subst hse
              refine hK.out _ _ ⟨(below_step hHeld.1 hb), (hHeld.2.1.keep hb), (hHeld.2.2.1.keep hb), (Kd.R_below hHeld.2.2.2.1 hb), (keep hb hHeld.2.2.2.2)⟩ (fun hHeld => ?_)
              clear hK K
              refine norm_ (a' := ?_) ?_ ?_
              rotate_left
              · show Act.put _ (some 124) _ = _
                simp only [Act.put, List.setIfInBounds_toArray, List.set_cons_zero, List.set_cons_succ, i64_w, i32_w]
                rfl
              refine one_ (i := 10) (N := some 125) #[true, true, true, true, true, true, true, true, true, true, true, false, false, false, false, false, false, false, false, false, false, false, false, false, false, false, false, false, false, false, false, false, false, false, false, false, false, false, false, false, false, false, false, false, false, false, false, false, false, false, false, false] rfl rfl (by kernel_rfl) (by decide) (fun K hK => ?_)
              refine goes_ Try.func28 (by kernel_rfl) rfl #[.slice A2 T.length c2, .slice As T.length cs] (by rfl) rfl rfl (by simp only [List.map_toArray, List.map_cons, List.map_nil]; rfl) ?_
              with_reducible refine (same_C A2 c2 As cs T (R_len' hHeld.2.2.2.1) hcs (by have := hlen.out; omega) _ (C_of_R hHeld.2.2.2.1).1 hCs).mono ?_
              rintro e w62 ⟨rfl, hb⟩
              refine ⟨_, rfl, ?_⟩
              clear hCs hcs hos
              refine hK.out _ _ ⟨(below_step hHeld.1 hb), (hHeld.2.1.keep hb), (hHeld.2.2.1.keep hb), (Kd.R_below hHeld.2.2.2.1 hb), (keep hb hHeld.2.2.2.2)⟩ (fun hHeld => ?_)
              clear hK K
              refine norm_ (a' := ?_) ?_ ?_
              rotate_left
              · show Act.put _ (some 125) _ = _
                simp only [Act.put, List.setIfInBounds_toArray, List.set_cons_zero, List.set_cons_succ, i64_w, i32_w]
                rfl
              refine pure_ (i := 11) (N := some 126) (v := ?_) (a' := ?_) #[true, true, true, true, true, true, true, true, true, true, true, true, false, false, false, false, false, false, false, false, false, false, false, false, false, false, false, false, false, false, false, false, false, false, false, false, false, false, false, false, false, false, false, false, false, false, false, false, false, false, false, false] rfl rfl (by kernel_rfl) (fun _ _ _ h => h) (Or.inl ⟨by rfl, ?_⟩) ?_ ?_
              rotate_left
              · intro w'
                go_simp
                with_reducible rfl
              rotate_left
              · simp only [Act.put, List.setIfInBounds_toArray, List.set_cons_zero, List.set_cons_succ, i64_w, i32_w]
                rfl
              refine pure_ (i := 12) (N := some 127) (v := ?_) (a' := ?_) #[true, true, true, true, true, true, true, true, true, true, true, true, true, false, false, false, false, false, false, false, false, false, false, false, false, false, false, false, false, false, false, false, false, false, false, false, false, false, false, false, false, false, false, false, false, false, false, false, false, false, false, false] rfl rfl (by kernel_rfl) (fun _ _ _ h => h) (Or.inl ⟨by rfl, ?_⟩) ?_ ?_
              rotate_left
              · intro w'
                go_simp
                with_reducible rfl
              rotate_left
              · simp only [Act.put, List.setIfInBounds_toArray, List.set_cons_zero, List.set_cons_succ, i64_w, i32_w]
                rfl
              refine pure_ (i := 13) (N := some 128) (v := ?_) (a' := ?_) #[true, true, true, true, true, true, true, true, true, true, true, true, true, true, false, false, false, false, false, false, false, false, false, false, false, false, false, false, false, false, false, false, false, false, false, false, false, false, false, false, false, false, false, false, false, false, false, false, false, false, false, false] rfl rfl (by kernel_rfl) (fun _ _ _ h => h) (Or.inl ⟨by rfl, ?_⟩) ?_ ?_
              rotate_left
              · intro w'
                go_simp
                with_reducible rfl
              rotate_left
              · simp only [Act.put, List.setIfInBounds_toArray, List.set_cons_zero, List.set_cons_succ, i64_w, i32_w]
                rfl
              refine pure_ (i := 14) (N := some 129) (v := ?_) (a' := ?_) #[true, true, true, true, true, true, true, true, true, true, true, true, true, true, true, false, false, false, false, false, false, false, false, false, false, false, false, false, false, false, false, false, false, false, false, false, false, false, false, false, false, false, false, false, false, false, false, false, false, false, false, false] rfl rfl (by kernel_rfl) (fun _ _ _ h => h) (Or.inl ⟨by rfl, ?_⟩) ?_ ?_
              rotate_left
              · intro w'
                go_simp
                with_reducible rfl
              rotate_left
              · simp only [Act.put, List.setIfInBounds_toArray, List.set_cons_zero, List.set_cons_succ, i64_w, i32_w]
                rfl
              refine take_ (i := 16) (N := some 131) (v := ?_) (a' := ?_) #[true, true, true, true, true, true, true, true, true, true, true, true, true, true, true, false, true, false, false, false, false, false, false, false, false, false, false, false, false, false, false, false, false, false, false, false, false, false, false, false, false, false, false, false, false, false, false, false, false, false, false, false] rfl rfl (by kernel_rfl) (fun _ _ _ h => h) (Or.inl ⟨by rfl, ?_⟩) hHeld ?_ ?_
              rotate_left
              · rintro w' ⟨s0, s1, s2, s3, s4⟩
                refine row_yields 27 (.tmp 8) ?_ gx ?_ 27 (setArr X) (0, 0) _ s1.hd Try.underlying27 rfl (by rw [setArr_size, HXl.out] <;> exact info27)
                · rfl
                · rfl
              rotate_left
              · simp only [Act.put, List.setIfInBounds_toArray, List.set_cons_zero, List.set_cons_succ, i64_w, i32_w]
                rfl
              refine one_ (i := 15) (N := some 130) #[true, true, true, true, true, true, true, true, true, true, true, true, true, true, true, true, true, false, false, false, false, false, false, false, false, false, false, false, false, false, false, false, false, false, false, false, false, false, false, false, false, false, false, false, false, false, false, false, false, false, false, false] rfl rfl (by kernel_rfl) (by decide) (fun K hK => ?_)
              refine goes_ Try.func17 (by kernel_rfl) rfl #[ptr gd] (by rfl) rfl rfl (by simp only [List.map_toArray, List.map_cons, List.map_nil]; rfl) ?_
              with_reducible refine (hDC.out _ hHeld.2.2.1).mono ?_
              rintro e w63 ⟨rfl, hb⟩
              refine ⟨_, rfl, ?_⟩
              refine hK.out _ _ ⟨(below_step hHeld.1 hb), (hHeld.2.1.keep hb), (hHeld.2.2.1.keep hb), (Kd.R_below hHeld.2.2.2.1 hb), (keep hb hHeld.2.2.2.2)⟩ (fun hHeld => ?_)
              clear hK K
              refine norm_ (a' := ?_) ?_ ?_
              rotate_left
              · show Act.put _ (some 130) _ = _
                simp only [Act.put, List.setIfInBounds_toArray, List.set_cons_zero, List.set_cons_succ, i64_w, i32_w]
                rfl
              refine one_ (i := 17) (N := some 132) #[true, true, true, true, true, true, true, true, true, true, true, true, true, true, true, true, true, true, false, false, false, false, false, false, false, false, false, false, false, false, false, false, false, false, false, false, false, false, false, false, false, false, false, false, false, false, false, false, false, false, false, false] rfl rfl (by kernel_rfl) (by decide) (fun K hK => ?_)
              refine goes_ Try.func24 (by kernel_rfl) rfl #[.agg (setArr X)] (by rfl) rfl rfl (by simp only [List.map_toArray, List.map_cons, List.map_nil]; rfl) ?_
              with_reducible refine (set_cnt X cx HXl.out Hcx.out _).mono ?_
              rintro e w64 ⟨rfl, hb⟩
              refine ⟨_, rfl, ?_⟩
              refine hK.out _ _ ⟨(below_step hHeld.1 hb), (hHeld.2.1.keep hb), (hHeld.2.2.1.keep hb), (Kd.R_below hHeld.2.2.2.1 hb), (keep hb hHeld.2.2.2.2)⟩ (fun hHeld => ?_)
              clear hK K
              refine norm_ (a' := ?_) ?_ ?_
              rotate_left
              · show Act.put _ (some 132) _ = _
                simp only [Act.put, List.setIfInBounds_toArray, List.set_cons_zero, List.set_cons_succ, i64_w, i32_w]
                rfl
              refine pure_ (i := 18) (N := some 133) (v := ?_) (a' := ?_) #[true, true, true, true, true, true, true, true, true, true, true, true, true, true, true, true, true, true, true, false, false, false, false, false, false, false, false, false, false, false, false, false, false, false, false, false, false, false, false, false, false, false, false, false, false, false, false, false, false, false, false, false] rfl rfl (by kernel_rfl) (fun _ _ _ h => h) (Or.inl ⟨by rfl, ?_⟩) ?_ ?_
              rotate_left
              · intro w'
                go_simp
                with_reducible rfl
              rotate_left
              · simp only [Act.put, List.setIfInBounds_toArray, List.set_cons_zero, List.set_cons_succ, i64_w, i32_w]
                rfl
              refine pure_ (i := 19) (N := some 134) (v := ?_) (a' := ?_) #[true, true, true, true, true, true, true, true, true, true, true, true, true, true, true, true, true, true, true, true, false, false, false, false, false, false, false, false, false, false, false, false, false, false, false, false, false, false, false, false, false, false, false, false, false, false, false, false, false, false, false, false] rfl rfl (by kernel_rfl) (fun _ _ _ h => h) (Or.inl ⟨by rfl, ?_⟩) ?_ ?_
              rotate_left
              · intro w'
                go_simp
                with_reducible rfl
              rotate_left
              · simp only [Act.put, List.setIfInBounds_toArray, List.set_cons_zero, List.set_cons_succ, i64_w, i32_w]
                rfl
              refine pure_ (i := 20) (N := some 135) (v := ?_) (a' := ?_) #[true, true, true, true, true, true, true, true, true, true, true, true, true, true, true, true, true, true, true, true, true, false, false, false, false, false, false, false, false, false, false, false, false, false, false, false, false, false, false, false, false, false, false, false, false, false, false, false, false, false, false, false] rfl rfl (by kernel_rfl) (fun _ _ _ h => h) (Or.inl ⟨by rfl, ?_⟩) ?_ ?_
              rotate_left
              · intro w'
                go_simp
                with_reducible rfl
              rotate_left
              · simp only [Act.put, List.setIfInBounds_toArray, List.set_cons_zero, List.set_cons_succ, i64_w, i32_w]
                rfl
              refine pure_ (i := 21) (N := some 136) (v := ?_) (a' := ?_) #[true, true, true, true, true, true, true, true, true, true, true, true, true, true, true, true, true, true, true, true, true, true, false, false, false, false, false, false, false, false, false, false, false, false, false, false, false, false, false, false, false, false, false, false, false, false, false, false, false, false, false, false] rfl rfl (by kernel_rfl) (fun _ _ _ h => h) (Or.inl ⟨by rfl, ?_⟩) ?_ ?_
              rotate_left
              · intro w'
                go_simp
                with_reducible rfl
              rotate_left
              · simp only [Act.put, List.setIfInBounds_toArray, List.set_cons_zero, List.set_cons_succ, i64_w, i32_w]
                rfl
              refine pure_ (i := 22) (N := some 137) (v := ?_) (a' := ?_) #[true, true, true, true, true, true, true, true, true, true, true, true, true, true, true, true, true, true, true, true, true, true, true, false, false, false, false, false, false, false, false, false, false, false, false, false, false, false, false, false, false, false, false, false, false, false, false, false, false, false, false, false] rfl rfl (by kernel_rfl) (fun _ _ _ h => h) (Or.inl ⟨by rfl, ?_⟩) ?_ ?_
              rotate_left
              · intro w'
                go_simp
                with_reducible rfl
              rotate_left
              · simp only [Act.put, List.setIfInBounds_toArray, List.set_cons_zero, List.set_cons_succ, i64_w, i32_w]
                rfl
              refine pure_ (i := 24) (N := some 139) (v := ?_) (a' := ?_) #[true, true, true, true, true, true, true, true, true, true, true, true, true, true, true, true, true, true, true, true, true, true, true, false, true, false, false, false, false, false, false, false, false, false, false, false, false, false, false, false, false, false, false, false, false, false, false, false, false, false, false, false] rfl rfl (by kernel_rfl) (fun _ _ _ h => h) (Or.inl ⟨by rfl, ?_⟩) ?_ ?_
              rotate_left
              · intro w'
                go_simp
                with_reducible rfl
              rotate_left
              · simp only [Act.put, List.setIfInBounds_toArray, List.set_cons_zero, List.set_cons_succ, i64_w, i32_w]
                rfl
              refine pure_ (i := 25) (N := some 140) (v := ?_) (a' := ?_) #[true, true, true, true, true, true, true, true, true, true, true, true, true, true, true, true, true, true, true, true, true, true, true, false, true, true, false, false, false, false, false, false, false, false, false, false, false, false, false, false, false, false, false, false, false, false, false, false, false, false, false, false] rfl rfl (by kernel_rfl) (fun _ _ _ h => h) (Or.inl ⟨by rfl, ?_⟩) ?_ ?_
              rotate_left
              · intro w'
                go_simp
                with_reducible rfl
              rotate_left
              · simp only [Act.put, List.setIfInBounds_toArray, List.set_cons_zero, List.set_cons_succ, i64_w, i32_w]
                rfl
              refine one_ (i := 23) (N := some 138) #[true, true, true, true, true, true, true, true, true, true, true, true, true, true, true, true, true, true, true, true, true, true, true, true, true, true, false, false, false, false, false, false, false, false, false, false, false, false, false, false, false, false, false, false, false, false, false, false, false, false, false, false] rfl rfl (by kernel_rfl) (by decide) (fun K hK => ?_)
              refine goes_ Try.func20 (by kernel_rfl) rfl #[ptr gd, .int .i64 (fn : Int)] (by rfl) rfl rfl (by simp only [List.map_toArray, List.map_cons, List.map_nil]; rfl) ?_
              with_reducible refine (hDH.out _ hHeld.2.2.1).mono ?_
              rintro e w65 ⟨rfl, hb⟩
              refine ⟨_, rfl, ?_⟩
              refine hK.out _ _ ⟨(below_step hHeld.1 hb), (hHeld.2.1.keep hb), (hHeld.2.2.1.keep hb), (Kd.R_below hHeld.2.2.2.1 hb), (keep hb hHeld.2.2.2.2)⟩ (fun hHeld => ?_)
              clear hK K
              refine norm_ (a' := ?_) ?_ ?_
              rotate_left
              · show Act.put _ (some 138) _ = _
                simp only [Act.put, List.setIfInBounds_toArray, List.set_cons_zero, List.set_cons_succ, i64_w, i32_w]
                rfl
              refine pure_ (i := 26) (N := some 141) (v := ?_) (a' := ?_) #[true, true, true, true, true, true, true, true, true, true, true, true, true, true, true, true, true, true, true, true, true, true, true, true, true, true, true, false, false, false, false, false, false, false, false, false, false, false, false, false, false, false, false, false, false, false, false, false, false, false, false, false] rfl rfl (by kernel_rfl) (fun _ _ _ h => h) (Or.inl ⟨by rfl, ?_⟩) ?_ ?_
              rotate_left
              · intro w'
                go_simp
                with_reducible rfl
              rotate_left
              · simp only [Act.put, List.setIfInBounds_toArray, List.set_cons_zero, List.set_cons_succ, i64_w, i32_w]
                rfl
              refine pure_ (i := 27) (N := some 142) (v := ?_) (a' := ?_) #[true, true, true, true, true, true, true, true, true, true, true, true, true, true, true, true, true, true, true, true, true, true, true, true, true, true, true, true, false, false, false, false, false, false, false, false, false, false, false, false, false, false, false, false, false, false, false, false, false, false, false, false] rfl rfl (by kernel_rfl) (fun _ _ _ h => h) (Or.inl ⟨by rfl, ?_⟩) ?_ ?_
              rotate_left
              · intro w'
                go_simp
                with_reducible rfl
              rotate_left
              · simp only [Act.put, List.setIfInBounds_toArray, List.set_cons_zero, List.set_cons_succ, i64_w, i32_w]
                rfl
              refine pure_ (i := 28) (N := some 143) (v := ?_) (a' := ?_) #[true, true, true, true, true, true, true, true, true, true, true, true, true, true, true, true, true, true, true, true, true, true, true, true, true, true, true, true, true, false, false, false, false, false, false, false, false, false, false, false, false, false, false, false, false, false, false, false, false, false, false, false] rfl rfl (by kernel_rfl) (fun _ _ _ h => h) (Or.inl ⟨by rfl, ?_⟩) ?_ ?_
              rotate_left
              · intro w'
                go_simp
                with_reducible rfl
              rotate_left
              · simp only [Act.put, List.setIfInBounds_toArray, List.set_cons_zero, List.set_cons_succ, i64_w, i32_w]
                rfl
              refine pure_ (i := 29) (N := some 144) (v := ?_) (a' := ?_) #[true, true, true, true, true, true, true, true, true, true, true, true, true, true, true, true, true, true, true, true, true, true, true, true, true, true, true, true, true, true, false, false, false, false, false, false, false, false, false, false, false, false, false, false, false, false, false, false, false, false, false, false] rfl rfl (by kernel_rfl) (fun _ _ _ h => h) (Or.inl ⟨by rfl, ?_⟩) ?_ ?_
              rotate_left
              · intro w'
                go_simp
                with_reducible rfl
              rotate_left
              · simp only [Act.put, List.setIfInBounds_toArray, List.set_cons_zero, List.set_cons_succ, i64_w, i32_w]
                rfl
              refine pure_ (i := 30) (N := some 145) (v := ?_) (a' := ?_) #[true, true, true, true, true, true, true, true, true, true, true, true, true, true, true, true, true, true, true, true, true, true, true, true, true, true, true, true, true, true, true, false, false, false, false, false, false, false, false, false, false, false, false, false, false, false, false, false, false, false, false, false] rfl rfl (by kernel_rfl) (fun _ _ _ h => h) (Or.inl ⟨by rfl, ?_⟩) ?_ ?_
              rotate_left
              · intro w'
                go_simp
                with_reducible rfl
              rotate_left
              · simp only [Act.put, List.setIfInBounds_toArray, List.set_cons_zero, List.set_cons_succ, i64_w, i32_w]
                rfl
              refine pure_ (i := 31) (N := some 146) (v := ?_) (a' := ?_) #[true, true, true, true, true, true, true, true, true, true, true, true, true, true, true, true, true, true, true, true, true, true, true, true, true, true, true, true, true, true, true, true, false, false, false, false, false, false, false, false, false, false, false, false, false, false, false, false, false, false, false, false] rfl rfl (by kernel_rfl) (fun _ _ _ h => h) (Or.inl ⟨by rfl, ?_⟩) ?_ ?_
              rotate_left
              · intro w'
                go_simp
                with_reducible rfl
              rotate_left
              · simp only [Act.put, List.setIfInBounds_toArray, List.set_cons_zero, List.set_cons_succ, i64_w, i32_w]
                rfl
              refine pure_ (i := 32) (N := some 147) (v := ?_) (a' := ?_) #[true, true, true, true, true, true, true, true, true, true, true, true, true, true, true, true, true, true, true, true, true, true, true, true, true, true, true, true, true, true, true, true, true, false, false, false, false, false, false, false, false, false, false, false, false, false, false, false, false, false, false, false] rfl rfl (by kernel_rfl) (fun _ _ _ h => h) (Or.inl ⟨by rfl, ?_⟩) ?_ ?_
              rotate_left
              · intro w'
                go_simp
                with_reducible rfl
              rotate_left
              · simp only [Act.put, List.setIfInBounds_toArray, List.set_cons_zero, List.set_cons_succ, i64_w, i32_w]
                rfl
              refine pure_ (i := 33) (N := some 148) (v := ?_) (a' := ?_) #[true, true, true, true, true, true, true, true, true, true, true, true, true, true, true, true, true, true, true, true, true, true, true, true, true, true, true, true, true, true, true, true, true, true, false, false, false, false, false, false, false, false, false, false, false, false, false, false, false, false, false, false] rfl rfl (by kernel_rfl) (fun _ _ _ h => h) (Or.inl ⟨by rfl, ?_⟩) ?_ ?_
              rotate_left
              · intro w'
                go_simp
                with_reducible rfl
              rotate_left
              · simp only [Act.put, List.setIfInBounds_toArray, List.set_cons_zero, List.set_cons_succ, i64_w, i32_w]
                rfl
              refine take_ (i := 34) (N := some 149) (v := ?_) (a' := ?_) #[true, true, true, true, true, true, true, true, true, true, true, true, true, true, true, true, true, true, true, true, true, true, true, true, true, true, true, true, true, true, true, true, true, true, true, false, false, false, false, false, false, false, false, false, false, false, false, false, false, false, false, false] rfl rfl (by kernel_rfl) (fun _ _ _ h => h) (Or.inl ⟨by rfl, ?_⟩) hHeld ?_ ?_
              rotate_left
              · rintro w' ⟨s0, s1, s2, s3, s4⟩
                go_simp
                with_reducible rfl
              rotate_left
              · simp only [Act.put, List.setIfInBounds_toArray, List.set_cons_zero, List.set_cons_succ, i64_w, i32_w]
                rfl
              refine pure_ (i := 35) (N := some 150) (v := ?_) (a' := ?_) #[true, true, true, true, true, true, true, true, true, true, true, true, true, true, true, true, true, true, true, true, true, true, true, true, true, true, true, true, true, true, true, true, true, true, true, true, false, false, false, false, false, false, false, false, false, false, false, false, false, false, false, false] rfl rfl (by kernel_rfl) (fun _ _ _ h => h) (Or.inl ⟨by rfl, ?_⟩) ?_ ?_
              rotate_left
              · intro w'
                go_simp
                with_reducible rfl
              rotate_left
              · simp only [Act.put, List.setIfInBounds_toArray, List.set_cons_zero, List.set_cons_succ, i64_w, i32_w]
                rfl
              refine pure_ (i := 36) (N := some 151) (v := ?_) (a' := ?_) #[true, true, true, true, true, true, true, true, true, true, true, true, true, true, true, true, true, true, true, true, true, true, true, true, true, true, true, true, true, true, true, true, true, true, true, true, true, false, false, false, false, false, false, false, false, false, false, false, false, false, false, false] rfl rfl (by kernel_rfl) (fun _ _ _ h => h) (Or.inl ⟨by rfl, ?_⟩) ?_ ?_
              rotate_left
              · intro w'
                go_simp
                with_reducible rfl
              rotate_left
              · simp only [Act.put, List.setIfInBounds_toArray, List.set_cons_zero, List.set_cons_succ, i64_w, i32_w]
                rfl
              refine pure_ (i := 37) (N := some 152) (v := ?_) (a' := ?_) #[true, true, true, true, true, true, true, true, true, true, true, true, true, true, true, true, true, true, true, true, true, true, true, true, true, true, true, true, true, true, true, true, true, true, true, true, true, true, false, false, false, false, false, false, false, false, false, false, false, false, false, false] rfl rfl (by kernel_rfl) (fun _ _ _ h => h) (Or.inl ⟨by rfl, ?_⟩) ?_ ?_
              rotate_left
              · intro w'
                go_simp
                with_reducible rfl
              rotate_left
              · simp only [Act.put, List.setIfInBounds_toArray, List.set_cons_zero, List.set_cons_succ, i64_w, i32_w]
                rfl
              refine pure_ (i := 38) (N := some 153) (v := ?_) (a' := ?_) #[true, true, true, true, true, true, true, true, true, true, true, true, true, true, true, true, true, true, true, true, true, true, true, true, true, true, true, true, true, true, true, true, true, true, true, true, true, true, true, false, false, false, false, false, false, false, false, false, false, false, false, false] rfl rfl (by kernel_rfl) (fun _ _ _ h => h) (Or.inl ⟨by rfl, ?_⟩) ?_ ?_
              rotate_left
              · intro w'
                go_simp
                with_reducible rfl
              rotate_left
              · simp only [Act.put, List.setIfInBounds_toArray, List.set_cons_zero, List.set_cons_succ, i64_w, i32_w]
                rfl
              refine pure_ (i := 39) (N := some 154) (v := ?_) (a' := ?_) #[true, true, true, true, true, true, true, true, true, true, true, true, true, true, true, true, true, true, true, true, true, true, true, true, true, true, true, true, true, true, true, true, true, true, true, true, true, true, true, true, false, false, false, false, false, false, false, false, false, false, false, false] rfl rfl (by kernel_rfl) (fun _ _ _ h => h) (Or.inl ⟨by rfl, ?_⟩) ?_ ?_
              rotate_left
              · intro w'
                go_simp
                with_reducible rfl
              rotate_left
              · simp only [Act.put, List.setIfInBounds_toArray, List.set_cons_zero, List.set_cons_succ, i64_w, i32_w]
                rfl
              refine pure_ (i := 42) (N := some 157) (v := ?_) (a' := ?_) #[true, true, true, true, true, true, true, true, true, true, true, true, true, true, true, true, true, true, true, true, true, true, true, true, true, true, true, true, true, true, true, true, true, true, true, true, true, true, true, true, false, false, true, false, false, false, false, false, false, false, false, false] rfl rfl (by kernel_rfl) (fun _ _ _ h => h) (Or.inl ⟨by rfl, ?_⟩) ?_ ?_
              rotate_left
              · intro w'
                go_simp
                with_reducible rfl
              rotate_left
              · simp only [Act.put, List.setIfInBounds_toArray, List.set_cons_zero, List.set_cons_succ, i64_w, i32_w]
                rfl
              refine take_ (i := 41) (N := some 156) (v := ?_) (a' := ?_) #[true, true, true, true, true, true, true, true, true, true, true, true, true, true, true, true, true, true, true, true, true, true, true, true, true, true, true, true, true, true, true, true, true, true, true, true, true, true, true, true, false, true, true, false, false, false, false, false, false, false, false, false] rfl rfl (by kernel_rfl) (fun _ _ _ h => h) (Or.inl ⟨by rfl, ?_⟩) hHeld ?_ ?_
              rotate_left
              · rintro w' ⟨s0, s1, s2, s3, s4⟩
                refine row_yields 27 (.tmp 8) ?_ gx ?_ 27 (setArr X) (0, 0) _ s1.hd Try.underlying27 rfl (by rw [setArr_size, HXl.out] <;> exact info27)
                · rfl
                · rfl
              rotate_left
              · simp only [Act.put, List.setIfInBounds_toArray, List.set_cons_zero, List.set_cons_succ, i64_w, i32_w]
                rfl
              refine one_ (i := 40) (N := some 155) #[true, true, true, true, true, true, true, true, true, true, true, true, true, true, true, true, true, true, true, true, true, true, true, true, true, true, true, true, true, true, true, true, true, true, true, true, true, true, true, true, true, true, true, false, false, false, false, false, false, false, false, false] rfl rfl (by kernel_rfl) (by decide) (fun K hK => ?_)
              refine goes_ Try.func19 (by kernel_rfl) rfl #[ptr gd] (by rfl) rfl rfl (by simp only [List.map_toArray, List.map_cons, List.map_nil]; rfl) ?_
              with_reducible refine (hDB.out _ hHeld.2.2.1).mono ?_
              rintro e w66 ⟨rfl, hb⟩
              refine ⟨_, rfl, ?_⟩
              refine hK.out _ _ ⟨(below_step hHeld.1 hb), (hHeld.2.1.keep hb), (hHeld.2.2.1.keep hb), (Kd.R_below hHeld.2.2.2.1 hb), (keep hb hHeld.2.2.2.2)⟩ (fun hHeld => ?_)
              clear hK K
              refine norm_ (a' := ?_) ?_ ?_
              rotate_left
              · show Act.put _ (some 155) _ = _
                simp only [Act.put, List.setIfInBounds_toArray, List.set_cons_zero, List.set_cons_succ, i64_w, i32_w]
                rfl
              refine one_ (i := 43) (N := some 158) #[true, true, true, true, true, true, true, true, true, true, true, true, true, true, true, true, true, true, true, true, true, true, true, true, true, true, true, true, true, true, true, true, true, true, true, true, true, true, true, true, true, true, true, true, false, false, false, false, false, false, false, false] rfl rfl (by kernel_rfl) (by decide) (fun K hK => ?_)
              refine goes_ Try.func30 (by kernel_rfl) rfl #[.agg (setArr X), .int .i64 (n : Int)] (by rfl) rfl rfl (by simp only [List.map_toArray, List.map_cons, List.map_nil]; rfl) ?_
              with_reducible refine (hSB.out _).mono ?_
              rintro e w67 ⟨rfl, hb⟩
              refine ⟨_, rfl, ?_⟩
              refine hK.out _ _ ⟨(below_step hHeld.1 hb), (hHeld.2.1.keep hb), (hHeld.2.2.1.keep hb), (Kd.R_below hHeld.2.2.2.1 hb), (keep hb hHeld.2.2.2.2)⟩ (fun hHeld => ?_)
              clear hK K
              refine norm_ (a' := ?_) ?_ ?_
              rotate_left
              · show Act.put _ (some 158) _ = _
                simp only [Act.put, List.setIfInBounds_toArray, List.set_cons_zero, List.set_cons_succ, i64_w, i32_w]
                rfl
              refine pure_ (i := 44) (N := some 159) (v := ?_) (a' := ?_) #[true, true, true, true, true, true, true, true, true, true, true, true, true, true, true, true, true, true, true, true, true, true, true, true, true, true, true, true, true, true, true, true, true, true, true, true, true, true, true, true, true, true, true, true, true, false, false, false, false, false, false, false] rfl rfl (by kernel_rfl) (fun _ _ _ h => h) (Or.inl ⟨by rfl, ?_⟩) ?_ ?_
              rotate_left
              · intro w'
                go_simp
                with_reducible rfl
              rotate_left
              · simp only [Act.put, List.setIfInBounds_toArray, List.set_cons_zero, List.set_cons_succ, i64_w, i32_w]
                rfl
              refine pure_ (i := 45) (N := some 160) (v := ?_) (a' := ?_) #[true, true, true, true, true, true, true, true, true, true, true, true, true, true, true, true, true, true, true, true, true, true, true, true, true, true, true, true, true, true, true, true, true, true, true, true, true, true, true, true, true, true, true, true, true, true, false, false, false, false, false, false] rfl rfl (by kernel_rfl) (fun _ _ _ h => h) (Or.inl ⟨by rfl, ?_⟩) ?_ ?_
              rotate_left
              · intro w'
                go_simp
                with_reducible rfl
              rotate_left
              · simp only [Act.put, List.setIfInBounds_toArray, List.set_cons_zero, List.set_cons_succ, i64_w, i32_w]
                rfl
              refine pure_ (i := 46) (N := some 161) (v := ?_) (a' := ?_) #[true, true, true, true, true, true, true, true, true, true, true, true, true, true, true, true, true, true, true, true, true, true, true, true, true, true, true, true, true, true, true, true, true, true, true, true, true, true, true, true, true, true, true, true, true, true, true, false, false, false, false, false] rfl rfl (by kernel_rfl) (fun _ _ _ h => h) (Or.inl ⟨by rfl, ?_⟩) ?_ ?_
              rotate_left
              · intro w'
                go_simp
                with_reducible rfl
              rotate_left
              · simp only [Act.put, List.setIfInBounds_toArray, List.set_cons_zero, List.set_cons_succ, i64_w, i32_w]
                rfl
              refine pure_ (i := 47) (N := some 162) (v := ?_) (a' := ?_) #[true, true, true, true, true, true, true, true, true, true, true, true, true, true, true, true, true, true, true, true, true, true, true, true, true, true, true, true, true, true, true, true, true, true, true, true, true, true, true, true, true, true, true, true, true, true, true, true, false, false, false, false] rfl rfl (by kernel_rfl) (fun _ _ _ h => h) (Or.inl ⟨by rfl, ?_⟩) ?_ ?_
              rotate_left
              · intro w'
                go_simp
                with_reducible rfl
              rotate_left
              · simp only [Act.put, List.setIfInBounds_toArray, List.set_cons_zero, List.set_cons_succ, i64_w, i32_w]
                rfl
              refine pure_ (i := 49) (N := some 164) (v := ?_) (a' := ?_) #[true, true, true, true, true, true, true, true, true, true, true, true, true, true, true, true, true, true, true, true, true, true, true, true, true, true, true, true, true, true, true, true, true, true, true, true, true, true, true, true, true, true, true, true, true, true, true, true, false, true, false, false] rfl rfl (by kernel_rfl) (fun _ _ _ h => h) (Or.inl ⟨by rfl, ?_⟩) ?_ ?_
              rotate_left
              · intro w'
                go_simp
                with_reducible rfl
              rotate_left
              · simp only [Act.put, List.setIfInBounds_toArray, List.set_cons_zero, List.set_cons_succ, i64_w, i32_w]
                rfl
              refine one_ (i := 48) (N := some 163) #[true, true, true, true, true, true, true, true, true, true, true, true, true, true, true, true, true, true, true, true, true, true, true, true, true, true, true, true, true, true, true, true, true, true, true, true, true, true, true, true, true, true, true, true, true, true, true, true, true, true, false, false] rfl rfl (by kernel_rfl) (by decide) (fun K hK => ?_)
              refine goes_ Try.func22 (by kernel_rfl) rfl #[ptr gd] (by rfl) rfl rfl (by simp only [List.map_toArray, List.map_cons, List.map_nil]; rfl) ?_
              with_reducible refine (dirt_blocks gd n x _ hHeld.2.2.1).mono ?_
              rintro e w68 ⟨rfl, hb⟩
              refine ⟨_, rfl, ?_⟩
              refine hK.out _ _ ⟨(below_step hHeld.1 hb), (hHeld.2.1.keep hb), (hHeld.2.2.1.keep hb), (Kd.R_below hHeld.2.2.2.1 hb), (keep hb hHeld.2.2.2.2)⟩ (fun hHeld => ?_)
              clear hK K
              refine norm_ (a' := ?_) ?_ ?_
              rotate_left
              · show Act.put _ (some 163) _ = _
                simp only [Act.put, List.setIfInBounds_toArray, List.set_cons_zero, List.set_cons_succ, i64_w, i32_w]
                rfl
              refine pure_ (i := 50) (N := some 165) (v := ?_) (a' := ?_) #[true, true, true, true, true, true, true, true, true, true, true, true, true, true, true, true, true, true, true, true, true, true, true, true, true, true, true, true, true, true, true, true, true, true, true, true, true, true, true, true, true, true, true, true, true, true, true, true, true, true, true, false] rfl rfl (by kernel_rfl) (fun _ _ _ h => h) (Or.inl ⟨by rfl, ?_⟩) ?_ ?_
              rotate_left
              · intro w'
                go_simp
                with_reducible rfl
              rotate_left
              · simp only [Act.put, List.setIfInBounds_toArray, List.set_cons_zero, List.set_cons_succ, i64_w, i32_w]
                rfl
              refine pure_ (i := 51) (N := some 166) (v := ?_) (a' := ?_) #[true, true, true, true, true, true, true, true, true, true, true, true, true, true, true, true, true, true, true, true, true, true, true, true, true, true, true, true, true, true, true, true, true, true, true, true, true, true, true, true, true, true, true, true, true, true, true, true, true, true, true, true] rfl rfl (by kernel_rfl) (fun _ _ _ h => h) (Or.inl ⟨by rfl, ?_⟩) ?_ ?_
              rotate_left
              · intro w'
                go_simp
                with_reducible rfl
              rotate_left
              · simp only [Act.put, List.setIfInBounds_toArray, List.set_cons_zero, List.set_cons_succ, i64_w, i32_w]
                rfl
              refine done_ (by kernel_rfl) ?_
              replace HS := Aside0.mk hHeld.1
              replace SX := Aside0.mk hHeld.2.1
              replace D := Aside0.mk hHeld.2.2.1
              replace VA := Aside0.mk hHeld.2.2.2.1
              replace Q0 := Aside0.mk hHeld.2.2.2.2
              clear hHeld
              replace HB := Aside0.mk (below_step HB.out HS.out)
              replace HK := Aside0.mk ((HK.out.keep HS.out).top)
              replace RR := Aside0.mk (RR.out.keep HS.out)
              clear HS
              clear Q0
              clear VA
              clear hwn
              go_wp2_with fail
              have LTr : Aside0 (gr < w68.heap.size) := ⟨RR.out.lt⟩
              skip
              refine calls_abs (fun WQ => Below w.heap.size w WQ ∧ KeptAt WQ w.heap.size gB (fun k => WQ.heap.size ≤ k) ([]) (LS ++ [T]) ([]) ∧ RunsAt WQ gr gr (spansOf X) ∧ DirtAt WQ gd n x ∧ Blk WQ gx 27 (setArr X) ∧ Kd.C k31 WQ (some ⟨w68.heap.size, 0, none⟩) 1 [⟨0, 9⟩]) ⟨below_step HB.out (by repeat (first | exact Below.refl _ _ | apply below_alloc | refine Below.setCell ?_ (Nat.le_refl _) _ | refine Below.setCell ?_ (by simp) _)), (HK.out.keep (by repeat (first | exact Below.refl _ _ | apply below_alloc | refine Below.setCell ?_ (Nat.le_refl _) _ | refine Below.setCell ?_ (by simp) _))).top, RR.out.keep (by repeat (first | exact Below.refl _ _ | apply below_alloc | refine Below.setCell ?_ (Nat.le_refl _) _ | refine Below.setCell ?_ (by simp) _)), D.out.keep (by repeat (first | exact Below.refl _ _ | apply below_alloc | refine Below.setCell ?_ (Nat.le_refl _) _ | refine Below.setCell ?_ (by simp) _)), SX.out.keep (by repeat (first | exact Below.refl _ _ | apply below_alloc | refine Below.setCell ?_ (Nat.le_refl _) _ | refine Below.setCell ?_ (by simp) _)), C_lit w68 [⟨0, 9⟩] (by decide) _ rfl⟩ ?_
              rintro w22 ⟨h_HB, h_HK, h_RR, h_D, h_SX, h_C1⟩
              replace HB := Aside0.mk h_HB
              replace HK := Aside0.mk h_HK
              replace RR := Aside0.mk h_RR
              replace D := Aside0.mk h_D
              replace SX := Aside0.mk h_SX
              have C1 := Aside0.mk h_C1
              clear h_HB h_HK h_RR h_D h_SX h_C1
              refine (runs_put_one gr gr X ⟨w68.heap.size, 0, none⟩ 1 0 9 _ HXl.out RR.out (by have := RR.out.lt; omega) C1.out (by have := LTr.out; show w68.heap.size ≠ gr; omega)).mono ?_
              rintro e w23 ⟨zp, rfl, hr, ho⟩
              replace HB := Aside0.mk (below_only HB.out ho GE_RR.out)
              replace HK := Aside0.mk ((HK.out.onlyR ho RR.out).top)
              replace D := Aside0.mk (D.out.onlyR ho RR.out (by decide))
              replace SX := Aside0.mk (SX.out.onlyR ho RR.out (by decide))
              clear ho
              replace RR := Aside0.mk hr
              clear hr
              clear C1 LTr
              clear RR
              go_wp2_with fail
              have HS : Aside0 (Below w23.heap.size w23 w23) := ⟨Below.refl _ _⟩
              refine start_ (n := 5) (S := fun w' => Below w23.heap.size w23 w' ∧ Blk w' gx 27 (setArr X) ∧ DirtAt w' gd n x) (ds := []) #[false, false, false, false, false] (by kernel_rfl) rfl rfl ⟨(below_drew1 HS.out), (SX.out.keep (below_drew1 (Below.refl _ _))), (D.out.keep (below_drew1 (Below.refl _ _)))⟩ (fun hHeld => ?_)
              refine pure_ (i := 0) (N := some 171) (v := ?_) (a' := ?_) #[true, false, false, false, false] rfl rfl (by kernel_rfl) (fun _ _ _ h => h) (Or.inl ⟨by rfl, ?_⟩) ?_ ?_
              rotate_left
              · intro w'
                go_simp
                with_reducible rfl
              rotate_left
              · simp only [Act.put, List.setIfInBounds_toArray, List.set_cons_zero, List.set_cons_succ, i64_w, i32_w]
                rfl
              refine take_ (i := 2) (N := some 173) (v := ?_) (a' := ?_) #[true, false, true, false, false] rfl rfl (by kernel_rfl) (fun _ _ _ h => h) (Or.inl ⟨by rfl, ?_⟩) hHeld ?_ ?_
              rotate_left
              · rintro w' ⟨s0, s1, s2⟩
                refine row_yields 27 (.tmp 8) ?_ gx ?_ 27 (setArr X) (0, 0) _ s1.hd Try.underlying27 rfl (by rw [setArr_size, HXl.out] <;> exact info27)
                · rfl
                · rfl
              rotate_left
              · simp only [Act.put, List.setIfInBounds_toArray, List.set_cons_zero, List.set_cons_succ, i64_w, i32_w]
                rfl
              refine one_ (i := 1) (N := some 172) #[true, true, true, false, false] rfl rfl (by kernel_rfl) (by decide) (fun K hK => ?_)
              refine goes_ Try.func17 (by kernel_rfl) rfl #[ptr gd] (by rfl) rfl rfl (by simp only [List.map_toArray, List.map_cons, List.map_nil]; rfl) ?_
              with_reducible refine (hDC.out _ hHeld.2.2).mono ?_
              rintro e w70 ⟨rfl, hb⟩
              refine ⟨_, rfl, ?_⟩
              refine hK.out _ _ ⟨(below_step hHeld.1 hb), (hHeld.2.1.keep hb), (hHeld.2.2.keep hb)⟩ (fun hHeld => ?_)
              clear hK K
              refine norm_ (a' := ?_) ?_ ?_
              rotate_left
              · show Act.put _ (some 172) _ = _
                simp only [Act.put, List.setIfInBounds_toArray, List.set_cons_zero, List.set_cons_succ, i64_w, i32_w]
                rfl
              refine one_ (i := 3) (N := some 174) #[true, true, true, true, false] rfl rfl (by kernel_rfl) (by decide) (fun K hK => ?_)
              refine goes_ Try.func24 (by kernel_rfl) rfl #[.agg (setArr X)] (by rfl) rfl rfl (by simp only [List.map_toArray, List.map_cons, List.map_nil]; rfl) ?_
              with_reducible refine (set_cnt X cx HXl.out Hcx.out _).mono ?_
              rintro e w71 ⟨rfl, hb⟩
              refine ⟨_, rfl, ?_⟩
              refine hK.out _ _ ⟨(below_step hHeld.1 hb), (hHeld.2.1.keep hb), (hHeld.2.2.keep hb)⟩ (fun hHeld => ?_)
              clear hK K
              refine norm_ (a' := ?_) ?_ ?_
              rotate_left
              · show Act.put _ (some 174) _ = _
                simp only [Act.put, List.setIfInBounds_toArray, List.set_cons_zero, List.set_cons_succ, i64_w, i32_w]
                rfl
              refine pure_ (i := 4) (N := some 175) (v := ?_) (a' := ?_) #[true, true, true, true, true] rfl rfl (by kernel_rfl) (fun _ _ _ h => h) (Or.inl ⟨by rfl, ?_⟩) ?_ ?_
              rotate_left
              · intro w'
                go_simp
                with_reducible rfl
              rotate_left
              · simp only [Act.put, List.setIfInBounds_toArray, List.set_cons_zero, List.set_cons_succ, i64_w, i32_w]
                rfl
              refine done_ (by kernel_rfl) ?_
              replace HS := Aside0.mk hHeld.1
              replace SX := Aside0.mk hHeld.2.1
              replace D := Aside0.mk hHeld.2.2
              clear hHeld
              replace HB := Aside0.mk (below_step HB.out HS.out)
              replace HK := Aside0.mk ((HK.out.keep HS.out).top)
              clear HS
              go_wp2_with fail
              go_roundg kk
              case measure => omega
              case rel => exact ⟨i + 1, x, LS ++ [T], by omega, by go_num, Hx, Hh, ⟨by rw [List.length_append, HLS.out.1]; rfl, fun y hy => by rcases List.mem_append.1 hy with hy | hy; exact HLS.out.2 y hy; rw [List.mem_singleton.1 hy]; exact hlen.out⟩, HB, D, ⟨by rw [← HX.out]; exact SX.out⟩, HK⟩
            · as_aux_lemma =>
              have hin1 : (0 : Int) ≤ ask := by omega
              have hin2 : ¬ ask < (n : Int) := by omega
              have hHs : Aside0 ((decide (0 ≤ ask) && decide (ask < (n : Int)) && x.testBit ask.toNat) = false) := ⟨by rw [decide_eq_false hin2, Bool.and_false, Bool.false_and]⟩
              have hin3 : decide (ask < (n : Int)) = false := decide_eq_false hin2
              have hSB : Aside0 (∀ W : World, Calls Try.prog 30 #[.agg (setArr X), .int .i64 (n : Int)] W fun e w' => e = .returned (.string (strOfNums (bytesD n x))) ∧ Below W.heap.size W w') := ⟨fun W => bytes_ref n x Hn64.out Hh.out X HX.out W⟩
              have hDB : Aside0 (∀ W : World, DirtAt W gd n x → Calls Try.prog 19 #[ptr gd] W fun e w' => e = .returned (.string (strOfNums (bytesD n x))) ∧ Below W.heap.size W w') := ⟨fun W h => dirt_bytes gd n x Hn64.out Hx.out W h⟩
              generalize strOfNums (bytesD n x) = SB at *
              have hDC : Aside0 (∀ W : World, DirtAt W gd n x → Calls Try.prog 17 #[ptr gd] W fun e w' => e = .returned (.int .i64 (cx : Int)) ∧ Below W.heap.size W w') := ⟨fun W h => by rw [hcx.out]; exact dirt_count gd n x Hx.out W h⟩
              have hDH : Aside0 (∀ W : World, DirtAt W gd n x → Calls Try.prog 20 #[ptr gd, .int .i64 ask] W fun e w' => e = .returned (.bool false) ∧ Below W.heap.size W w') := ⟨fun W h => by have h2 := dirt_has gd n x Hn64.out Hx.out ask W h; rw [hHs.out] at h2; exact h2⟩
              go_wp2_with fail
              have HS : Aside0 (Below w19.heap.size w19 w19) := ⟨Below.refl _ _⟩
              refine start_ (n := 52) (S := fun w' => Below w19.heap.size w19 w' ∧ Blk w' gx 27 (setArr X) ∧ DirtAt w' gd n x ∧ Kd.R k31 31 w' w.heap.size (fun _ => True) (.slice A2 (T).length c2) (T)) (ds := []) #[false, false, false, false, false, false, false, false, false, false, false, false, false, false, false, false, false, false, false, false, false, false, false, false, false, false, false, false, false, false, false, false, false, false, false, false, false, false, false, false, false, false, false, false, false, false, false, false, false, false, false, false] (by kernel_rfl) rfl rfl ⟨(below_drew1 HS.out), (SX.out.keep (below_drew1 (Below.refl _ _))), (D.out.keep (below_drew1 (Below.refl _ _))), (Kd.R_below VA.out (below_drew1 (Below.refl _ _)))⟩ (fun hHeld => ?_)
              refine pure_ (i := 0) (N := some 115) (v := ?_) (a' := ?_) #[true, false, false, false, false, false, false, false, false, false, false, false, false, false, false, false, false, false, false, false, false, false, false, false, false, false, false, false, false, false, false, false, false, false, false, false, false, false, false, false, false, false, false, false, false, false, false, false, false, false, false, false] rfl rfl (by kernel_rfl) (fun _ _ _ h => h) (Or.inl ⟨by rfl, ?_⟩) ?_ ?_
              rotate_left
              · intro w'
                go_simp
                with_reducible rfl
              rotate_left
              · simp only [Act.put, List.setIfInBounds_toArray, List.set_cons_zero, List.set_cons_succ, i64_w, i32_w]
                rfl
              refine pure_ (i := 3) (N := some 118) (v := ?_) (a' := ?_) #[true, false, false, true, false, false, false, false, false, false, false, false, false, false, false, false, false, false, false, false, false, false, false, false, false, false, false, false, false, false, false, false, false, false, false, false, false, false, false, false, false, false, false, false, false, false, false, false, false, false, false, false] rfl rfl (by kernel_rfl) (fun _ _ _ h => h) (Or.inl ⟨by rfl, ?_⟩) ?_ ?_
              rotate_left
              · intro w'
                go_simp
                with_reducible rfl
              rotate_left
              · simp only [Act.put, List.setIfInBounds_toArray, List.set_cons_zero, List.set_cons_succ, i64_w, i32_w]
                rfl
              refine take_ (i := 1) (N := some 116) (v := ?_) (a' := ?_) #[true, true, false, true, false, false, false, false, false, false, false, false, false, false, false, false, false, false, false, false, false, false, false, false, false, false, false, false, false, false, false, false, false, false, false, false, false, false, false, false, false, false, false, false, false, false, false, false, false, false, false, false] rfl rfl (by kernel_rfl) (fun _ _ _ h => h) (Or.inl ⟨by rfl, ?_⟩) hHeld ?_ ?_
              rotate_left
              · rintro w' ⟨s0, s1, s2, s3⟩
                refine row_yields 27 (.tmp 8) ?_ gx ?_ 27 (setArr X) (0, 0) _ s1.hd Try.underlying27 rfl (by rw [setArr_size, HXl.out] <;> exact info27)
                · rfl
                · rfl
              rotate_left
              · simp only [Act.put, List.setIfInBounds_toArray, List.set_cons_zero, List.set_cons_succ, i64_w, i32_w]
                rfl
              refine one_ (i := 2) (N := some 117) #[true, true, true, true, false, false, false, false, false, false, false, false, false, false, false, false, false, false, false, false, false, false, false, false, false, false, false, false, false, false, false, false, false, false, false, false, false, false, false, false, false, false, false, false, false, false, false, false, false, false, false, false] rfl rfl (by kernel_rfl) (by decide) (fun K hK => ?_)
              refine goes_ Try.func24 (by kernel_rfl) rfl #[.agg (setArr X)] (by rfl) rfl rfl (by simp only [List.map_toArray, List.map_cons, List.map_nil]; rfl) ?_
              with_reducible refine (set_cnt X cx HXl.out Hcx.out _).mono ?_
              rintro e w60 ⟨rfl, hb⟩
              refine ⟨_, rfl, ?_⟩
              refine hK.out _ _ ⟨(below_step hHeld.1 hb), (hHeld.2.1.keep hb), (hHeld.2.2.1.keep hb), (Kd.R_below hHeld.2.2.2 hb)⟩ (fun hHeld => ?_)
              clear hK K
              refine norm_ (a' := ?_) ?_ ?_
              rotate_left
              · show Act.put _ (some 117) _ = _
                simp only [Act.put, List.setIfInBounds_toArray, List.set_cons_zero, List.set_cons_succ, i64_w, i32_w]
                rfl
              refine pure_ (i := 4) (N := some 119) (v := ?_) (a' := ?_) #[true, true, true, true, true, false, false, false, false, false, false, false, false, false, false, false, false, false, false, false, false, false, false, false, false, false, false, false, false, false, false, false, false, false, false, false, false, false, false, false, false, false, false, false, false, false, false, false, false, false, false, false] rfl rfl (by kernel_rfl) (fun _ _ _ h => h) (Or.inl ⟨by rfl, ?_⟩) ?_ ?_
              rotate_left
              · intro w'
                go_simp
                with_reducible rfl
              rotate_left
              · simp only [Act.put, List.setIfInBounds_toArray, List.set_cons_zero, List.set_cons_succ, i64_w, i32_w]
                rfl
              refine pure_ (i := 5) (N := some 120) (v := ?_) (a' := ?_) #[true, true, true, true, true, true, false, false, false, false, false, false, false, false, false, false, false, false, false, false, false, false, false, false, false, false, false, false, false, false, false, false, false, false, false, false, false, false, false, false, false, false, false, false, false, false, false, false, false, false, false, false] rfl rfl (by kernel_rfl) (fun _ _ _ h => h) (Or.inl ⟨by rfl, ?_⟩) ?_ ?_
              rotate_left
              · intro w'
                go_simp
                with_reducible rfl
              rotate_left
              · simp only [Act.put, List.setIfInBounds_toArray, List.set_cons_zero, List.set_cons_succ, i64_w, i32_w]
                rfl
              refine pure_ (i := 6) (N := some 121) (v := ?_) (a' := ?_) #[true, true, true, true, true, true, true, false, false, false, false, false, false, false, false, false, false, false, false, false, false, false, false, false, false, false, false, false, false, false, false, false, false, false, false, false, false, false, false, false, false, false, false, false, false, false, false, false, false, false, false, false] rfl rfl (by kernel_rfl) (fun _ _ _ h => h) (Or.inl ⟨by rfl, ?_⟩) ?_ ?_
              rotate_left
              · intro w'
                go_simp
                with_reducible rfl
              rotate_left
              · simp only [Act.put, List.setIfInBounds_toArray, List.set_cons_zero, List.set_cons_succ, i64_w, i32_w]
                rfl
              refine pure_ (i := 7) (N := some 122) (v := ?_) (a' := ?_) #[true, true, true, true, true, true, true, true, false, false, false, false, false, false, false, false, false, false, false, false, false, false, false, false, false, false, false, false, false, false, false, false, false, false, false, false, false, false, false, false, false, false, false, false, false, false, false, false, false, false, false, false] rfl rfl (by kernel_rfl) (fun _ _ _ h => h) (Or.inl ⟨by rfl, ?_⟩) ?_ ?_
              rotate_left
              · intro w'
                go_simp
                with_reducible rfl
              rotate_left
              · simp only [Act.put, List.setIfInBounds_toArray, List.set_cons_zero, List.set_cons_succ, i64_w, i32_w]
                rfl
              refine take_ (i := 8) (N := some 123) (v := ?_) (a' := ?_) #[true, true, true, true, true, true, true, true, true, false, false, false, false, false, false, false, false, false, false, false, false, false, false, false, false, false, false, false, false, false, false, false, false, false, false, false, false, false, false, false, false, false, false, false, false, false, false, false, false, false, false, false] rfl rfl (by kernel_rfl) (fun _ _ _ h => h) (Or.inl ⟨by rfl, ?_⟩) hHeld ?_ ?_
              rotate_left
              · rintro w' ⟨s0, s1, s2, s3⟩
                refine row_yields 27 (.tmp 8) ?_ gx ?_ 27 (setArr X) (0, 0) _ s1.hd Try.underlying27 rfl (by rw [setArr_size, HXl.out] <;> exact info27)
                · rfl
                · rfl
              rotate_left
              · simp only [Act.put, List.setIfInBounds_toArray, List.set_cons_zero, List.set_cons_succ, i64_w, i32_w]
                rfl
              refine one_ (i := 9) (N := some 124) #[true, true, true, true, true, true, true, true, true, true, false, false, false, false, false, false, false, false, false, false, false, false, false, false, false, false, false, false, false, false, false, false, false, false, false, false, false, false, false, false, false, false, false, false, false, false, false, false, false, false, false, false] rfl rfl (by kernel_rfl) (by decide) (fun K hK => ?_)
              refine goes_ Try.func29 (by kernel_rfl) rfl #[.agg (setArr X)] (by rfl) rfl rfl (by simp only [List.map_toArray, List.map_cons, List.map_nil]; rfl) ?_
              with_reducible refine (set_spans X HXl.out _).mono ?_
              rintro e w61 ⟨vs, rfl, hos, hb⟩
              refine ⟨_, rfl, ?_⟩
              rw [← HTs.out] at hos
              obtain ⟨As, cs, hse, hcs, hCs, _⟩ := hos.reads
              subst hse
              refine hK.out _ _ ⟨(below_step hHeld.1 hb), (hHeld.2.1.keep hb), (hHeld.2.2.1.keep hb), (Kd.R_below hHeld.2.2.2 hb)⟩ (fun hHeld => ?_)
              clear hK K
              refine norm_ (a' := ?_) ?_ ?_
              rotate_left
              · show Act.put _ (some 124) _ = _
                simp only [Act.put, List.setIfInBounds_toArray, List.set_cons_zero, List.set_cons_succ, i64_w, i32_w]
                rfl
              refine one_ (i := 10) (N := some 125) #[true, true, true, true, true, true, true, true, true, true, true, false, false, false, false, false, false, false, false, false, false, false, false, false, false, false, false, false, false, false, false, false, false, false, false, false, false, false, false, false, false, false, false, false, false, false, false, false, false, false, false, false] rfl rfl (by kernel_rfl) (by decide) (fun K hK => ?_)
              refine goes_ Try.func28 (by kernel_rfl) rfl #[.slice A2 T.length c2, .slice As T.length cs] (by rfl) rfl rfl (by simp only [List.map_toArray, List.map_cons, List.map_nil]; rfl) ?_
              with_reducible refine (same_C A2 c2 As cs T (R_len' hHeld.2.2.2) hcs (by have := hlen.out; omega) _ (C_of_R hHeld.2.2.2).1 hCs).mono ?_
              rintro e w62 ⟨rfl, hb⟩
              refine ⟨_, rfl, ?_⟩
              clear hCs hcs hos
              refine hK.out _ _ ⟨(below_step hHeld.1 hb), (hHeld.2.1.keep hb), (hHeld.2.2.1.keep hb), (Kd.R_below hHeld.2.2.2 hb)⟩ (fun hHeld => ?_)
              clear hK K
              refine norm_ (a' := ?_) ?_ ?_
              rotate_left
              · show Act.put _ (some 125) _ = _
                simp only [Act.put, List.setIfInBounds_toArray, List.set_cons_zero, List.set_cons_succ, i64_w, i32_w]
                rfl
              refine pure_ (i := 11) (N := some 126) (v := ?_) (a' := ?_) #[true, true, true, true, true, true, true, true, true, true, true, true, false, false, false, false, false, false, false, false, false, false, false, false, false, false, false, false, false, false, false, false, false, false, false, false, false, false, false, false, false, false, false, false, false, false, false, false, false, false, false, false] rfl rfl (by kernel_rfl) (fun _ _ _ h => h) (Or.inl ⟨by rfl, ?_⟩) ?_ ?_
              rotate_left
              · intro w'
                go_simp
                with_reducible rfl
              rotate_left
              · simp only [Act.put, List.setIfInBounds_toArray, List.set_cons_zero, List.set_cons_succ, i64_w, i32_w]
                rfl
              refine pure_ (i := 12) (N := some 127) (v := ?_) (a' := ?_) #[true, true, true, true, true, true, true, true, true, true, true, true, true, false, false, false, false, false, false, false, false, false, false, false, false, false, false, false, false, false, false, false, false, false, false, false, false, false, false, false, false, false, false, false, false, false, false, false, false, false, false, false] rfl rfl (by kernel_rfl) (fun _ _ _ h => h) (Or.inl ⟨by rfl, ?_⟩) ?_ ?_
              rotate_left
              · intro w'
                go_simp
                with_reducible rfl
              rotate_left
              · simp only [Act.put, List.setIfInBounds_toArray, List.set_cons_zero, List.set_cons_succ, i64_w, i32_w]
                rfl
              refine pure_ (i := 13) (N := some 128) (v := ?_) (a' := ?_) #[true, true, true, true, true, true, true, true, true, true, true, true, true, true, false, false, false, false, false, false, false, false, false, false, false, false, false, false, false, false, false, false, false, false, false, false, false, false, false, false, false, false, false, false, false, false, false, false, false, false, false, false] rfl rfl (by kernel_rfl) (fun _ _ _ h => h) (Or.inl ⟨by rfl, ?_⟩) ?_ ?_
              rotate_left
              · intro w'
                go_simp
                with_reducible rfl
              rotate_left
              · simp only [Act.put, List.setIfInBounds_toArray, List.set_cons_zero, List.set_cons_succ, i64_w, i32_w]
                rfl
              refine pure_ (i := 14) (N := some 129) (v := ?_) (a' := ?_) #[true, true, true, true, true, true, true, true, true, true, true, true, true, true, true, false, false, false, false, false, false, false, false, false, false, false, false, false, false, false, false, false, false, false, false, false, false, false, false, false, false, false, false, false, false, false, false, false, false, false, false, false] rfl rfl (by kernel_rfl) (fun _ _ _ h => h) (Or.inl ⟨by rfl, ?_⟩) ?_ ?_
              rotate_left
              · intro w'
                go_simp
                with_reducible rfl
              rotate_left
              · simp only [Act.put, List.setIfInBounds_toArray, List.set_cons_zero, List.set_cons_succ, i64_w, i32_w]
                rfl
              refine take_ (i := 16) (N := some 131) (v := ?_) (a' := ?_) #[true, true, true, true, true, true, true, true, true, true, true, true, true, true, true, false, true, false, false, false, false, false, false, false, false, false, false, false, false, false, false, false, false, false, false, false, false, false, false, false, false, false, false, false, false, false, false, false, false, false, false, false] rfl rfl (by kernel_rfl) (fun _ _ _ h => h) (Or.inl ⟨by rfl, ?_⟩) hHeld ?_ ?_
              rotate_left
              · rintro w' ⟨s0, s1, s2, s3⟩
                refine row_yields 27 (.tmp 8) ?_ gx ?_ 27 (setArr X) (0, 0) _ s1.hd Try.underlying27 rfl (by rw [setArr_size, HXl.out] <;> exact info27)
                · rfl
                · rfl
              rotate_left
              · simp only [Act.put, List.setIfInBounds_toArray, List.set_cons_zero, List.set_cons_succ, i64_w, i32_w]
                rfl
              refine one_ (i := 15) (N := some 130) #[true, true, true, true, true, true, true, true, true, true, true, true, true, true, true, true, true, false, false, false, false, false, false, false, false, false, false, false, false, false, false, false, false, false, false, false, false, false, false, false, false, false, false, false, false, false, false, false, false, false, false, false] rfl rfl (by kernel_rfl) (by decide) (fun K hK => ?_)
              refine goes_ Try.func17 (by kernel_rfl) rfl #[ptr gd] (by rfl) rfl rfl (by simp only [List.map_toArray, List.map_cons, List.map_nil]; rfl) ?_
              with_reducible refine (hDC.out _ hHeld.2.2.1).mono ?_
              rintro e w63 ⟨rfl, hb⟩
              refine ⟨_, rfl, ?_⟩
              refine hK.out _ _ ⟨(below_step hHeld.1 hb), (hHeld.2.1.keep hb), (hHeld.2.2.1.keep hb), (Kd.R_below hHeld.2.2.2 hb)⟩ (fun hHeld => ?_)
              clear hK K
              refine norm_ (a' := ?_) ?_ ?_
              rotate_left
              · show Act.put _ (some 130) _ = _
                simp only [Act.put, List.setIfInBounds_toArray, List.set_cons_zero, List.set_cons_succ, i64_w, i32_w]
                rfl
              refine one_ (i := 17) (N := some 132) #[true, true, true, true, true, true, true, true, true, true, true, true, true, true, true, true, true, true, false, false, false, false, false, false, false, false, false, false, false, false, false, false, false, false, false, false, false, false, false, false, false, false, false, false, false, false, false, false, false, false, false, false] rfl rfl (by kernel_rfl) (by decide) (fun K hK => ?_)
              refine goes_ Try.func24 (by kernel_rfl) rfl #[.agg (setArr X)] (by rfl) rfl rfl (by simp only [List.map_toArray, List.map_cons, List.map_nil]; rfl) ?_
              with_reducible refine (set_cnt X cx HXl.out Hcx.out _).mono ?_
              rintro e w64 ⟨rfl, hb⟩
              refine ⟨_, rfl, ?_⟩
              refine hK.out _ _ ⟨(below_step hHeld.1 hb), (hHeld.2.1.keep hb), (hHeld.2.2.1.keep hb), (Kd.R_below hHeld.2.2.2 hb)⟩ (fun hHeld => ?_)
              clear hK K
              refine norm_ (a' := ?_) ?_ ?_
              rotate_left
              · show Act.put _ (some 132) _ = _
                simp only [Act.put, List.setIfInBounds_toArray, List.set_cons_zero, List.set_cons_succ, i64_w, i32_w]
                rfl
              refine pure_ (i := 18) (N := some 133) (v := ?_) (a' := ?_) #[true, true, true, true, true, true, true, true, true, true, true, true, true, true, true, true, true, true, true, false, false, false, false, false, false, false, false, false, false, false, false, false, false, false, false, false, false, false, false, false, false, false, false, false, false, false, false, false, false, false, false, false] rfl rfl (by kernel_rfl) (fun _ _ _ h => h) (Or.inl ⟨by rfl, ?_⟩) ?_ ?_
              rotate_left
              · intro w'
                go_simp
                with_reducible rfl
              rotate_left
              · simp only [Act.put, List.setIfInBounds_toArray, List.set_cons_zero, List.set_cons_succ, i64_w, i32_w]
                rfl
              refine pure_ (i := 19) (N := some 134) (v := ?_) (a' := ?_) #[true, true, true, true, true, true, true, true, true, true, true, true, true, true, true, true, true, true, true, true, false, false, false, false, false, false, false, false, false, false, false, false, false, false, false, false, false, false, false, false, false, false, false, false, false, false, false, false, false, false, false, false] rfl rfl (by kernel_rfl) (fun _ _ _ h => h) (Or.inl ⟨by rfl, ?_⟩) ?_ ?_
              rotate_left
              · intro w'
                go_simp
                with_reducible rfl
              rotate_left
              · simp only [Act.put, List.setIfInBounds_toArray, List.set_cons_zero, List.set_cons_succ, i64_w, i32_w]
                rfl
              refine pure_ (i := 20) (N := some 135) (v := ?_) (a' := ?_) #[true, true, true, true, true, true, true, true, true, true, true, true, true, true, true, true, true, true, true, true, true, false, false, false, false, false, false, false, false, false, false, false, false, false, false, false, false, false, false, false, false, false, false, false, false, false, false, false, false, false, false, false] rfl rfl (by kernel_rfl) (fun _ _ _ h => h) (Or.inl ⟨by rfl, ?_⟩) ?_ ?_
              rotate_left
              · intro w'
                go_simp
                with_reducible rfl
              rotate_left
              · simp only [Act.put, List.setIfInBounds_toArray, List.set_cons_zero, List.set_cons_succ, i64_w, i32_w]
                rfl
              refine pure_ (i := 21) (N := some 136) (v := ?_) (a' := ?_) #[true, true, true, true, true, true, true, true, true, true, true, true, true, true, true, true, true, true, true, true, true, true, false, false, false, false, false, false, false, false, false, false, false, false, false, false, false, false, false, false, false, false, false, false, false, false, false, false, false, false, false, false] rfl rfl (by kernel_rfl) (fun _ _ _ h => h) (Or.inl ⟨by rfl, ?_⟩) ?_ ?_
              rotate_left
              · intro w'
                go_simp
                with_reducible rfl
              rotate_left
              · simp only [Act.put, List.setIfInBounds_toArray, List.set_cons_zero, List.set_cons_succ, i64_w, i32_w]
                rfl
              refine pure_ (i := 22) (N := some 137) (v := ?_) (a' := ?_) #[true, true, true, true, true, true, true, true, true, true, true, true, true, true, true, true, true, true, true, true, true, true, true, false, false, false, false, false, false, false, false, false, false, false, false, false, false, false, false, false, false, false, false, false, false, false, false, false, false, false, false, false] rfl rfl (by kernel_rfl) (fun _ _ _ h => h) (Or.inl ⟨by rfl, ?_⟩) ?_ ?_
              rotate_left
              · intro w'
                go_simp
                with_reducible rfl
              rotate_left
              · simp only [Act.put, List.setIfInBounds_toArray, List.set_cons_zero, List.set_cons_succ, i64_w, i32_w]
                rfl
              refine pure_ (i := 24) (N := some 139) (v := ?_) (a' := ?_) #[true, true, true, true, true, true, true, true, true, true, true, true, true, true, true, true, true, true, true, true, true, true, true, false, true, false, false, false, false, false, false, false, false, false, false, false, false, false, false, false, false, false, false, false, false, false, false, false, false, false, false, false] rfl rfl (by kernel_rfl) (fun _ _ _ h => h) (Or.inl ⟨by rfl, ?_⟩) ?_ ?_
              rotate_left
              · intro w'
                go_simp
                with_reducible rfl
              rotate_left
              · simp only [Act.put, List.setIfInBounds_toArray, List.set_cons_zero, List.set_cons_succ, i64_w, i32_w]
                rfl
              refine pure_ (i := 25) (N := some 140) (v := ?_) (a' := ?_) #[true, true, true, true, true, true, true, true, true, true, true, true, true, true, true, true, true, true, true, true, true, true, true, false, true, true, false, false, false, false, false, false, false, false, false, false, false, false, false, false, false, false, false, false, false, false, false, false, false, false, false, false] rfl rfl (by kernel_rfl) (fun _ _ _ h => h) (Or.inl ⟨by rfl, ?_⟩) ?_ ?_
              rotate_left
              · intro w'
                go_simp
                with_reducible rfl
              rotate_left
              · simp only [Act.put, List.setIfInBounds_toArray, List.set_cons_zero, List.set_cons_succ, i64_w, i32_w]
                rfl
              refine one_ (i := 23) (N := some 138) #[true, true, true, true, true, true, true, true, true, true, true, true, true, true, true, true, true, true, true, true, true, true, true, true, true, true, false, false, false, false, false, false, false, false, false, false, false, false, false, false, false, false, false, false, false, false, false, false, false, false, false, false] rfl rfl (by kernel_rfl) (by decide) (fun K hK => ?_)
              refine goes_ Try.func20 (by kernel_rfl) rfl #[ptr gd, .int .i64 ask] (by rfl) rfl rfl (by simp only [List.map_toArray, List.map_cons, List.map_nil]; rfl) ?_
              with_reducible refine (hDH.out _ hHeld.2.2.1).mono ?_
              rintro e w65 ⟨rfl, hb⟩
              refine ⟨_, rfl, ?_⟩
              refine hK.out _ _ ⟨(below_step hHeld.1 hb), (hHeld.2.1.keep hb), (hHeld.2.2.1.keep hb), (Kd.R_below hHeld.2.2.2 hb)⟩ (fun hHeld => ?_)
              clear hK K
              refine norm_ (a' := ?_) ?_ ?_
              rotate_left
              · show Act.put _ (some 138) _ = _
                simp only [Act.put, List.setIfInBounds_toArray, List.set_cons_zero, List.set_cons_succ, i64_w, i32_w]
                rfl
              refine pure_ (i := 26) (N := some 141) (v := ?_) (a' := ?_) #[true, true, true, true, true, true, true, true, true, true, true, true, true, true, true, true, true, true, true, true, true, true, true, true, true, true, true, false, false, false, false, false, false, false, false, false, false, false, false, false, false, false, false, false, false, false, false, false, false, false, false, false] rfl rfl (by kernel_rfl) (fun _ _ _ h => h) (Or.inl ⟨by rfl, ?_⟩) ?_ ?_
              rotate_left
              · intro w'
                go_simp
                with_reducible rfl
              rotate_left
              · simp only [Act.put, List.setIfInBounds_toArray, List.set_cons_zero, List.set_cons_succ, i64_w, i32_w]
                rfl
              refine pure_ (i := 27) (N := some 142) (v := ?_) (a' := ?_) #[true, true, true, true, true, true, true, true, true, true, true, true, true, true, true, true, true, true, true, true, true, true, true, true, true, true, true, true, false, false, false, false, false, false, false, false, false, false, false, false, false, false, false, false, false, false, false, false, false, false, false, false] rfl rfl (by kernel_rfl) (fun _ _ _ h => h) (Or.inl ⟨by rfl, ?_⟩) ?_ ?_
              rotate_left
              · intro w'
                go_simp
                with_reducible rfl
              rotate_left
              · simp only [Act.put, List.setIfInBounds_toArray, List.set_cons_zero, List.set_cons_succ, i64_w, i32_w]
                rfl
              refine pure_ (i := 28) (N := some 143) (v := ?_) (a' := ?_) #[true, true, true, true, true, true, true, true, true, true, true, true, true, true, true, true, true, true, true, true, true, true, true, true, true, true, true, true, true, false, false, false, false, false, false, false, false, false, false, false, false, false, false, false, false, false, false, false, false, false, false, false] rfl rfl (by kernel_rfl) (fun _ _ _ h => h) (Or.inl ⟨by rfl, ?_⟩) ?_ ?_
              rotate_left
              · intro w'
                go_simp
                with_reducible rfl
              rotate_left
              · simp only [Act.put, List.setIfInBounds_toArray, List.set_cons_zero, List.set_cons_succ, i64_w, i32_w]
                rfl
              refine pure_ (i := 29) (N := some 144) (v := ?_) (a' := ?_) #[true, true, true, true, true, true, true, true, true, true, true, true, true, true, true, true, true, true, true, true, true, true, true, true, true, true, true, true, true, true, false, false, false, false, false, false, false, false, false, false, false, false, false, false, false, false, false, false, false, false, false, false] rfl rfl (by kernel_rfl) (fun _ _ _ h => h) (Or.inl ⟨by rfl, ?_⟩) ?_ ?_
              rotate_left
              · intro w'
                go_simp
                with_reducible rfl
              rotate_left
              · simp only [Act.put, List.setIfInBounds_toArray, List.set_cons_zero, List.set_cons_succ, i64_w, i32_w]
                rfl
              refine pure_ (i := 30) (N := some 145) (v := ?_) (a' := ?_) #[true, true, true, true, true, true, true, true, true, true, true, true, true, true, true, true, true, true, true, true, true, true, true, true, true, true, true, true, true, true, true, false, false, false, false, false, false, false, false, false, false, false, false, false, false, false, false, false, false, false, false, false] rfl rfl (by kernel_rfl) (fun _ _ _ h => h) (Or.inl ⟨by rfl, ?_⟩) ?_ ?_
              rotate_left
              · intro w'
                go_simp
                with_reducible rfl
              rotate_left
              · simp only [Act.put, List.setIfInBounds_toArray, List.set_cons_zero, List.set_cons_succ, i64_w, i32_w]
                rfl
              refine pure_ (i := 31) (N := some 146) (v := ?_) (a' := ?_) #[true, true, true, true, true, true, true, true, true, true, true, true, true, true, true, true, true, true, true, true, true, true, true, true, true, true, true, true, true, true, true, true, false, false, false, false, false, false, false, false, false, false, false, false, false, false, false, false, false, false, false, false] rfl rfl (by kernel_rfl) (fun _ _ _ h => h) (Or.inl ⟨by rfl, ?_⟩) ?_ ?_
              rotate_left
              · intro w'
                go_simp
                with_reducible rfl
              rotate_left
              · simp only [Act.put, List.setIfInBounds_toArray, List.set_cons_zero, List.set_cons_succ, i64_w, i32_w]
                rfl
              refine pure_ (i := 32) (N := some 147) (v := undef) (a' := ?_) #[true, true, true, true, true, true, true, true, true, true, true, true, true, true, true, true, true, true, true, true, true, true, true, true, true, true, true, true, true, true, true, true, true, false, false, false, false, false, false, false, false, false, false, false, false, false, false, false, false, false, false, false] rfl rfl (by kernel_rfl) (fun _ _ _ h => h) (Or.inr ⟨by rfl, rfl⟩) ?_ ?_
              rotate_left
              · simp only [Act.put, List.setIfInBounds_toArray, List.set_cons_zero, List.set_cons_succ, i64_w, i32_w]
                rfl
              refine pure_ (i := 33) (N := some 148) (v := undef) (a' := ?_) #[true, true, true, true, true, true, true, true, true, true, true, true, true, true, true, true, true, true, true, true, true, true, true, true, true, true, true, true, true, true, true, true, true, true, false, false, false, false, false, false, false, false, false, false, false, false, false, false, false, false, false, false] rfl rfl (by kernel_rfl) (fun _ _ _ h => h) (Or.inr ⟨by rfl, rfl⟩) ?_ ?_
              rotate_left
              · simp only [Act.put, List.setIfInBounds_toArray, List.set_cons_zero, List.set_cons_succ, i64_w, i32_w]
                rfl
              refine pure_ (i := 34) (N := some 149) (v := undef) (a' := ?_) #[true, true, true, true, true, true, true, true, true, true, true, true, true, true, true, true, true, true, true, true, true, true, true, true, true, true, true, true, true, true, true, true, true, true, true, false, false, false, false, false, false, false, false, false, false, false, false, false, false, false, false, false] rfl rfl (by kernel_rfl) (fun _ _ _ h => h) (Or.inr ⟨by rfl, rfl⟩) ?_ ?_
              rotate_left
              · simp only [Act.put, List.setIfInBounds_toArray, List.set_cons_zero, List.set_cons_succ, i64_w, i32_w]
                rfl
              refine pure_ (i := 35) (N := some 150) (v := ?_) (a' := ?_) #[true, true, true, true, true, true, true, true, true, true, true, true, true, true, true, true, true, true, true, true, true, true, true, true, true, true, true, true, true, true, true, true, true, true, true, true, false, false, false, false, false, false, false, false, false, false, false, false, false, false, false, false] rfl rfl (by kernel_rfl) (fun _ _ _ h => h) (Or.inl ⟨by rfl, ?_⟩) ?_ ?_
              rotate_left
              · intro w'
                go_simp
                with_reducible rfl
              rotate_left
              · simp only [Act.put, List.setIfInBounds_toArray, List.set_cons_zero, List.set_cons_succ, i64_w, i32_w]
                rfl
              refine pure_ (i := 36) (N := some 151) (v := ?_) (a' := ?_) #[true, true, true, true, true, true, true, true, true, true, true, true, true, true, true, true, true, true, true, true, true, true, true, true, true, true, true, true, true, true, true, true, true, true, true, true, true, false, false, false, false, false, false, false, false, false, false, false, false, false, false, false] rfl rfl (by kernel_rfl) (fun _ _ _ h => h) (Or.inl ⟨by rfl, ?_⟩) ?_ ?_
              rotate_left
              · intro w'
                go_simp
                with_reducible rfl
              rotate_left
              · simp only [Act.put, List.setIfInBounds_toArray, List.set_cons_zero, List.set_cons_succ, i64_w, i32_w]
                rfl
              refine pure_ (i := 37) (N := some 152) (v := ?_) (a' := ?_) #[true, true, true, true, true, true, true, true, true, true, true, true, true, true, true, true, true, true, true, true, true, true, true, true, true, true, true, true, true, true, true, true, true, true, true, true, true, true, false, false, false, false, false, false, false, false, false, false, false, false, false, false] rfl rfl (by kernel_rfl) (fun _ _ _ h => h) (Or.inl ⟨by rfl, ?_⟩) ?_ ?_
              rotate_left
              · intro w'
                go_simp
                with_reducible rfl
              rotate_left
              · simp only [Act.put, List.setIfInBounds_toArray, List.set_cons_zero, List.set_cons_succ, i64_w, i32_w]
                rfl
              refine pure_ (i := 38) (N := some 153) (v := ?_) (a' := ?_) #[true, true, true, true, true, true, true, true, true, true, true, true, true, true, true, true, true, true, true, true, true, true, true, true, true, true, true, true, true, true, true, true, true, true, true, true, true, true, true, false, false, false, false, false, false, false, false, false, false, false, false, false] rfl rfl (by kernel_rfl) (fun _ _ _ h => h) (Or.inl ⟨by rfl, ?_⟩) ?_ ?_
              rotate_left
              · intro w'
                go_simp
                with_reducible rfl
              rotate_left
              · simp only [Act.put, List.setIfInBounds_toArray, List.set_cons_zero, List.set_cons_succ, i64_w, i32_w]
                rfl
              refine pure_ (i := 39) (N := some 154) (v := ?_) (a' := ?_) #[true, true, true, true, true, true, true, true, true, true, true, true, true, true, true, true, true, true, true, true, true, true, true, true, true, true, true, true, true, true, true, true, true, true, true, true, true, true, true, true, false, false, false, false, false, false, false, false, false, false, false, false] rfl rfl (by kernel_rfl) (fun _ _ _ h => h) (Or.inl ⟨by rfl, ?_⟩) ?_ ?_
              rotate_left
              · intro w'
                go_simp
                with_reducible rfl
              rotate_left
              · simp only [Act.put, List.setIfInBounds_toArray, List.set_cons_zero, List.set_cons_succ, i64_w, i32_w]
                rfl
              refine pure_ (i := 42) (N := some 157) (v := ?_) (a' := ?_) #[true, true, true, true, true, true, true, true, true, true, true, true, true, true, true, true, true, true, true, true, true, true, true, true, true, true, true, true, true, true, true, true, true, true, true, true, true, true, true, true, false, false, true, false, false, false, false, false, false, false, false, false] rfl rfl (by kernel_rfl) (fun _ _ _ h => h) (Or.inl ⟨by rfl, ?_⟩) ?_ ?_
              rotate_left
              · intro w'
                go_simp
                with_reducible rfl
              rotate_left
              · simp only [Act.put, List.setIfInBounds_toArray, List.set_cons_zero, List.set_cons_succ, i64_w, i32_w]
                rfl
              refine take_ (i := 41) (N := some 156) (v := ?_) (a' := ?_) #[true, true, true, true, true, true, true, true, true, true, true, true, true, true, true, true, true, true, true, true, true, true, true, true, true, true, true, true, true, true, true, true, true, true, true, true, true, true, true, true, false, true, true, false, false, false, false, false, false, false, false, false] rfl rfl (by kernel_rfl) (fun _ _ _ h => h) (Or.inl ⟨by rfl, ?_⟩) hHeld ?_ ?_
              rotate_left
              · rintro w' ⟨s0, s1, s2, s3⟩
                refine row_yields 27 (.tmp 8) ?_ gx ?_ 27 (setArr X) (0, 0) _ s1.hd Try.underlying27 rfl (by rw [setArr_size, HXl.out] <;> exact info27)
                · rfl
                · rfl
              rotate_left
              · simp only [Act.put, List.setIfInBounds_toArray, List.set_cons_zero, List.set_cons_succ, i64_w, i32_w]
                rfl
              refine one_ (i := 40) (N := some 155) #[true, true, true, true, true, true, true, true, true, true, true, true, true, true, true, true, true, true, true, true, true, true, true, true, true, true, true, true, true, true, true, true, true, true, true, true, true, true, true, true, true, true, true, false, false, false, false, false, false, false, false, false] rfl rfl (by kernel_rfl) (by decide) (fun K hK => ?_)
              refine goes_ Try.func19 (by kernel_rfl) rfl #[ptr gd] (by rfl) rfl rfl (by simp only [List.map_toArray, List.map_cons, List.map_nil]; rfl) ?_
              with_reducible refine (hDB.out _ hHeld.2.2.1).mono ?_
              rintro e w66 ⟨rfl, hb⟩
              refine ⟨_, rfl, ?_⟩
              refine hK.out _ _ ⟨(below_step hHeld.1 hb), (hHeld.2.1.keep hb), (hHeld.2.2.1.keep hb), (Kd.R_below hHeld.2.2.2 hb)⟩ (fun hHeld => ?_)
              clear hK K
              refine norm_ (a' := ?_) ?_ ?_
              rotate_left
              · show Act.put _ (some 155) _ = _
                simp only [Act.put, List.setIfInBounds_toArray, List.set_cons_zero, List.set_cons_succ, i64_w, i32_w]
                rfl
              refine one_ (i := 43) (N := some 158) #[true, true, true, true, true, true, true, true, true, true, true, true, true, true, true, true, true, true, true, true, true, true, true, true, true, true, true, true, true, true, true, true, true, true, true, true, true, true, true, true, true, true, true, true, false, false, false, false, false, false, false, false] rfl rfl (by kernel_rfl) (by decide) (fun K hK => ?_)
              refine goes_ Try.func30 (by kernel_rfl) rfl #[.agg (setArr X), .int .i64 (n : Int)] (by rfl) rfl rfl (by simp only [List.map_toArray, List.map_cons, List.map_nil]; rfl) ?_
              with_reducible refine (hSB.out _).mono ?_
              rintro e w67 ⟨rfl, hb⟩
              refine ⟨_, rfl, ?_⟩
              refine hK.out _ _ ⟨(below_step hHeld.1 hb), (hHeld.2.1.keep hb), (hHeld.2.2.1.keep hb), (Kd.R_below hHeld.2.2.2 hb)⟩ (fun hHeld => ?_)
              clear hK K
              refine norm_ (a' := ?_) ?_ ?_
              rotate_left
              · show Act.put _ (some 158) _ = _
                simp only [Act.put, List.setIfInBounds_toArray, List.set_cons_zero, List.set_cons_succ, i64_w, i32_w]
                rfl
              refine pure_ (i := 44) (N := some 159) (v := ?_) (a' := ?_) #[true, true, true, true, true, true, true, true, true, true, true, true, true, true, true, true, true, true, true, true, true, true, true, true, true, true, true, true, true, true, true, true, true, true, true, true, true, true, true, true, true, true, true, true, true, false, false, false, false, false, false, false] rfl rfl (by kernel_rfl) (fun _ _ _ h => h) (Or.inl ⟨by rfl, ?_⟩) ?_ ?_
              rotate_left
              · intro w'
                go_simp
                with_reducible rfl
              rotate_left
              · simp only [Act.put, List.setIfInBounds_toArray, List.set_cons_zero, List.set_cons_succ, i64_w, i32_w]
                rfl
              refine pure_ (i := 45) (N := some 160) (v := ?_) (a' := ?_) #[true, true, true, true, true, true, true, true, true, true, true, true, true, true, true, true, true, true, true, true, true, true, true, true, true, true, true, true, true, true, true, true, true, true, true, true, true, true, true, true, true, true, true, true, true, true, false, false, false, false, false, false] rfl rfl (by kernel_rfl) (fun _ _ _ h => h) (Or.inl ⟨by rfl, ?_⟩) ?_ ?_
              rotate_left
              · intro w'
                go_simp
                with_reducible rfl
              rotate_left
              · simp only [Act.put, List.setIfInBounds_toArray, List.set_cons_zero, List.set_cons_succ, i64_w, i32_w]
                rfl
              refine pure_ (i := 46) (N := some 161) (v := ?_) (a' := ?_) #[true, true, true, true, true, true, true, true, true, true, true, true, true, true, true, true, true, true, true, true, true, true, true, true, true, true, true, true, true, true, true, true, true, true, true, true, true, true, true, true, true, true, true, true, true, true, true, false, false, false, false, false] rfl rfl (by kernel_rfl) (fun _ _ _ h => h) (Or.inl ⟨by rfl, ?_⟩) ?_ ?_
              rotate_left
              · intro w'
                go_simp
                with_reducible rfl
              rotate_left
              · simp only [Act.put, List.setIfInBounds_toArray, List.set_cons_zero, List.set_cons_succ, i64_w, i32_w]
                rfl
              refine pure_ (i := 47) (N := some 162) (v := ?_) (a' := ?_) #[true, true, true, true, true, true, true, true, true, true, true, true, true, true, true, true, true, true, true, true, true, true, true, true, true, true, true, true, true, true, true, true, true, true, true, true, true, true, true, true, true, true, true, true, true, true, true, true, false, false, false, false] rfl rfl (by kernel_rfl) (fun _ _ _ h => h) (Or.inl ⟨by rfl, ?_⟩) ?_ ?_
              rotate_left
              · intro w'
                go_simp
                with_reducible rfl
              rotate_left
              · simp only [Act.put, List.setIfInBounds_toArray, List.set_cons_zero, List.set_cons_succ, i64_w, i32_w]
                rfl
              refine pure_ (i := 49) (N := some 164) (v := ?_) (a' := ?_) #[true, true, true, true, true, true, true, true, true, true, true, true, true, true, true, true, true, true, true, true, true, true, true, true, true, true, true, true, true, true, true, true, true, true, true, true, true, true, true, true, true, true, true, true, true, true, true, true, false, true, false, false] rfl rfl (by kernel_rfl) (fun _ _ _ h => h) (Or.inl ⟨by rfl, ?_⟩) ?_ ?_
              rotate_left
              · intro w'
                go_simp
                with_reducible rfl
              rotate_left
              · simp only [Act.put, List.setIfInBounds_toArray, List.set_cons_zero, List.set_cons_succ, i64_w, i32_w]
                rfl
              refine one_ (i := 48) (N := some 163) #[true, true, true, true, true, true, true, true, true, true, true, true, true, true, true, true, true, true, true, true, true, true, true, true, true, true, true, true, true, true, true, true, true, true, true, true, true, true, true, true, true, true, true, true, true, true, true, true, true, true, false, false] rfl rfl (by kernel_rfl) (by decide) (fun K hK => ?_)
              refine goes_ Try.func22 (by kernel_rfl) rfl #[ptr gd] (by rfl) rfl rfl (by simp only [List.map_toArray, List.map_cons, List.map_nil]; rfl) ?_
              with_reducible refine (dirt_blocks gd n x _ hHeld.2.2.1).mono ?_
              rintro e w68 ⟨rfl, hb⟩
              refine ⟨_, rfl, ?_⟩
              refine hK.out _ _ ⟨(below_step hHeld.1 hb), (hHeld.2.1.keep hb), (hHeld.2.2.1.keep hb), (Kd.R_below hHeld.2.2.2 hb)⟩ (fun hHeld => ?_)
              clear hK K
              refine norm_ (a' := ?_) ?_ ?_
              rotate_left
              · show Act.put _ (some 163) _ = _
                simp only [Act.put, List.setIfInBounds_toArray, List.set_cons_zero, List.set_cons_succ, i64_w, i32_w]
                rfl
              refine pure_ (i := 50) (N := some 165) (v := ?_) (a' := ?_) #[true, true, true, true, true, true, true, true, true, true, true, true, true, true, true, true, true, true, true, true, true, true, true, true, true, true, true, true, true, true, true, true, true, true, true, true, true, true, true, true, true, true, true, true, true, true, true, true, true, true, true, false] rfl rfl (by kernel_rfl) (fun _ _ _ h => h) (Or.inl ⟨by rfl, ?_⟩) ?_ ?_
              rotate_left
              · intro w'
                go_simp
                with_reducible rfl
              rotate_left
              · simp only [Act.put, List.setIfInBounds_toArray, List.set_cons_zero, List.set_cons_succ, i64_w, i32_w]
                rfl
              refine pure_ (i := 51) (N := some 166) (v := ?_) (a' := ?_) #[true, true, true, true, true, true, true, true, true, true, true, true, true, true, true, true, true, true, true, true, true, true, true, true, true, true, true, true, true, true, true, true, true, true, true, true, true, true, true, true, true, true, true, true, true, true, true, true, true, true, true, true] rfl rfl (by kernel_rfl) (fun _ _ _ h => h) (Or.inl ⟨by rfl, ?_⟩) ?_ ?_
              rotate_left
              · intro w'
                go_simp
                with_reducible rfl
              rotate_left
              · simp only [Act.put, List.setIfInBounds_toArray, List.set_cons_zero, List.set_cons_succ, i64_w, i32_w]
                rfl
              refine done_ (by kernel_rfl) ?_
              replace HS := Aside0.mk hHeld.1
              replace SX := Aside0.mk hHeld.2.1
              replace D := Aside0.mk hHeld.2.2.1
              replace VA := Aside0.mk hHeld.2.2.2
              clear hHeld
              replace HB := Aside0.mk (below_step HB.out HS.out)
              replace HK := Aside0.mk ((HK.out.keep HS.out).top)
              replace RR := Aside0.mk (RR.out.keep HS.out)
              clear HS
              clear VA
              clear hwn
              go_wp2_with fail
              have LTr : Aside0 (gr < w68.heap.size) := ⟨RR.out.lt⟩
              skip
              refine calls_abs (fun WQ => Below w.heap.size w WQ ∧ KeptAt WQ w.heap.size gB (fun k => WQ.heap.size ≤ k) ([]) (LS ++ [T]) ([]) ∧ RunsAt WQ gr gr (spansOf X) ∧ DirtAt WQ gd n x ∧ Blk WQ gx 27 (setArr X) ∧ Kd.C k31 WQ (some ⟨w68.heap.size, 0, none⟩) 1 [⟨0, 9⟩]) ⟨below_step HB.out (by repeat (first | exact Below.refl _ _ | apply below_alloc | refine Below.setCell ?_ (Nat.le_refl _) _ | refine Below.setCell ?_ (by simp) _)), (HK.out.keep (by repeat (first | exact Below.refl _ _ | apply below_alloc | refine Below.setCell ?_ (Nat.le_refl _) _ | refine Below.setCell ?_ (by simp) _))).top, RR.out.keep (by repeat (first | exact Below.refl _ _ | apply below_alloc | refine Below.setCell ?_ (Nat.le_refl _) _ | refine Below.setCell ?_ (by simp) _)), D.out.keep (by repeat (first | exact Below.refl _ _ | apply below_alloc | refine Below.setCell ?_ (Nat.le_refl _) _ | refine Below.setCell ?_ (by simp) _)), SX.out.keep (by repeat (first | exact Below.refl _ _ | apply below_alloc | refine Below.setCell ?_ (Nat.le_refl _) _ | refine Below.setCell ?_ (by simp) _)), C_lit w68 [⟨0, 9⟩] (by decide) _ rfl⟩ ?_
              rintro w24 ⟨h_HB, h_HK, h_RR, h_D, h_SX, h_C1⟩
              replace HB := Aside0.mk h_HB
              replace HK := Aside0.mk h_HK
              replace RR := Aside0.mk h_RR
              replace D := Aside0.mk h_D
              replace SX := Aside0.mk h_SX
              have C1 := Aside0.mk h_C1
              clear h_HB h_HK h_RR h_D h_SX h_C1
              refine (runs_put_one gr gr X ⟨w68.heap.size, 0, none⟩ 1 0 9 _ HXl.out RR.out (by have := RR.out.lt; omega) C1.out (by have := LTr.out; show w68.heap.size ≠ gr; omega)).mono ?_
              rintro e w25 ⟨zp, rfl, hr, ho⟩
              replace HB := Aside0.mk (below_only HB.out ho GE_RR.out)
              replace HK := Aside0.mk ((HK.out.onlyR ho RR.out).top)
              replace D := Aside0.mk (D.out.onlyR ho RR.out (by decide))
              replace SX := Aside0.mk (SX.out.onlyR ho RR.out (by decide))
              clear ho
              replace RR := Aside0.mk hr
              clear hr
              clear C1 LTr
              clear RR
              go_wp2_with fail
              have HS : Aside0 (Below w25.heap.size w25 w25) := ⟨Below.refl _ _⟩
              refine start_ (n := 5) (S := fun w' => Below w25.heap.size w25 w' ∧ Blk w' gx 27 (setArr X) ∧ DirtAt w' gd n x) (ds := []) #[false, false, false, false, false] (by kernel_rfl) rfl rfl ⟨(below_drew1 HS.out), (SX.out.keep (below_drew1 (Below.refl _ _))), (D.out.keep (below_drew1 (Below.refl _ _)))⟩ (fun hHeld => ?_)
              refine pure_ (i := 0) (N := some 171) (v := ?_) (a' := ?_) #[true, false, false, false, false] rfl rfl (by kernel_rfl) (fun _ _ _ h => h) (Or.inl ⟨by rfl, ?_⟩) ?_ ?_
              rotate_left
              · intro w'
                go_simp
                with_reducible rfl
              rotate_left
              · simp only [Act.put, List.setIfInBounds_toArray, List.set_cons_zero, List.set_cons_succ, i64_w, i32_w]
                rfl
              refine take_ (i := 2) (N := some 173) (v := ?_) (a' := ?_) #[true, false, true, false, false] rfl rfl (by kernel_rfl) (fun _ _ _ h => h) (Or.inl ⟨by rfl, ?_⟩) hHeld ?_ ?_
              rotate_left
              · rintro w' ⟨s0, s1, s2⟩
                refine row_yields 27 (.tmp 8) ?_ gx ?_ 27 (setArr X) (0, 0) _ s1.hd Try.underlying27 rfl (by rw [setArr_size, HXl.out] <;> exact info27)
                · rfl
                · rfl
              rotate_left
              · simp only [Act.put, List.setIfInBounds_toArray, List.set_cons_zero, List.set_cons_succ, i64_w, i32_w]
                rfl
              refine one_ (i := 1) (N := some 172) #[true, true, true, false, false] rfl rfl (by kernel_rfl) (by decide) (fun K hK => ?_)
              refine goes_ Try.func17 (by kernel_rfl) rfl #[ptr gd] (by rfl) rfl rfl (by simp only [List.map_toArray, List.map_cons, List.map_nil]; rfl) ?_
              with_reducible refine (hDC.out _ hHeld.2.2).mono ?_
              rintro e w70 ⟨rfl, hb⟩
              refine ⟨_, rfl, ?_⟩
              refine hK.out _ _ ⟨(below_step hHeld.1 hb), (hHeld.2.1.keep hb), (hHeld.2.2.keep hb)⟩ (fun hHeld => ?_)
              clear hK K
              refine norm_ (a' := ?_) ?_ ?_
              rotate_left
              · show Act.put _ (some 172) _ = _
                simp only [Act.put, List.setIfInBounds_toArray, List.set_cons_zero, List.set_cons_succ, i64_w, i32_w]
                rfl
              refine one_ (i := 3) (N := some 174) #[true, true, true, true, false] rfl rfl (by kernel_rfl) (by decide) (fun K hK => ?_)
              refine goes_ Try.func24 (by kernel_rfl) rfl #[.agg (setArr X)] (by rfl) rfl rfl (by simp only [List.map_toArray, List.map_cons, List.map_nil]; rfl) ?_
              with_reducible refine (set_cnt X cx HXl.out Hcx.out _).mono ?_
              rintro e w71 ⟨rfl, hb⟩
              refine ⟨_, rfl, ?_⟩
              refine hK.out _ _ ⟨(below_step hHeld.1 hb), (hHeld.2.1.keep hb), (hHeld.2.2.keep hb)⟩ (fun hHeld => ?_)
              clear hK K
              refine norm_ (a' := ?_) ?_ ?_
              rotate_left
              · show Act.put _ (some 174) _ = _
                simp only [Act.put, List.setIfInBounds_toArray, List.set_cons_zero, List.set_cons_succ, i64_w, i32_w]
                rfl
              refine pure_ (i := 4) (N := some 175) (v := ?_) (a' := ?_) #[true, true, true, true, true] rfl rfl (by kernel_rfl) (fun _ _ _ h => h) (Or.inl ⟨by rfl, ?_⟩) ?_ ?_
              rotate_left
              · intro w'
                go_simp
                with_reducible rfl
              rotate_left
              · simp only [Act.put, List.setIfInBounds_toArray, List.set_cons_zero, List.set_cons_succ, i64_w, i32_w]
                rfl
              refine done_ (by kernel_rfl) ?_
              replace HS := Aside0.mk hHeld.1
              replace SX := Aside0.mk hHeld.2.1
              replace D := Aside0.mk hHeld.2.2
              clear hHeld
              replace HB := Aside0.mk (below_step HB.out HS.out)
              replace HK := Aside0.mk ((HK.out.keep HS.out).top)
              clear HS
              go_wp2_with fail
              go_roundg kk
              case measure => omega
              case rel => exact ⟨i + 1, x, LS ++ [T], by omega, by go_num, Hx, Hh, ⟨by rw [List.length_append, HLS.out.1]; rfl, fun y hy => by rcases List.mem_append.1 hy with hy | hy; exact HLS.out.2 y hy; rw [List.mem_singleton.1 hy]; exact hlen.out⟩, HB, D, ⟨by rw [← HX.out]; exact SX.out⟩, HK⟩
      · have hlt' : ¬ (i : Int) < (l.length : Int) := by omega
        have HLn : Aside0 (LS.length ≤ 60) := ⟨by have h1 := HLS.out.1; have h2 := Hl.out; omega⟩
        clear hi
        clear SX
        go_wp2_with fail
        refine (dirt_wipe_nil _).mono ?_
        rintro e w26 ⟨rfl, hB⟩
        replace HB := Aside0.mk (below_step HB.out hB)
        replace D := Aside0.mk (D.out.keep hB)
        replace HK := Aside0.mk ((HK.out.keep hB).top)
        clear hB
        go_wp2_with fail
        refine (dirt_runs_nil _).mono ?_
        rintro e w27 ⟨rfl, hr, hB⟩
        have GE_RR : Aside0 (w.heap.size ≤ w26.heap.size) := ⟨by have := HB.out.size; omega⟩
        replace HB := Aside0.mk (below_step HB.out hB)
        replace D := Aside0.mk (D.out.keep hB)
        replace HK := Aside0.mk ((HK.out.keep hB).top)
        clear hB
        have RR := Aside0.mk hr
        clear hr
        generalize w26.heap.size = gr at *
        go_wp2_with fail
        refine (dirt_mark_nil 0 1 _).mono ?_
        rintro e w28 ⟨rfl, hB⟩
        replace HB := Aside0.mk (below_step HB.out hB)
        replace D := Aside0.mk (D.out.keep hB)
        replace HK := Aside0.mk ((HK.out.keep hB).top)
        replace RR := Aside0.mk (RR.out.keep hB)
        clear hB
        go_wp2_with fail
        refine (dirt_count_nil _).mono ?_
        rintro e w29 ⟨rfl, hB⟩
        replace HB := Aside0.mk (below_step HB.out hB)
        replace D := Aside0.mk (D.out.keep hB)
        replace HK := Aside0.mk ((HK.out.keep hB).top)
        replace RR := Aside0.mk (RR.out.keep hB)
        clear hB
        go_wp2_with fail
        refine (dirt_or_nil _ _).mono ?_
        rintro e w30 ⟨rfl, hB⟩
        replace HB := Aside0.mk (below_step HB.out hB)
        replace D := Aside0.mk (D.out.keep hB)
        replace HK := Aside0.mk ((HK.out.keep hB).top)
        replace RR := Aside0.mk (RR.out.keep hB)
        clear hB
        go_wp2_with fail
        refine (dirt_blocks_nil _).mono ?_
        rintro e w31 ⟨rfl, hB⟩
        replace HB := Aside0.mk (below_step HB.out hB)
        replace D := Aside0.mk (D.out.keep hB)
        replace HK := Aside0.mk ((HK.out.keep hB).top)
        replace RR := Aside0.mk (RR.out.keep hB)
        clear hB
        go_wp2_with fail
        refine (dirt_has_nil 0 _).mono ?_
        rintro e w32 ⟨rfl, hB⟩
        replace HB := Aside0.mk (below_step HB.out hB)
        replace D := Aside0.mk (D.out.keep hB)
        replace HK := Aside0.mk ((HK.out.keep hB).top)
        replace RR := Aside0.mk (RR.out.keep hB)
        clear hB
        go_wp2_with fail
        refine (dirt_bytes_nil _).mono ?_
        rintro e w33 ⟨rfl, hB⟩
        replace HB := Aside0.mk (below_step HB.out hB)
        replace D := Aside0.mk (D.out.keep hB)
        replace HK := Aside0.mk ((HK.out.keep hB).top)
        replace RR := Aside0.mk (RR.out.keep hB)
        clear hB
        go_wp2_with fail
        refine (runs_count0 gr gr _ RR.out).mono ?_
        rintro e w34 ⟨rfl, hB⟩
        replace HB := Aside0.mk (below_step HB.out hB)
        replace D := Aside0.mk (D.out.keep hB)
        replace HK := Aside0.mk ((HK.out.keep hB).top)
        replace RR := Aside0.mk (RR.out.keep hB)
        clear hB
        go_wp2_with fail
        refine (dirt_or_none gd _).mono ?_
        rintro e w35 ⟨rfl, hB⟩
        replace HB := Aside0.mk (below_step HB.out hB)
        replace D := Aside0.mk (D.out.keep hB)
        replace HK := Aside0.mk ((HK.out.keep hB).top)
        replace RR := Aside0.mk (RR.out.keep hB)
        clear hB
        go_wp2_with fail
        refine (kept_apart gB w.heap.size _ _ _ _ _ HK.out ⟨by simp, by simp⟩ ⟨by have := HLn.out; omega, fun y hy => by have := HLS.out.2 y hy; omega⟩ ⟨by simp, by simp⟩ HB.out.size).mono ?_
        rintro e w99 ⟨rfl, hB⟩
        go_wp2_with fail
        go_ret
        exact ⟨rfl, HB.out.trans hB⟩
theorem walk (bl : Int) (A : Option Addr) (c : Nat) (l : List Op3) (ask : Int) (w : World) (_ : (Lit.int .i64 bl).wf = true) (_ : l.length ≤ c) (hA : Ops3C w A l) (_ : (Lit.int .i64 ask).wf = true) :
    Calls Try.prog 6 #[.int .i64 bl, .slice A l.length c, .int .i64 ask] w fun e w' => e = .returned (.bool true) ∧ Below w.heap.size w w' := by
  by_cases h : 60 < (l.length : Int)
  · exact early bl ask A c l w h
  · exact main bl ask _ A c l w rfl (by omega) hA
end Go.Proofs.Ytffemlfdhkndiaa.WDirtPlays
end
