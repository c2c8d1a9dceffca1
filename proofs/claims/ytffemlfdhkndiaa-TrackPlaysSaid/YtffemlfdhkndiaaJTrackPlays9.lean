/- Parts of the proof for TrackPlays: WaTrackPlays. -/
import Derived.Deep.WholeRow
import Derived.Deep.DeepCutAuto
import Derived.Deep.CutBlock
import Derived.Test.YtffemlfdhkndiaaJTrackPlays8
import Derived.Test.YtffemlfdhkndiaaJTrackPlays3
import Derived.Test.YtffemlfdhkndiaaJTrackPlays4
import Derived.Test.YtffemlfdhkndiaaJTrackPlays2
section
namespace Go.Proofs.Ytffemlfdhkndiaa.WTrackPlays
open Go.RowKit Go.Proofs.YtffemlfdhkndiaaW.PrintWords Go.Proofs.YtffemlfdhkndiaaW.PrintLast Go.Proofs.YtffemlfdhkndiaaW.PrintMore Go.Proofs.Ytffemlfdhkndiaa.A Go.Proofs.Ytffemlfdhkndiaa.Hand Go.Proofs.Ytffemlfdhkndiaa.Open Go.Proofs.Ytffemlfdhkndiaa.Bits
set_option linter.unusedVariables false
set_option linter.unusedSimpArgs false
attribute [local go_sem] max2_int min2_int max_two min_two max_three min_three max_four min_four
theorem C_lit1 (W : World) (n : Nat) (hn : W.heap.size = n) (a m : Int) : Kd.C k31 (W.alloc (.cells #[.int .i64 a, .int .i64 m] 31)) (some ⟨n, 0, none⟩) 1 [⟨a, m⟩] := by
  subst hn
  exact C_lit W [⟨a, m⟩] (by simp) _ rfl
abbrev Ends (w : World) : Ending → World → Prop := fun e w' => e = .returned (.bool true) ∧ Below w.heap.size w w'
set_option maxRecDepth 100000 in
theorem early (z : Int) (A : Option Addr) (c : Nat) (l : List Op6) (w : World) (h : 60 < (l.length : Int)) :
    Calls Try.prog 12 #[.int .i64 z, .slice A l.length c] w (Ends w) := by
  go_enter Try.func12, Try.ntmps12
  go_wp2_with fail
  refine (alive6 _).mono ?_
  rintro e w1 ⟨rfl, hB⟩
  go_wp2_with fail
  go_ret
  exact ⟨rfl, hB⟩
set_option maxRecDepth 100000 in
theorem bad (z : Int) (A : Option Addr) (c : Nat) (l : List Op6) (w : World) (h : (l.length : Int) ≤ 60) (hz : z < 1 ∨ 64 < z) :
    Calls Try.prog 12 #[.int .i64 z, .slice A l.length c] w (Ends w) := by
  have n1 : ¬ (60 : Int) < (l.length : Int) := by omega
  have HZ := Aside0.mk hz
  go_enter Try.func12, Try.ntmps12
  go_wp2_with fail
  refine (alive6 _).mono ?_
  rintro e w1 ⟨rfl, hB⟩
  clear hz
  go_wp2_with fail
  refine (track_new_bad z HZ.out _).mono ?_
  rintro e w2 ⟨rfl, hB2⟩
  have hB3 := Aside0.mk (below_step hB hB2)
  rcases HZ.out with h1 | h1
  · go_wp2_with fail
    go_ret
    exact ⟨rfl, hB3.out⟩
  · have h2 : ¬ z < 1 := by omega
    go_wp2_with fail
    go_ret
    exact ⟨rfl, hB3.out⟩
def qq.T63 : Bool × List (List Nat × List Nat) := (true, [([], []), ([], []), ([], []), ([2], [2]), ([], []), ([4], [4]), ([1, 3, 5], [1, 3, 5]), ([6, 6], [6]), ([0, 7, 7], [0, 7]), ([8], [8]), ([9, 8], [9]), ([10], [10]), ([10], [10]), ([10], [10]), ([13, 10], [10, 13]), ([10], [10]), ([15, 10], [10, 15]), ([12, 14, 16, 10, 10], [10, 12, 14, 16]), ([17, 17, 10], [10, 17]), ([11, 18, 18, 10], [10, 11, 18]), ([19, 10], [10, 19]), ([10, 20], [10, 20]), ([21, 19], [21]), ([22], [22]), ([23, 22, 22], [22, 23]), ([22], [22]), ([25, 22], [22, 25]), ([24, 26, 22], [22, 24, 26]), ([22, 27], [22, 27]), ([28, 24], [28]), ([29], [29]), ([30, 29, 29], [29, 30]), ([29], [29]), ([32, 29], [29, 32]), ([31, 33, 29], [29, 31, 33]), ([29, 34], [29, 34])])
def qq.B63 : List Nat := [0, 0, 0, 4, 0, 16, 62, 126, 255, 511, 1023, 2047, 2047, 2047, 10239, 2047, 34815, 129023, 260095, 524287, 1048575, 2097151, 4194303, 8388607, 16777215, 8388607, 41943039, 134217727, 268435455, 536870911, 1073741823, 2147483647, 1073741823, 5368709119, 17179869183, 34359738367]
theorem qq.bits63 : waitsOk qq.T63.2 qq.B63 = true := by kernel_rfl
abbrev qq.m0 : Array Bool := #[o, z, z, z, z, z, z, z, z, z, z, z, z, z, z, z, z, z, z, z, z, z, z, z, z, z, z, z, z, z, z, z, z, z, z, z]
abbrev qq.m1 : Array Bool := #[o, z, o, z, z, z, z, z, z, z, z, z, z, z, z, z, z, z, z, z, z, z, z, z, z, z, z, z, z, z, z, z, z, z, z, z]
abbrev qq.m2 : Array Bool := #[o, z, o, z, o, z, z, z, z, z, z, z, z, z, z, z, z, z, z, z, z, z, z, z, z, z, z, z, z, z, z, z, z, z, z, z]
abbrev qq.m3 : Array Bool := #[o, o, o, z, o, z, z, z, z, z, z, z, z, z, z, z, z, z, z, z, z, z, z, z, z, z, z, z, z, z, z, z, z, z, z, z]
abbrev qq.m4 : Array Bool := #[o, o, o, o, o, z, z, z, z, z, z, z, z, z, z, z, z, z, z, z, z, z, z, z, z, z, z, z, z, z, z, z, z, z, z, z]
abbrev qq.m5 : Array Bool := #[o, o, o, o, o, o, z, z, z, z, z, z, z, z, z, z, z, z, z, z, z, z, z, z, z, z, z, z, z, z, z, z, z, z, z, z]
abbrev qq.m6 : Array Bool := #[o, o, o, o, o, o, o, z, z, z, z, z, z, z, z, z, z, z, z, z, z, z, z, z, z, z, z, z, z, z, z, z, z, z, z, z]
abbrev qq.m7 : Array Bool := #[o, o, o, o, o, o, o, o, z, z, z, z, z, z, z, z, z, z, z, z, z, z, z, z, z, z, z, z, z, z, z, z, z, z, z, z]
abbrev qq.m8 : Array Bool := #[o, o, o, o, o, o, o, o, o, z, z, z, z, z, z, z, z, z, z, z, z, z, z, z, z, z, z, z, z, z, z, z, z, z, z, z]
abbrev qq.m9 : Array Bool := #[o, o, o, o, o, o, o, o, o, o, z, z, z, z, z, z, z, z, z, z, z, z, z, z, z, z, z, z, z, z, z, z, z, z, z, z]
abbrev qq.m10 : Array Bool := #[o, o, o, o, o, o, o, o, o, o, o, z, z, z, z, z, z, z, z, z, z, z, z, z, z, z, z, z, z, z, z, z, z, z, z, z]
abbrev qq.m11 : Array Bool := #[o, o, o, o, o, o, o, o, o, o, o, o, z, z, z, z, z, z, z, z, z, z, z, z, z, z, z, z, z, z, z, z, z, z, z, z]
abbrev qq.m12 : Array Bool := #[o, o, o, o, o, o, o, o, o, o, o, o, z, o, z, z, z, z, z, z, z, z, z, z, z, z, z, z, z, z, z, z, z, z, z, z]
abbrev qq.m13 : Array Bool := #[o, o, o, o, o, o, o, o, o, o, o, o, z, o, z, o, z, z, z, z, z, z, z, z, z, z, z, z, z, z, z, z, z, z, z, z]
abbrev qq.m14 : Array Bool := #[o, o, o, o, o, o, o, o, o, o, o, o, o, o, z, o, z, z, z, z, z, z, z, z, z, z, z, z, z, z, z, z, z, z, z, z]
abbrev qq.m15 : Array Bool := #[o, o, o, o, o, o, o, o, o, o, o, o, o, o, o, o, z, z, z, z, z, z, z, z, z, z, z, z, z, z, z, z, z, z, z, z]
abbrev qq.m16 : Array Bool := #[o, o, o, o, o, o, o, o, o, o, o, o, o, o, o, o, o, z, z, z, z, z, z, z, z, z, z, z, z, z, z, z, z, z, z, z]
abbrev qq.m17 : Array Bool := #[o, o, o, o, o, o, o, o, o, o, o, o, o, o, o, o, o, o, z, z, z, z, z, z, z, z, z, z, z, z, z, z, z, z, z, z]
abbrev qq.m18 : Array Bool := #[o, o, o, o, o, o, o, o, o, o, o, o, o, o, o, o, o, o, o, z, z, z, z, z, z, z, z, z, z, z, z, z, z, z, z, z]
abbrev qq.m19 : Array Bool := #[o, o, o, o, o, o, o, o, o, o, o, o, o, o, o, o, o, o, o, o, z, z, z, z, z, z, z, z, z, z, z, z, z, z, z, z]
abbrev qq.m20 : Array Bool := #[o, o, o, o, o, o, o, o, o, o, o, o, o, o, o, o, o, o, o, o, o, z, z, z, z, z, z, z, z, z, z, z, z, z, z, z]
abbrev qq.m21 : Array Bool := #[o, o, o, o, o, o, o, o, o, o, o, o, o, o, o, o, o, o, o, o, o, o, z, z, z, z, z, z, z, z, z, z, z, z, z, z]
abbrev qq.m22 : Array Bool := #[o, o, o, o, o, o, o, o, o, o, o, o, o, o, o, o, o, o, o, o, o, o, o, z, z, z, z, z, z, z, z, z, z, z, z, z]
abbrev qq.m23 : Array Bool := #[o, o, o, o, o, o, o, o, o, o, o, o, o, o, o, o, o, o, o, o, o, o, o, o, z, z, z, z, z, z, z, z, z, z, z, z]
abbrev qq.m24 : Array Bool := #[o, o, o, o, o, o, o, o, o, o, o, o, o, o, o, o, o, o, o, o, o, o, o, o, z, o, z, z, z, z, z, z, z, z, z, z]
abbrev qq.m25 : Array Bool := #[o, o, o, o, o, o, o, o, o, o, o, o, o, o, o, o, o, o, o, o, o, o, o, o, z, o, o, z, z, z, z, z, z, z, z, z]
abbrev qq.m26 : Array Bool := #[o, o, o, o, o, o, o, o, o, o, o, o, o, o, o, o, o, o, o, o, o, o, o, o, o, o, o, z, z, z, z, z, z, z, z, z]
abbrev qq.m27 : Array Bool := #[o, o, o, o, o, o, o, o, o, o, o, o, o, o, o, o, o, o, o, o, o, o, o, o, o, o, o, o, z, z, z, z, z, z, z, z]
abbrev qq.m28 : Array Bool := #[o, o, o, o, o, o, o, o, o, o, o, o, o, o, o, o, o, o, o, o, o, o, o, o, o, o, o, o, o, z, z, z, z, z, z, z]
abbrev qq.m29 : Array Bool := #[o, o, o, o, o, o, o, o, o, o, o, o, o, o, o, o, o, o, o, o, o, o, o, o, o, o, o, o, o, o, z, z, z, z, z, z]
abbrev qq.m30 : Array Bool := #[o, o, o, o, o, o, o, o, o, o, o, o, o, o, o, o, o, o, o, o, o, o, o, o, o, o, o, o, o, o, o, z, z, z, z, z]
abbrev qq.m31 : Array Bool := #[o, o, o, o, o, o, o, o, o, o, o, o, o, o, o, o, o, o, o, o, o, o, o, o, o, o, o, o, o, o, o, z, o, z, z, z]
abbrev qq.m32 : Array Bool := #[o, o, o, o, o, o, o, o, o, o, o, o, o, o, o, o, o, o, o, o, o, o, o, o, o, o, o, o, o, o, o, z, o, o, z, z]
abbrev qq.m33 : Array Bool := #[o, o, o, o, o, o, o, o, o, o, o, o, o, o, o, o, o, o, o, o, o, o, o, o, o, o, o, o, o, o, o, o, o, o, z, z]
abbrev qq.m34 : Array Bool := #[o, o, o, o, o, o, o, o, o, o, o, o, o, o, o, o, o, o, o, o, o, o, o, o, o, o, o, o, o, o, o, o, o, o, o, z]
abbrev qq.m35 : Array Bool := #[o, o, o, o, o, o, o, o, o, o, o, o, o, o, o, o, o, o, o, o, o, o, o, o, o, o, o, o, o, o, o, o, o, o, o, o]
set_option maxRecDepth 100000 in
set_option maxHeartbeats 20000000 in
theorem main (n : Nat) (A : Option Addr) (c : Nat) (l : List Op6) (w : World) (hn1 : 1 ≤ n) (hn64 : n ≤ 64) (hl : l.length ≤ 60) (hA : OpsC w A l) :
    Calls Try.prog 12 #[.int .i64 (n : Int), .slice A l.length c] w (Ends w) := by
  have HB := Aside0.mk (Below.refl w.heap.size w)
  have CA := Aside0.mk hA
  have Hl := Aside0.mk hl
  have i1 : (l.length : Int) ≤ 60 := by omega
  have n1 : ¬ (60 : Int) < (l.length : Int) := by omega
  have Hn1 := Aside0.mk hn1
  have Hn64 := Aside0.mk hn64
  have GB : Aside0 (w.heap.size ≤ w.heap.size) := ⟨Nat.le_refl _⟩
  have i2 : ¬ (n : Int) < 1 := by omega
  have i3 : ¬ (64 : Int) < (n : Int) := by omega
  clear hA hl hn1 hn64
  go_enter Try.func12, Try.ntmps12
  go_wp2_with fail
  refine (alive6 _).mono ?_
  rintro e w1 ⟨rfl, hB⟩
  replace HB := Aside0.mk (below_step HB.out hB)
  clear hB
  go_wp2_with fail
  refine (track_new n Hn1.out Hn64.out _).mono ?_
  rintro e w2 ⟨gt, rfl, ht, hB⟩
  have T := Aside0.mk (ht.lower HB.out.size)
  clear ht
  replace HB := Aside0.mk (below_step HB.out hB)
  clear hB
  have GEX : Aside0 (w.heap.size ≤ w2.heap.size) := ⟨HB.out.size⟩
  go_wp2_with (with_reducible refine wpList_store_row rfl 75 (.tmp 7) (.tmp 57) rfl (w2.heap.size) (modC n none64 none64 true false false) rfl rfl 75 _ (heap_alloc_new _ _) (by rw [modC_size _ _ _ _ _ _ (by simp) (by simp)]; exact infoM) (by rw [modC_size _ _ _ _ _ _ (by simp) (by simp)]; with_unfolding_all rfl) (modC_one _ _ _ _ _ _) ?_)
  try rw [World.setRow_alloc_new]
  refine code_abs (fun WQ => Below w.heap.size w WQ ∧ TrackAt WQ w.heap.size gt n 0 0 true false false ∧ ModAt WQ w2.heap.size n (bitsS n 0) (bitsS n 0) true false false ∧ KeptAt WQ w.heap.size (w2.heap.size + 1) (fun k => WQ.heap.size ≤ k) [] [] []) ⟨below_step HB.out (below_alloc (below_alloc (Below.refl _ _) _) _), T.out.keep (below_alloc (below_alloc (Below.refl _ _) _) _), (by rw [bits_none]; exact (Blk.new _ _ _).alloc _), KeptAt.new' _ _ _ (by simp) (by simp; have := GEX.out; omega)⟩ ?_
  rintro w3 ⟨h_HB, h_T, h_M, h_HK⟩
  replace HB := Aside0.mk h_HB
  replace T := Aside0.mk h_T
  have M := Aside0.mk h_M
  have HK := Aside0.mk h_HK
  clear h_HB h_T h_M h_HK
  generalize w2.heap.size = gm at *
  obtain ⟨gB, hgB⟩ : ∃ g, g = gm + 1 := ⟨_, rfl⟩
  rw [← hgB] at HK ⊢
  clear hgB
  have GE_M := GEX
  go_loopg [5, 9] l.length (fun kq v5 v9 wz => ∃ (i gt x1 x2 : Nat) (l1 l2 b : Bool) (LS : List (List S31)), i + kq = l.length ∧ v5 = ptr gt ∧ v9 = .int .i64 (i : Int) ∧ Aside0 (Inv n x1 x2 l2 b) ∧ Aside0 (LS.length = 2 * i ∧ ∀ y ∈ LS, y.length ≤ 65) ∧ Aside0 (Below w.heap.size w wz) ∧ Aside0 (TrackAt wz w.heap.size gt n x1 x2 l1 l2 b) ∧ Aside0 (ModAt wz gm n (bitsS n x1) (bitsS n x2) l1 l2 b) ∧ Aside0 (KeptAt wz w.heap.size gB (fun k => wz.heap.size ≤ k) [] LS []))
  case atStart => exact ⟨0, gt, 0, 0, true, false, false, [], by omega, rfl, rfl, ⟨Inv.zero n⟩, ⟨rfl, fun y hy => by cases hy⟩, HB, T, M, HK⟩
  case round =>
    clear HB T M HK
    obtain ⟨i, gt, x1, x2, l1, l2, b, LS, hi, rfl, rfl, HI, HLS, HB, T, M, HK⟩ := hrel
    by_cases hlt : i < l.length
    · have hlt' : (i : Int) < (l.length : Int) := by omega
      obtain ⟨kk, rfl⟩ : ∃ z, gk = z + 1 := ⟨gk - 1, by omega⟩
      obtain ⟨ad, e1, x0⟩ := (CA.out.keep HB.out).at i hlt
      clear x0
      subst e1
      obtain ⟨O, hO⟩ : ∃ O, O = l[i] := ⟨_, rfl⟩
      have HO : Aside0 (l[i]? = some O) := ⟨by rw [hO]; exact List.getElem?_eq_getElem hlt⟩
      clear hO
      obtain ⟨ki, F, Z⟩ := O
      have L1 : Aside0 ((bitsS n x1).length = 64) := ⟨bitsS_length n x1⟩
      have L2 : Aside0 ((bitsS n x2).length = 64) := ⟨bitsS_length n x2⟩
      obtain ⟨o0, o1, o2⟩ := opsC_at (CA.out.keep HB.out) HO.out
      simp only at o0 o1 o2
      go_upto_block 2 with fail
      clear o0 o1 o2
      go_cut [5, 10] (fun v5 v10 wc => ∃ (gt' y1 y2 : Nat) (m1 m2 c' : Bool), v5 = ptr gt' ∧ v10 = .bool true ∧ Aside0 (Inv n y1 y2 m2 c') ∧ Aside0 (Below w.heap.size w wc) ∧ Aside0 (TrackAt wc w.heap.size gt' n y1 y2 m1 m2 c') ∧ Aside0 (ModAt wc gm n (bitsS n y1) (bitsS n y2) m1 m2 c') ∧ Aside0 (KeptAt wc w.heap.size gB (fun k => wc.heap.size ≤ k) [] LS []))
      case first =>
        rcases Decidable.em (ki = 1) with rfl | hk1
        · skip
          as_aux_lemma =>
          obtain ⟨o0, o1, o2⟩ := opsC_at (CA.out.keep HB.out) HO.out
          simp only at o0 o1 o2
          go_wp2_with fail
          clear o0 o1 o2
          refine calls_abs (fun WQ => Below w.heap.size w WQ ∧ TrackAt WQ w.heap.size gt n x1 x2 l1 l2 b ∧ ModAt WQ gm n (bitsS n x1) (bitsS n x2) l1 l2 b ∧ KeptAt WQ w.heap.size gB (fun k => WQ.heap.size ≤ k) [] LS [] ∧ Kd.C k31 WQ (some ⟨wr.heap.size, 0, none⟩) 1 [⟨F, Z⟩]) ⟨below_step HB.out (by repeat (first | exact Below.refl _ _ | apply below_alloc | refine Below.setCell ?_ (Nat.le_refl _) _ | refine Below.setCell ?_ (by simp) _)), T.out.keep (by repeat (first | exact Below.refl _ _ | apply below_alloc | refine Below.setCell ?_ (Nat.le_refl _) _ | refine Below.setCell ?_ (by simp) _)), M.out.keep (by repeat (first | exact Below.refl _ _ | apply below_alloc | refine Below.setCell ?_ (Nat.le_refl _) _ | refine Below.setCell ?_ (by simp) _)), (HK.out.keep (by repeat (first | exact Below.refl _ _ | apply below_alloc | refine Below.setCell ?_ (Nat.le_refl _) _ | refine Below.setCell ?_ (by simp) _))).top, C_lit1 _ _ rfl F Z⟩ ?_
          rintro w4 ⟨h_HB, h_T, h_M, h_HK, h_C1⟩
          replace HB := Aside0.mk h_HB
          replace T := Aside0.mk h_T
          replace M := Aside0.mk h_M
          replace HK := Aside0.mk h_HK
          have C1 := Aside0.mk h_C1
          clear h_HB h_T h_M h_HK h_C1
          refine (put_one none64 ⟨by simp⟩ ⟨wr.heap.size, 0, none⟩ 1 F Z _ C1.out (by decide)).mono ?_
          rintro e w5 ⟨rfl, hB⟩
          replace HB := Aside0.mk (below_step HB.out hB)
          replace T := Aside0.mk (T.out.keep hB)
          replace M := Aside0.mk (M.out.keep hB)
          replace HK := Aside0.mk ((HK.out.keep hB).top)
          clear hB
          clear C1
          have HSl : Aside0 ((spanS F Z).length = 64) := ⟨spanS_len F Z⟩
          go_upto_region 25 with (with_reducible refine wpList_store_row rfl 27 (.tmp 12) (.tmp 92) rfl (w5.heap.size) (setArr (spanS F Z)) rfl rfl 27 _ (heap_alloc_new _ _) (by rw [setArr_size, HSl.out] <;> exact info27) (by rw [setArr_size, HSl.out] <;> with_unfolding_all rfl) (setArr_one _) ?_)
          rw [World.setRow_alloc_new]
          have HSX : Aside0 (gm < w5.heap.size) := ⟨M.out.lt⟩
          refine code_abs (fun WQ => Below w.heap.size w WQ ∧ TrackAt WQ w.heap.size gt n x1 x2 l1 l2 b ∧ ModAt WQ gm n (bitsS n x1) (bitsS n x2) l1 l2 b ∧ KeptAt WQ w.heap.size gB (fun k => WQ.heap.size ≤ k) [] LS [] ∧ Blk WQ w5.heap.size 27 (setArr (spanS F Z))) ⟨below_step HB.out (by repeat (first | exact Below.refl _ _ | apply below_alloc | refine Below.setCell ?_ (Nat.le_refl _) _ | refine Below.setCell ?_ (by simp) _)), T.out.keep (by repeat (first | exact Below.refl _ _ | apply below_alloc | refine Below.setCell ?_ (Nat.le_refl _) _ | refine Below.setCell ?_ (by simp) _)), M.out.keep (by repeat (first | exact Below.refl _ _ | apply below_alloc | refine Below.setCell ?_ (Nat.le_refl _) _ | refine Below.setCell ?_ (by simp) _)), (HK.out.keep (by repeat (first | exact Below.refl _ _ | apply below_alloc | refine Below.setCell ?_ (Nat.le_refl _) _ | refine Below.setCell ?_ (by simp) _))).top, Blk.new _ _ _⟩ ?_
          rintro w6 ⟨h_HB, h_T, h_M, h_HK, h_SS⟩
          replace HB := Aside0.mk h_HB
          replace T := Aside0.mk h_T
          replace M := Aside0.mk h_M
          replace HK := Aside0.mk h_HK
          have SS := Aside0.mk h_SS
          clear h_HB h_T h_M h_HK h_SS
          generalize w5.heap.size = gs at *
          replace M : Aside0 (ModAt w6 gm n (upS (fun j => (bitsS n x1).getD j false || (spanS F Z).getD j false) (bitsS n x1) 0) (bitsS n x2) l1 l2 b) := ⟨by rw [upS_zero _ _ L1.out]; exact M.out⟩
          go_wp2_with fail
          go_loopg [11, 13] n (fun kq v11 v13 wz => ∃ k : Nat, k + kq = n ∧ v11 = .int .i64 ((cntB (fun j => (spanS F Z).getD j false && !(bitsS n x1).getD j false) k : Nat) : Int) ∧ v13 = .int .i64 (k : Int) ∧ Aside0 (Below w.heap.size w wz) ∧ Aside0 (TrackAt wz w.heap.size gt n x1 x2 l1 l2 b) ∧ Aside0 (ModAt wz gm n (upS (fun j => (bitsS n x1).getD j false || (spanS F Z).getD j false) (bitsS n x1) k) (bitsS n x2) l1 l2 b) ∧ Aside0 (KeptAt wz w.heap.size gB (fun k => wz.heap.size ≤ k) [] LS []) ∧ Aside0 (Blk wz gs 27 (setArr (spanS F Z))))
          case atStart => exact ⟨0, by omega, rfl, rfl, HB, T, M, HK, SS⟩
          case round =>
            clear HB T M HK SS
            obtain ⟨k, hk, rfl, rfl, HB, T, M, HK, SS⟩ := hrel
            have Hk := Aside0.mk hk
            clear hk
            by_cases hlk : k < n
            · have hlk' : (k : Int) < (n : Int) := by omega
              have hk64 : k < 64 := by have := Hn64.out; omega
              have hk64' : (k : Int) < 64 := by omega
              obtain ⟨kz, rfl⟩ : ∃ z, gk = z + 1 := ⟨gk - 1, by have := Hk.out; omega⟩
              have hst := Aside0.mk (upS_step (fun j => (bitsS n x1).getD j false || (spanS F Z).getD j false) (bitsS n x1) k hk64)
              have hsm := Aside0.mk (upS_same (fun j => (bitsS n x1).getD j false || (spanS F Z).getD j false) (bitsS n x1) k)
              have s0 := M.out.cell (mod_x (k := k) (by rw [upS_length]; omega))
              rw [upS_get _ _ _ _ hk64, if_neg (Nat.lt_irrefl k)] at s0
              have sf := M.out.frozen (1 + k)
              have s1 := SS.out.cell (setArr_get (spanS F Z) k (by rw [HSl.out]; omega))
              have hcs : Aside0 (cntB (fun j => (spanS F Z).getD j false && !(bitsS n x1).getD j false) (k + 1) = cntB (fun j => (spanS F Z).getD j false && !(bitsS n x1).getD j false) k + (if ((spanS F Z).getD k false && !(bitsS n x1).getD k false) = true then 1 else 0)) := ⟨rfl⟩
              have hcl : ((cntB (fun j => (spanS F Z).getD j false && !(bitsS n x1).getD j false) k : Nat) : Int) ≤ 64 := by have := cntB_le (fun j => (spanS F Z).getD j false && !(bitsS n x1).getD j false) k; omega
              obtain ⟨cc, hcc⟩ : ∃ q, q = cntB (fun j => (spanS F Z).getD j false && !(bitsS n x1).getD j false) k := ⟨_, rfl⟩
              rw [← hcc] at hcs hcl ⊢
              clear hcc
              obtain ⟨pb, hpb⟩ : ∃ q, q = (bitsS n x1).getD k false := ⟨_, rfl⟩
              obtain ⟨qb, hqb⟩ : ∃ q, q = (spanS F Z).getD k false := ⟨_, rfl⟩
              rw [← hpb] at s0 hcs
              rw [← hqb] at s1 hcs
              have hstb : Aside0 ((upS (fun j => (bitsS n x1).getD j false || (spanS F Z).getD j false) (bitsS n x1) k).set k (pb || qb) = upS (fun j => (bitsS n x1).getD j false || (spanS F Z).getD j false) (bitsS n x1) (k + 1)) := ⟨by rw [hpb, hqb]; exact hst.out⟩
              have hsmb : Aside0 ((pb || qb) = pb → upS (fun j => (bitsS n x1).getD j false || (spanS F Z).getD j false) (bitsS n x1) k = upS (fun j => (bitsS n x1).getD j false || (spanS F Z).getD j false) (bitsS n x1) (k + 1)) := ⟨fun h => hsm.out (by rw [hpb, hqb] at h; exact h)⟩
              clear hpb hqb hst hsm
              cases qb with
              | false =>
                cases pb with
                | false =>
                  go_wp2_with fail
                  rw [hsmb.out rfl] at M
                  have hc2 := hcs.out
                  simp only [Bool.false_and, Bool.true_and, Bool.not_true, Bool.not_false, Bool.false_eq_true, if_false, Nat.add_zero] at hc2
                  clear s0 s1 sf
                  go_roundg kz
                  case measure => omega
                  case rel => exact ⟨k + 1, by have := Hk.out; omega, by rw [hc2], by go_num, HB, T, M, HK, SS⟩
                | true =>
                  go_wp2_with fail
                  rw [hsmb.out rfl] at M
                  have hc2 := hcs.out
                  simp only [Bool.false_and, Bool.true_and, Bool.not_true, Bool.not_false, Bool.false_eq_true, if_false, Nat.add_zero] at hc2
                  clear s0 s1 sf
                  go_roundg kz
                  case measure => omega
                  case rel => exact ⟨k + 1, by have := Hk.out; omega, by rw [hc2], by go_num, HB, T, M, HK, SS⟩
              | true =>
                cases pb with
                | true =>
                  go_wp2_with fail
                  rw [hsmb.out rfl] at M
                  have hc2 := hcs.out
                  simp only [Bool.false_and, Bool.true_and, Bool.not_true, Bool.not_false, Bool.false_eq_true, if_false, Nat.add_zero] at hc2
                  clear s0 s1 sf
                  go_roundg kz
                  case measure => omega
                  case rel => exact ⟨k + 1, by have := Hk.out; omega, by rw [hc2], by go_num, HB, T, M, HK, SS⟩
                | false =>
                  go_wp2_with fail
                  have Z1 : ModAt (wr.setCell ⟨gm, 1 + k, none⟩ (.bool true)) gm n ((upS (fun j => (bitsS n x1).getD j false || (spanS F Z).getD j false) (bitsS n x1) k).set k true) (bitsS n x2) l1 l2 b := by have := M.out.set_ (1 + k) (.bool true); rw [mod_setx (upS_length _ _ _) hk64] at this; exact this
                  have h1 := hstb.out
                  simp only [Bool.false_or] at h1
                  rw [h1] at Z1
                  have ho : Only wr (wr.setCell ⟨gm, 1 + k, none⟩ (.bool true)) gm := only_set (only_refl wr gm) (1 + k) (.bool true)
                  have HBn := Aside0.mk (below_only HB.out ho GE_M.out)
                  have Tn := Aside0.mk (T.out.onlyB ho M.out (by decide) (by decide))
                  have HKn := Aside0.mk ((HK.out.only ho M.out (by decide)).top)
                  have SSn := Aside0.mk (SS.out.far (p := ⟨gm, 1 + k, none⟩) (by have := HSX.out; show gs ≠ gm; omega) (.bool true))
                  have hc2 := hcs.out
                  simp only [Bool.true_and, Bool.not_false, if_true] at hc2
                  clear h1 ho HB T HK SS s0 s1 sf
                  go_roundg kz
                  case measure => omega
                  case rel => exact ⟨k + 1, by have := Hk.out; omega, by rw [hc2]; go_num, by go_num, HBn, Tn, ⟨Z1⟩, HKn, SSn⟩
            · have hlk' : ¬ (k : Int) < (n : Int) := by omega
              have hkn : k = n := by have := Hk.out; omega
              have Hfin := Aside0.mk (upS_bits (x := x1) (s := spanS F Z) Hn64.out (Nat.le_refl n) (fun k hk => mark_get n F Z k hk))
              have hcn := cnt_marks n x1 F Z Hn64.out
              rw [hkn, Hfin.out] at M
              subst hkn
              rw [hcn]
              clear hcn Hfin
              clear SS
              obtain ⟨o0, o1, o2⟩ := opsC_at (CA.out.keep HB.out) HO.out
              simp only at o0 o1 o2
              go_wp2_with fail
              clear o0 o1 o2
              refine (track_mark w.heap.size gt k x1 x2 l1 l2 b _ T.out F Z Hn64.out HI.out.1).mono ?_
              rintro e w7 ⟨rfl, ht, hB⟩
              replace HB := Aside0.mk (below_mix HB.out GB.out hB)
              replace M := Aside0.mk (M.out.deep hB (by decide) (by decide))
              replace HK := Aside0.mk ((HK.out.deep hB).top)
              clear hB
              replace T := Aside0.mk ht
              clear ht
              generalize ((cnt (minus (markV k F Z) x1) : Nat) : Int) = zz at *
              go_wp2_with fail
              go_meet
              case rel => exact ⟨gt, x1 ||| markV k F Z, x2, l1, l2, b, rfl, rfl, ⟨⟨or_lt HI.out.1 (markV_lt k F Z), HI.out.2.1, HI.out.2.2.1.or (Hi.mark k F Z), HI.out.2.2.2.1, HI.out.2.2.2.2⟩⟩, HB, T, M, HK⟩
        · have hk1b : (ki == 1) = false := by simpa using hk1
          rcases Decidable.em (ki = 2) with rfl | hk2
          · skip
            as_aux_lemma =>
            have L0 : Aside0 ((bitsS n 0).length = 64) := ⟨bitsS_length n 0⟩
            cases b with
            | true =>
              obtain ⟨o0, o1, o2⟩ := opsC_at (CA.out.keep HB.out) HO.out
              simp only at o0 o1 o2
              have db := M.out.cell (mod_f L1.out L2.out 2 _ rfl)
              go_wp2_with fail
              clear o0 o1 o2
              clear db
              go_wp2_with fail
              refine (freeze_busy w.heap.size gt n x1 x2 l1 l2 _ Hn64.out T.out).mono ?_
              rintro e w8 ⟨rfl, ht, hB⟩
              replace HB := Aside0.mk (below_mix HB.out GB.out hB)
              replace M := Aside0.mk (M.out.deep hB (by decide) (by decide))
              replace HK := Aside0.mk ((HK.out.deep hB).top)
              clear hB
              replace T := Aside0.mk ht
              clear ht
              go_wp2_with fail
              go_meet
              case rel => exact ⟨gt, x1, x2, l1, l2, true, rfl, rfl, HI, HB, T, M, HK⟩
            | false =>
              obtain ⟨X1, hX1⟩ : ∃ X, X = bitsS n x1 := ⟨_, rfl⟩
              obtain ⟨X0, hX0⟩ : ∃ X, X = bitsS n 0 := ⟨_, rfl⟩
              rw [← hX1] at M L1
              rw [← hX0] at L0
              replace hX1 := Aside0.mk hX1
              replace hX0 := Aside0.mk hX0
              obtain ⟨o0, o1, o2⟩ := opsC_at (CA.out.keep HB.out) HO.out
              simp only at o0 o1 o2
              have db := M.out.cell (mod_f L1.out L2.out 2 _ rfl)
              have dl := M.out.cell (mod_f L1.out L2.out 0 _ rfl)
              have M1 : ModAt (wr.setCells gm 65 (bl X1)) gm n X1 X1 l1 l2 false := by have := Blk.cells (bl X1) 65 _ _ M.out; rw [mod_ys L1.out (by rw [L1.out, L2.out])] at this; exact this
              have eg := M1.cell (mod_f L1.out L1.out 1 _ rfl)
              have efg := M1.frozen 130
              have eb := M1.cell (mod_f L1.out L1.out 2 _ rfl)
              have efb := M1.frozen 131
              have m1 := M.out.rx
              have m2 := M.out.ty L1.out L2.out
              go_upto_region 37 with (first | (with_reducible refine load_set_mid rfl (.tmp 127) rfl gm 1 rfl X1 L1.out m1 ?_) | (with_reducible refine store_set_mid rfl (.tmp 131) (.tmp 128) rfl gm 65 X1 L1.out rfl rfl m2 ?_))
              clear o0 o1 o2
              clear db dl
              clear eg efg eb efb
              have ho : Only wr ((((wr.setCells gm 65 (bl X1)).setCell ⟨gm, 130, none⟩ (.bool l1)).setCell ⟨gm, 131, none⟩ (.bool true))) gm := only_set (only_set (only_cells _ _ _ _ (only_refl _ gm)) 130 _) 131 _
              have hM : ModAt ((((wr.setCells gm 65 (bl X1)).setCell ⟨gm, 130, none⟩ (.bool l1)).setCell ⟨gm, 131, none⟩ (.bool true))) gm n X1 X1 l1 l1 true := by have := (M1.set_ 130 (.bool l1)).set_ 131 (.bool true); rw [mod_setg L1.out L1.out, mod_setb L1.out L1.out] at this; exact this
              refine code_abs (fun WQ => Below w.heap.size w WQ ∧ TrackAt WQ w.heap.size gt n x1 x2 l1 l2 false ∧ KeptAt WQ w.heap.size gB (fun k => WQ.heap.size ≤ k) [] LS [] ∧ ModAt WQ gm n X1 X1 l1 l1 true) ⟨below_only HB.out ho GE_M.out, T.out.onlyB ho M.out (by decide) (by decide), (HK.out.only ho M.out (by decide)).top, hM⟩ ?_
              rintro w9 ⟨h_HB, h_T, h_HK, h_M⟩
              clear ho hM
              replace HB := Aside0.mk h_HB
              replace T := Aside0.mk h_T
              replace HK := Aside0.mk h_HK
              replace M := Aside0.mk h_M
              clear h_HB h_T h_HK h_M
              clear M1 m1 m2
              have M1 : ModAt (w9.setCells gm 1 (bl X0)) gm n X0 X1 l1 l1 true := by have := Blk.cells (bl X0) 1 _ _ M.out; rw [mod_xs (by rw [L1.out, L0.out])] at this; exact this
              have el := M1.cell (mod_f L0.out L1.out 0 _ rfl)
              have efl := M1.frozen 129
              have m2 := M.out.tx L1.out
              go_wp2_with (with_reducible refine store_set_mid rfl (.tmp 135) (.tmp 134) rfl gm 1 X0 L0.out rfl (by rw [hX0.out, bits_none]; with_unfolding_all rfl) m2 ?_)
              clear el efl
              have ho : Only w9 ((w9.setCells gm 1 (bl X0)).setCell ⟨gm, 129, none⟩ (.bool false)) gm := only_set (only_cells _ _ _ _ (only_refl _ gm)) 129 _
              have hM : ModAt ((w9.setCells gm 1 (bl X0)).setCell ⟨gm, 129, none⟩ (.bool false)) gm n X0 X1 false l1 true := by have := M1.set_ 129 (.bool false); rw [mod_setl L0.out L1.out] at this; exact this
              refine calls_abs (fun WQ => Below w.heap.size w WQ ∧ TrackAt WQ w.heap.size gt n x1 x2 l1 l2 false ∧ KeptAt WQ w.heap.size gB (fun k => WQ.heap.size ≤ k) [] LS [] ∧ ModAt WQ gm n X0 X1 false l1 true) ⟨below_only HB.out ho GE_M.out, T.out.onlyB ho M.out (by decide) (by decide), (HK.out.only ho M.out (by decide)).top, hM⟩ ?_
              rintro w10 ⟨h_HB, h_T, h_HK, h_M⟩
              clear ho hM
              replace HB := Aside0.mk h_HB
              replace T := Aside0.mk h_T
              replace HK := Aside0.mk h_HK
              replace M := Aside0.mk h_M
              clear h_HB h_T h_HK h_M
              clear M1 m2
              refine (freeze_ok w.heap.size gt n x1 x2 l1 l2 _ Hn64.out T.out).mono ?_
              rintro e w11 ⟨rfl, ht, hB⟩
              replace HB := Aside0.mk (below_mix HB.out GB.out hB)
              replace M := Aside0.mk (M.out.deep hB (by decide) (by decide))
              replace HK := Aside0.mk ((HK.out.deep hB).top)
              clear hB
              replace T := Aside0.mk ht
              clear ht
              go_wp2_with fail
              rw [hX0.out, hX1.out] at M
              go_meet
              case rel => exact ⟨gt, 0, x1, false, l1, true, rfl, rfl, ⟨⟨by decide, HI.out.1, Hi.zero n, HI.out.2.2.1, fun h => by cases h⟩⟩, HB, T, M, HK⟩
          · have hk2b : (ki == 2) = false := by simpa using hk2
            rcases Decidable.em (ki = 3) with rfl | hk3
            · skip
              as_aux_lemma =>
              have L0 : Aside0 ((bitsS n 0).length = 64) := ⟨bitsS_length n 0⟩
              cases b with
              | false =>
                obtain ⟨o0, o1, o2⟩ := opsC_at (CA.out.keep HB.out) HO.out
                simp only at o0 o1 o2
                have db := M.out.cell (mod_f L1.out L2.out 2 _ rfl)
                go_wp2_with fail
                clear o0 o1 o2
                clear db
                refine (commit_idle w.heap.size gt n x1 x2 l1 l2 _ Hn64.out T.out).mono ?_
                rintro e w12 ⟨rfl, ht, hB⟩
                replace HB := Aside0.mk (below_mix HB.out GB.out hB)
                replace M := Aside0.mk (M.out.deep hB (by decide) (by decide))
                replace HK := Aside0.mk ((HK.out.deep hB).top)
                clear hB
                replace T := Aside0.mk ht
                clear ht
                go_wp2_with fail
                go_meet
                case rel => exact ⟨gt, x1, x2, l1, l2, false, rfl, rfl, HI, HB, T, M, HK⟩
              | true =>
                obtain ⟨o0, o1, o2⟩ := opsC_at (CA.out.keep HB.out) HO.out
                simp only at o0 o1 o2
                have db := M.out.cell (mod_f L1.out L2.out 2 _ rfl)
                go_upto_region 50 with fail
                clear o0 o1 o2
                clear db
                have dg := M.out.cell (mod_f L1.out L2.out 1 _ rfl)
                have dfg := M.out.frozen 130
                have db := M.out.cell (mod_f L1.out L2.out 2 _ rfl)
                have dfb := M.out.frozen 131
                have M1 : ModAt ((wr.setCell ⟨gm, 131, none⟩ (.bool false)).setCell ⟨gm, 130, none⟩ (.bool false)) gm n (bitsS n x1) (bitsS n x2) l1 false false := by have := (M.out.set_ 131 (.bool false)).set_ 130 (.bool false); rw [mod_setb L1.out L2.out, mod_setg L1.out L2.out] at this; exact this
                have m2 := M1.ty L1.out L2.out
                go_upto_region 51 with (with_reducible refine store_set_mid rfl (.tmp 180) (.tmp 177) rfl gm 65 (bitsS n 0) L0.out rfl (by rw [bits_none]; with_unfolding_all rfl) m2 ?_)
                clear dg dfg db dfb
                have ho : Only wr (((wr.setCell ⟨gm, 131, none⟩ (.bool false)).setCell ⟨gm, 130, none⟩ (.bool false)).setCells gm 65 (bl (bitsS n 0))) gm := only_cells _ _ _ _ (only_set (only_set (only_refl _ gm) 131 _) 130 _)
                have hM : ModAt (((wr.setCell ⟨gm, 131, none⟩ (.bool false)).setCell ⟨gm, 130, none⟩ (.bool false)).setCells gm 65 (bl (bitsS n 0))) gm n (bitsS n x1) (bitsS n 0) l1 false false := by have := Blk.cells (bl (bitsS n 0)) 65 _ _ M1; rw [mod_ys L1.out (by rw [L2.out, L0.out])] at this; exact this
                refine code_abs (fun WQ => Below w.heap.size w WQ ∧ TrackAt WQ w.heap.size gt n x1 x2 l1 l2 true ∧ KeptAt WQ w.heap.size gB (fun k => WQ.heap.size ≤ k) [] LS [] ∧ ModAt WQ gm n (bitsS n x1) (bitsS n 0) l1 false false) ⟨below_only HB.out ho GE_M.out, T.out.onlyB ho M.out (by decide) (by decide), (HK.out.only ho M.out (by decide)).top, hM⟩ ?_
                rintro w13 ⟨h_HB, h_T, h_HK, h_M⟩
                clear ho hM
                replace HB := Aside0.mk h_HB
                replace T := Aside0.mk h_T
                replace HK := Aside0.mk h_HK
                replace M := Aside0.mk h_M
                clear h_HB h_T h_HK h_M
                clear M1 m2
                obtain ⟨o0, o1, o2⟩ := opsC_at (CA.out.keep HB.out) HO.out
                simp only at o0 o1 o2
                go_wp2_with fail
                clear o0 o1 o2
                refine (commit_ok w.heap.size gt n x1 x2 l1 l2 _ Hn64.out T.out).mono ?_
                rintro e w14 ⟨rfl, ht, hB⟩
                replace HB := Aside0.mk (below_mix HB.out GB.out hB)
                replace M := Aside0.mk (M.out.deep hB (by decide) (by decide))
                replace HK := Aside0.mk ((HK.out.deep hB).top)
                clear hB
                replace T := Aside0.mk ht
                clear ht
                go_wp2_with fail
                go_meet
                case rel => exact ⟨gt, x1, 0, l1, false, false, rfl, rfl, ⟨⟨HI.out.1, by decide, HI.out.2.2.1, Hi.zero n, fun _ => ⟨rfl, rfl⟩⟩⟩, HB, T, M, HK⟩
            · have hk3b : (ki == 3) = false := by simpa using hk3
              rcases Decidable.em (ki = 4) with rfl | hk4
              · skip
                as_aux_lemma =>
                have L0 : Aside0 ((bitsS n 0).length = 64) := ⟨bitsS_length n 0⟩
                cases b with
                | false =>
                  obtain ⟨o0, o1, o2⟩ := opsC_at (CA.out.keep HB.out) HO.out
                  simp only at o0 o1 o2
                  have db := M.out.cell (mod_f L1.out L2.out 2 _ rfl)
                  go_wp2_with fail
                  clear o0 o1 o2
                  clear db
                  refine (back_idle w.heap.size gt n x1 x2 l1 l2 _ Hn64.out HI.out.1 HI.out.2.1 T.out).mono ?_
                  rintro e w15 ⟨rfl, ht, hB⟩
                  replace HB := Aside0.mk (below_mix HB.out GB.out hB)
                  replace M := Aside0.mk (M.out.deep hB (by decide) (by decide))
                  replace HK := Aside0.mk ((HK.out.deep hB).top)
                  clear hB
                  replace T := Aside0.mk ht
                  clear ht
                  go_wp2_with fail
                  go_meet
                  case rel => exact ⟨gt, x1, x2, l1, l2, false, rfl, rfl, HI, HB, T, M, HK⟩
                | true =>
                  obtain ⟨o0, o1, o2⟩ := opsC_at (CA.out.keep HB.out) HO.out
                  simp only at o0 o1 o2
                  have db := M.out.cell (mod_f L1.out L2.out 2 _ rfl)
                  go_wp2_with fail
                  clear o0 o1 o2
                  clear db
                  replace M : Aside0 (ModAt wr gm n (upS (fun j => (bitsS n x1).getD j false || (bitsS n x2).getD j false) (bitsS n x1) 0) (bitsS n x2) l1 l2 true) := ⟨by rw [upS_zero _ _ L1.out]; exact M.out⟩
                  go_loopg [16] n (fun kq v16 wz => ∃ k : Nat, k + kq = n ∧ v16 = .int .i64 (k : Int) ∧ Aside0 (Below w.heap.size w wz) ∧ Aside0 (TrackAt wz w.heap.size gt n x1 x2 l1 l2 true) ∧ Aside0 (ModAt wz gm n (upS (fun j => (bitsS n x1).getD j false || (bitsS n x2).getD j false) (bitsS n x1) k) (bitsS n x2) l1 l2 true) ∧ Aside0 (KeptAt wz w.heap.size gB (fun k => wz.heap.size ≤ k) [] LS []))
                  case atStart => exact ⟨0, by omega, rfl, HB, T, M, HK⟩
                  case round =>
                    clear HB T M HK
                    obtain ⟨k, hk, rfl, HB, T, M, HK⟩ := hrel
                    have Hk := Aside0.mk hk
                    clear hk
                    by_cases hlk : k < n
                    · have hlk' : (k : Int) < (n : Int) := by omega
                      have hk64 : k < 64 := by have := Hn64.out; omega
                      have hk64' : (k : Int) < 64 := by omega
                      obtain ⟨kz, rfl⟩ : ∃ z, gk = z + 1 := ⟨gk - 1, by have := Hk.out; omega⟩
                      have hst := Aside0.mk (upS_step (fun j => (bitsS n x1).getD j false || (bitsS n x2).getD j false) (bitsS n x1) k hk64)
                      have s0 := M.out.cell (mod_x (k := k) (by rw [upS_length]; omega))
                      rw [upS_get _ _ _ _ hk64, if_neg (Nat.lt_irrefl k)] at s0
                      have sf := M.out.frozen (1 + k)
                      have s1 := M.out.cell (mod_y (k := k) (upS_length _ _ _) (by rw [L2.out]; omega))
                      obtain ⟨pb, hpb⟩ : ∃ q, q = (bitsS n x1).getD k false := ⟨_, rfl⟩
                      obtain ⟨qb, hqb⟩ : ∃ q, q = (bitsS n x2).getD k false := ⟨_, rfl⟩
                      rw [← hpb] at s0
                      rw [← hqb] at s1
                      have hstb : Aside0 ((upS (fun j => (bitsS n x1).getD j false || (bitsS n x2).getD j false) (bitsS n x1) k).set k (pb || qb) = upS (fun j => (bitsS n x1).getD j false || (bitsS n x2).getD j false) (bitsS n x1) (k + 1)) := ⟨by rw [hpb, hqb]; exact hst.out⟩
                      clear hpb hqb hst
                      cases pb with
                      | true =>
                        go_wp2_with fail
                        have Z1 : ModAt (wr.setCell ⟨gm, 1 + k, none⟩ (.bool true)) gm n ((upS (fun j => (bitsS n x1).getD j false || (bitsS n x2).getD j false) (bitsS n x1) k).set k true) (bitsS n x2) l1 l2 true := by have := M.out.set_ (1 + k) (.bool true); rw [mod_setx (upS_length _ _ _) hk64] at this; exact this
                        have h1 := hstb.out
                        simp only [Bool.false_or, Bool.true_or] at h1
                        rw [h1] at Z1
                        have ho : Only wr (wr.setCell ⟨gm, 1 + k, none⟩ (.bool true)) gm := only_set (only_refl wr gm) (1 + k) (.bool true)
                        have HBn := Aside0.mk (below_only HB.out ho GE_M.out)
                        have Tn := Aside0.mk (T.out.onlyB ho M.out (by decide) (by decide))
                        have HKn := Aside0.mk ((HK.out.only ho M.out (by decide)).top)
                        clear h1 ho HB T HK s0 s1 sf
                        go_roundg kz
                        case measure => omega
                        case rel => exact ⟨k + 1, by have := Hk.out; omega, by go_num, HBn, Tn, ⟨Z1⟩, HKn⟩
                      | false =>
                        cases qb with
                        | true =>
                          go_wp2_with fail
                          have Z1 : ModAt (wr.setCell ⟨gm, 1 + k, none⟩ (.bool true)) gm n ((upS (fun j => (bitsS n x1).getD j false || (bitsS n x2).getD j false) (bitsS n x1) k).set k true) (bitsS n x2) l1 l2 true := by have := M.out.set_ (1 + k) (.bool true); rw [mod_setx (upS_length _ _ _) hk64] at this; exact this
                          have h1 := hstb.out
                          simp only [Bool.false_or, Bool.true_or] at h1
                          rw [h1] at Z1
                          have ho : Only wr (wr.setCell ⟨gm, 1 + k, none⟩ (.bool true)) gm := only_set (only_refl wr gm) (1 + k) (.bool true)
                          have HBn := Aside0.mk (below_only HB.out ho GE_M.out)
                          have Tn := Aside0.mk (T.out.onlyB ho M.out (by decide) (by decide))
                          have HKn := Aside0.mk ((HK.out.only ho M.out (by decide)).top)
                          clear h1 ho HB T HK s0 s1 sf
                          go_roundg kz
                          case measure => omega
                          case rel => exact ⟨k + 1, by have := Hk.out; omega, by go_num, HBn, Tn, ⟨Z1⟩, HKn⟩
                        | false =>
                          go_wp2_with fail
                          have Z1 : ModAt (wr.setCell ⟨gm, 1 + k, none⟩ (.bool false)) gm n ((upS (fun j => (bitsS n x1).getD j false || (bitsS n x2).getD j false) (bitsS n x1) k).set k false) (bitsS n x2) l1 l2 true := by have := M.out.set_ (1 + k) (.bool false); rw [mod_setx (upS_length _ _ _) hk64] at this; exact this
                          have h1 := hstb.out
                          simp only [Bool.false_or, Bool.true_or] at h1
                          rw [h1] at Z1
                          have ho : Only wr (wr.setCell ⟨gm, 1 + k, none⟩ (.bool false)) gm := only_set (only_refl wr gm) (1 + k) (.bool false)
                          have HBn := Aside0.mk (below_only HB.out ho GE_M.out)
                          have Tn := Aside0.mk (T.out.onlyB ho M.out (by decide) (by decide))
                          have HKn := Aside0.mk ((HK.out.only ho M.out (by decide)).top)
                          clear h1 ho HB T HK s0 s1 sf
                          go_roundg kz
                          case measure => omega
                          case rel => exact ⟨k + 1, by have := Hk.out; omega, by go_num, HBn, Tn, ⟨Z1⟩, HKn⟩
                    · have hlk' : ¬ (k : Int) < (n : Int) := by omega
                      have hkn : k = n := by have := Hk.out; omega
                      have Hfin := Aside0.mk (upS_bits (x := x1) (v := x2) (s := (bitsS n x2)) Hn64.out (Nat.le_refl n) (fun k hk => by rw [bitsS_get n x2 k hk]; by_cases h : k < n; rw [decide_eq_true h]; simp; rw [decide_eq_false h, HI.out.2.2.2.1 k (by omega)]; rfl))
                      rw [hkn, Hfin.out] at M
                      clear hkn Hfin
                      have L3 : Aside0 ((bitsS n (x1 ||| x2)).length = 64) := ⟨bitsS_length n _⟩
                      cases l1 with
                      | false =>
                        have dl := M.out.cell (mod_f L3.out L2.out 0 _ rfl)
                        have dfl := M.out.frozen 129
                        have dg := M.out.cell (mod_f L3.out L2.out 1 _ rfl)
                        go_upto_region 50 with fail
                        clear dl dfl
                        clear dg
                        have ho : Only wr (wr.setCell ⟨gm, 129, none⟩ (.bool l2)) gm := only_set (only_refl _ gm) 129 _
                        have hM : ModAt (wr.setCell ⟨gm, 129, none⟩ (.bool l2)) gm n (bitsS n (x1 ||| x2)) (bitsS n x2) l2 l2 true := by have := M.out.set_ 129 (.bool l2); rw [mod_setl L3.out L2.out] at this; exact this
                        refine code_abs (fun WQ => Below w.heap.size w WQ ∧ TrackAt WQ w.heap.size gt n x1 x2 false l2 true ∧ KeptAt WQ w.heap.size gB (fun k => WQ.heap.size ≤ k) [] LS [] ∧ ModAt WQ gm n (bitsS n (x1 ||| x2)) (bitsS n x2) l2 l2 true) ⟨below_only HB.out ho GE_M.out, T.out.onlyB ho M.out (by decide) (by decide), (HK.out.only ho M.out (by decide)).top, hM⟩ ?_
                        rintro w16 ⟨h_HB, h_T, h_HK, h_M⟩
                        clear ho hM
                        replace HB := Aside0.mk h_HB
                        replace T := Aside0.mk h_T
                        replace HK := Aside0.mk h_HK
                        replace M := Aside0.mk h_M
                        clear h_HB h_T h_HK h_M
                        have dg := M.out.cell (mod_f L3.out L2.out 1 _ rfl)
                        have dfg := M.out.frozen 130
                        have db := M.out.cell (mod_f L3.out L2.out 2 _ rfl)
                        have dfb := M.out.frozen 131
                        have M1 : ModAt ((w16.setCell ⟨gm, 131, none⟩ (.bool false)).setCell ⟨gm, 130, none⟩ (.bool false)) gm n (bitsS n (x1 ||| x2)) (bitsS n x2) l2 false false := by have := (M.out.set_ 131 (.bool false)).set_ 130 (.bool false); rw [mod_setb L3.out L2.out, mod_setg L3.out L2.out] at this; exact this
                        have m2 := M1.ty L3.out L2.out
                        go_upto_region 51 with (with_reducible refine store_set_mid rfl (.tmp 180) (.tmp 177) rfl gm 65 (bitsS n 0) L0.out rfl (by rw [bits_none]; with_unfolding_all rfl) m2 ?_)
                        clear dg dfg db dfb
                        have ho : Only w16 (((w16.setCell ⟨gm, 131, none⟩ (.bool false)).setCell ⟨gm, 130, none⟩ (.bool false)).setCells gm 65 (bl (bitsS n 0))) gm := only_cells _ _ _ _ (only_set (only_set (only_refl _ gm) 131 _) 130 _)
                        have hM : ModAt (((w16.setCell ⟨gm, 131, none⟩ (.bool false)).setCell ⟨gm, 130, none⟩ (.bool false)).setCells gm 65 (bl (bitsS n 0))) gm n (bitsS n (x1 ||| x2)) (bitsS n 0) l2 false false := by have := Blk.cells (bl (bitsS n 0)) 65 _ _ M1; rw [mod_ys L3.out (by rw [L2.out, L0.out])] at this; exact this
                        refine code_abs (fun WQ => Below w.heap.size w WQ ∧ TrackAt WQ w.heap.size gt n x1 x2 false l2 true ∧ KeptAt WQ w.heap.size gB (fun k => WQ.heap.size ≤ k) [] LS [] ∧ ModAt WQ gm n (bitsS n (x1 ||| x2)) (bitsS n 0) l2 false false) ⟨below_only HB.out ho GE_M.out, T.out.onlyB ho M.out (by decide) (by decide), (HK.out.only ho M.out (by decide)).top, hM⟩ ?_
                        rintro w17 ⟨h_HB, h_T, h_HK, h_M⟩
                        clear ho hM
                        replace HB := Aside0.mk h_HB
                        replace T := Aside0.mk h_T
                        replace HK := Aside0.mk h_HK
                        replace M := Aside0.mk h_M
                        clear h_HB h_T h_HK h_M
                        clear M1 m2
                        obtain ⟨o0, o1, o2⟩ := opsC_at (CA.out.keep HB.out) HO.out
                        simp only at o0 o1 o2
                        go_wp2_with fail
                        clear o0 o1 o2
                        refine (back_ok w.heap.size gt n x1 x2 false l2 _ Hn64.out HI.out.1 HI.out.2.1 T.out).mono ?_
                        rintro e w18 ⟨rfl, ht, hB⟩
                        replace HB := Aside0.mk (below_mix HB.out GB.out hB)
                        replace M := Aside0.mk (M.out.deep hB (by decide) (by decide))
                        replace HK := Aside0.mk ((HK.out.deep hB).top)
                        clear hB
                        replace T := Aside0.mk ht
                        clear ht
                        rw [and_hi HI.out.2.2.2.1] at T
                        go_wp2_with fail
                        go_meet
                        case rel => exact ⟨gt, x1 ||| x2, 0, l2, false, false, rfl, rfl, ⟨⟨or_lt HI.out.1 HI.out.2.1, by decide, HI.out.2.2.1.or HI.out.2.2.2.1, Hi.zero n, fun _ => ⟨rfl, rfl⟩⟩⟩, HB, T, M, HK⟩
                      | true =>
                        have dl := M.out.cell (mod_f L3.out L2.out 0 _ rfl)
                        have dfl := M.out.frozen 129
                        have dg := M.out.cell (mod_f L3.out L2.out 1 _ rfl)
                        go_upto_region 50 with fail
                        clear dl dfl
                        clear dg
                        have ho : Only wr (wr.setCell ⟨gm, 129, none⟩ (.bool true)) gm := only_set (only_refl _ gm) 129 _
                        have hM : ModAt (wr.setCell ⟨gm, 129, none⟩ (.bool true)) gm n (bitsS n (x1 ||| x2)) (bitsS n x2) true l2 true := by have := M.out.set_ 129 (.bool true); rw [mod_setl L3.out L2.out] at this; exact this
                        refine code_abs (fun WQ => Below w.heap.size w WQ ∧ TrackAt WQ w.heap.size gt n x1 x2 true l2 true ∧ KeptAt WQ w.heap.size gB (fun k => WQ.heap.size ≤ k) [] LS [] ∧ ModAt WQ gm n (bitsS n (x1 ||| x2)) (bitsS n x2) true l2 true) ⟨below_only HB.out ho GE_M.out, T.out.onlyB ho M.out (by decide) (by decide), (HK.out.only ho M.out (by decide)).top, hM⟩ ?_
                        rintro w19 ⟨h_HB, h_T, h_HK, h_M⟩
                        clear ho hM
                        replace HB := Aside0.mk h_HB
                        replace T := Aside0.mk h_T
                        replace HK := Aside0.mk h_HK
                        replace M := Aside0.mk h_M
                        clear h_HB h_T h_HK h_M
                        have dg := M.out.cell (mod_f L3.out L2.out 1 _ rfl)
                        have dfg := M.out.frozen 130
                        have db := M.out.cell (mod_f L3.out L2.out 2 _ rfl)
                        have dfb := M.out.frozen 131
                        have M1 : ModAt ((w19.setCell ⟨gm, 131, none⟩ (.bool false)).setCell ⟨gm, 130, none⟩ (.bool false)) gm n (bitsS n (x1 ||| x2)) (bitsS n x2) true false false := by have := (M.out.set_ 131 (.bool false)).set_ 130 (.bool false); rw [mod_setb L3.out L2.out, mod_setg L3.out L2.out] at this; exact this
                        have m2 := M1.ty L3.out L2.out
                        go_upto_region 51 with (with_reducible refine store_set_mid rfl (.tmp 180) (.tmp 177) rfl gm 65 (bitsS n 0) L0.out rfl (by rw [bits_none]; with_unfolding_all rfl) m2 ?_)
                        clear dg dfg db dfb
                        have ho : Only w19 (((w19.setCell ⟨gm, 131, none⟩ (.bool false)).setCell ⟨gm, 130, none⟩ (.bool false)).setCells gm 65 (bl (bitsS n 0))) gm := only_cells _ _ _ _ (only_set (only_set (only_refl _ gm) 131 _) 130 _)
                        have hM : ModAt (((w19.setCell ⟨gm, 131, none⟩ (.bool false)).setCell ⟨gm, 130, none⟩ (.bool false)).setCells gm 65 (bl (bitsS n 0))) gm n (bitsS n (x1 ||| x2)) (bitsS n 0) true false false := by have := Blk.cells (bl (bitsS n 0)) 65 _ _ M1; rw [mod_ys L3.out (by rw [L2.out, L0.out])] at this; exact this
                        refine code_abs (fun WQ => Below w.heap.size w WQ ∧ TrackAt WQ w.heap.size gt n x1 x2 true l2 true ∧ KeptAt WQ w.heap.size gB (fun k => WQ.heap.size ≤ k) [] LS [] ∧ ModAt WQ gm n (bitsS n (x1 ||| x2)) (bitsS n 0) true false false) ⟨below_only HB.out ho GE_M.out, T.out.onlyB ho M.out (by decide) (by decide), (HK.out.only ho M.out (by decide)).top, hM⟩ ?_
                        rintro w20 ⟨h_HB, h_T, h_HK, h_M⟩
                        clear ho hM
                        replace HB := Aside0.mk h_HB
                        replace T := Aside0.mk h_T
                        replace HK := Aside0.mk h_HK
                        replace M := Aside0.mk h_M
                        clear h_HB h_T h_HK h_M
                        clear M1 m2
                        obtain ⟨o0, o1, o2⟩ := opsC_at (CA.out.keep HB.out) HO.out
                        simp only at o0 o1 o2
                        go_wp2_with fail
                        clear o0 o1 o2
                        refine (back_ok w.heap.size gt n x1 x2 true l2 _ Hn64.out HI.out.1 HI.out.2.1 T.out).mono ?_
                        rintro e w21 ⟨rfl, ht, hB⟩
                        replace HB := Aside0.mk (below_mix HB.out GB.out hB)
                        replace M := Aside0.mk (M.out.deep hB (by decide) (by decide))
                        replace HK := Aside0.mk ((HK.out.deep hB).top)
                        clear hB
                        replace T := Aside0.mk ht
                        clear ht
                        rw [and_hi HI.out.2.2.2.1] at T
                        go_wp2_with fail
                        go_meet
                        case rel => exact ⟨gt, x1 ||| x2, 0, true, false, false, rfl, rfl, ⟨⟨or_lt HI.out.1 HI.out.2.1, by decide, HI.out.2.2.1.or HI.out.2.2.2.1, Hi.zero n, fun _ => ⟨rfl, rfl⟩⟩⟩, HB, T, M, HK⟩
              · have hk4b : (ki == 4) = false := by simpa using hk4
                rcases Decidable.em (ki = 5) with rfl | hk5
                · skip
                  as_aux_lemma =>
                  obtain ⟨o0, o1, o2⟩ := opsC_at (CA.out.keep HB.out) HO.out
                  simp only at o0 o1 o2
                  go_wp2_with fail
                  clear o0 o1 o2
                  refine (track_lose w.heap.size gt n x1 x2 l1 l2 b _ T.out).mono ?_
                  rintro e w22 ⟨rfl, ht, hB⟩
                  replace HB := Aside0.mk (below_mix HB.out GB.out hB)
                  replace M := Aside0.mk (M.out.deep hB (by decide) (by decide))
                  replace HK := Aside0.mk ((HK.out.deep hB).top)
                  clear hB
                  replace T := Aside0.mk ht
                  clear ht
                  have dl := M.out.cell (mod_f L1.out L2.out 0 _ rfl)
                  have dfl := M.out.frozen 129
                  go_wp2_with fail
                  clear dl dfl
                  have ho : Only w22 (w22.setCell ⟨gm, 129, none⟩ (.bool true)) gm := only_set (only_refl _ gm) 129 _
                  have hM : ModAt (w22.setCell ⟨gm, 129, none⟩ (.bool true)) gm n (bitsS n x1) (bitsS n x2) true l2 b := by have := M.out.set_ 129 (.bool true); rw [mod_setl L1.out L2.out] at this; exact this
                  replace HB := Aside0.mk (below_only HB.out ho GE_M.out)
                  replace T := Aside0.mk (T.out.onlyB ho M.out (by decide) (by decide))
                  replace HK := Aside0.mk ((HK.out.only ho M.out (by decide)).top)
                  replace M := Aside0.mk hM
                  clear ho hM
                  go_meet
                  case rel => exact ⟨gt, x1, x2, true, l2, b, rfl, rfl, HI, HB, T, M, HK⟩
                · have hk5b : (ki == 5) = false := by simpa using hk5
                  as_aux_lemma =>
                  obtain ⟨o0, o1, o2⟩ := opsC_at (CA.out.keep HB.out) HO.out
                  simp only at o0 o1 o2
                  go_wp2_with fail
                  clear o0 o1 o2
                  refine (track_copy w.heap.size gt n x1 x2 l1 l2 b _ Hn64.out HI.out.1 HI.out.2.1 HI.out.2.2.1 HI.out.2.2.2.1 T.out).mono ?_
                  rintro e w23 ⟨gc, rfl, hc, hB⟩
                  have TC := Aside0.mk hc
                  clear hc
                  have HG : Aside0 (w.heap.size ≤ wr.heap.size) := ⟨HB.out.size⟩
                  have TG := Aside0.mk ((T.out.toG (lim := wr.heap.size) (Nat.le_refl _) (T := w23.heap.size)).keep hB)
                  replace HB := Aside0.mk (below_step HB.out hB)
                  replace T := Aside0.mk (T.out.keep hB)
                  replace M := Aside0.mk (M.out.keep hB)
                  replace HK := Aside0.mk ((HK.out.keep hB).top)
                  clear hB
                  clear T
                  have HW : Aside0 (∀ k, (k < w.heap.size ∨ (wr.heap.size ≤ k ∧ k < w23.heap.size)) → k < w23.heap.size) := ⟨fun k hk => by have := HB.out.size; omega⟩
                  obtain ⟨GG, hGG⟩ : ∃ G : Nat → Prop, G = (fun k => k < w.heap.size ∨ (wr.heap.size ≤ k ∧ k < w23.heap.size)) := ⟨_, rfl⟩
                  rw [← hGG] at TG
                  have HW1 : Aside0 (∀ k, GG k → k < w23.heap.size) := ⟨by rw [hGG]; exact HW.out⟩
                  have HW2 : Aside0 (∀ k, k < w.heap.size → GG k) := ⟨by rw [hGG]; exact fun k hk => .inl hk⟩
                  have HW3 : Aside0 (∀ k, wr.heap.size ≤ k → k < w23.heap.size → GG k) := ⟨by rw [hGG]; exact fun k h1 h2 => .inr ⟨h1, h2⟩⟩
                  clear hGG HW
                  replace TC : Aside0 (TrackAt w23 wr.heap.size gc n x1 x2 l1 l2 b ∧ w23.heap.size ≤ w23.heap.size) := ⟨⟨TC.out, Nat.le_refl _⟩⟩
                  skip
                  obtain ⟨c1, c2, q1, q2, q3, q4, qt, qd1, qd2⟩ := TC.out.1
                  have G0 : Aside0 (GG gc ∧ GG c1 ∧ GG c2) := ⟨⟨HW3.out gc q1 qt.lt, HW3.out c1 q2 qd1.lt, HW3.out c2 q3 qd2.lt⟩⟩
                  have Q0 : Aside0 (wr.heap.size ≤ gc ∧ wr.heap.size ≤ c1 ∧ wr.heap.size ≤ c2 ∧ c1 ≠ c2) := ⟨⟨q1, q2, q3, q4⟩⟩
                  have QT := Aside0.mk qt
                  have QA := Aside0.mk qd1
                  have QB := Aside0.mk qd2
                  clear qt qd1 qd2 q1 q2 q3 q4 TC HW3
                  go_wp2_with fail
                  refine (trackg_mark GG gt n x1 x2 l1 l2 b _ HW1.out TG.out 0 1 Hn64.out HI.out.1).mono ?_
                  rintro e w24 ⟨rfl, ht, hg⟩
                  have hB := hg.deep HW2.out
                  replace HB := Aside0.mk (below_mix HB.out GB.out hB)
                  replace M := Aside0.mk (M.out.deep hB (by decide) (by decide))
                  replace HK := Aside0.mk ((HK.out.deep hB).top)
                  replace QT := Aside0.mk ((hg.2.1 _ G0.out.1).trans QT.out)
                  replace QA := Aside0.mk ((hg.2.1 _ G0.out.2.1).trans QA.out)
                  replace QB := Aside0.mk ((hg.2.1 _ G0.out.2.2).trans QB.out)
                  replace HW1 : Aside0 (∀ k, GG k → k < w24.heap.size) := ⟨fun k hk => Nat.lt_of_lt_of_le (HW1.out k hk) hg.size⟩
                  replace TG := Aside0.mk ht
                  clear ht hB hg
                  generalize ((cnt (minus (markV n 0 1) x1) : Nat) : Int) = zz at *
                  go_wp2_with fail
                  refine (trackg_freeze_any GG gt n (x1 ||| markV n 0 1) x2 l1 l2 b _ HW1.out TG.out Hn64.out).mono ?_
                  rintro e w25 ⟨rr, y1, y2, m1, m2, bb, rfl, ht, hg⟩
                  have hB := hg.deep HW2.out
                  replace HB := Aside0.mk (below_mix HB.out GB.out hB)
                  replace M := Aside0.mk (M.out.deep hB (by decide) (by decide))
                  replace HK := Aside0.mk ((HK.out.deep hB).top)
                  replace QT := Aside0.mk ((hg.2.1 _ G0.out.1).trans QT.out)
                  replace QA := Aside0.mk ((hg.2.1 _ G0.out.2.1).trans QA.out)
                  replace QB := Aside0.mk ((hg.2.1 _ G0.out.2.2).trans QB.out)
                  replace HW1 : Aside0 (∀ k, GG k → k < w25.heap.size) := ⟨fun k hk => Nat.lt_of_lt_of_le (HW1.out k hk) hg.size⟩
                  replace TG := Aside0.mk ht
                  clear ht hB hg
                  go_wp2_with fail
                  refine (trackg_lose GG gt n y1 y2 m1 m2 bb _ HW1.out TG.out).mono ?_
                  rintro e w26 ⟨rfl, ht, hg⟩
                  have hB := hg.deep HW2.out
                  replace HB := Aside0.mk (below_mix HB.out GB.out hB)
                  replace M := Aside0.mk (M.out.deep hB (by decide) (by decide))
                  replace HK := Aside0.mk ((HK.out.deep hB).top)
                  replace QT := Aside0.mk ((hg.2.1 _ G0.out.1).trans QT.out)
                  replace QA := Aside0.mk ((hg.2.1 _ G0.out.2.1).trans QA.out)
                  replace QB := Aside0.mk ((hg.2.1 _ G0.out.2.2).trans QB.out)
                  replace HW1 : Aside0 (∀ k, GG k → k < w26.heap.size) := ⟨fun k hk => Nat.lt_of_lt_of_le (HW1.out k hk) hg.size⟩
                  replace TG := Aside0.mk ht
                  clear ht hB hg
                  go_wp2_with fail
                  have T : Aside0 (TrackAt w26 w.heap.size gc n x1 x2 l1 l2 b) := ⟨⟨c1, c2, Nat.le_trans HG.out Q0.out.1, Nat.le_trans HG.out Q0.out.2.1, Nat.le_trans HG.out Q0.out.2.2.1, Q0.out.2.2.2, QT.out, QA.out, QB.out⟩⟩
                  go_meet
                  case rel => exact ⟨gc, x1, x2, l1, l2, b, rfl, rfl, HI, HB, T, M, HK⟩
      case rest =>
        clear HB T M HK HI L1 L2
        obtain ⟨gt, x1, x2, l1, l2, b, rfl, rfl, HI, HB, T, M, HK⟩ := hcut
        as_aux_lemma =>
        have L1 : Aside0 ((bitsS n x1).length = 64) := ⟨bitsS_length n x1⟩
        have L2 : Aside0 ((bitsS n x2).length = 64) := ⟨bitsS_length n x2⟩
        have K1 : Aside0 ((markS n x1 l1).length = 64) := ⟨bitsS_length n _⟩
        have K2 : Aside0 ((markS n x2 l2).length = 64) := ⟨bitsS_length n _⟩
        have LN := Aside0.mk (spans_len (markS n x1 l1))
        have LF := Aside0.mk (spans_len (markS n x2 l2))
        have HLt : Aside0 (LS.length + 1 < 250) := ⟨by have h1 := HLS.out.1; have h2 := Hl.out; omega⟩
        go_wp2_with fail
        refine (frozen_any w.heap.size gt n x1 x2 l1 l2 b _ Hn64.out HI.out T.out).mono ?_
        rintro e w27 ⟨gf, rfl, hge, hr, hB⟩
        have GE_RF : Aside0 (w.heap.size ≤ gf) := ⟨by have := HB.out.size; omega⟩
        replace HB := Aside0.mk (below_step HB.out hB)
        replace T := Aside0.mk (T.out.keep hB)
        replace M := Aside0.mk (M.out.keep hB)
        replace HK := Aside0.mk ((HK.out.keep hB).top)
        clear hB
        have RF := Aside0.mk hr
        clear hr
        generalize wc.heap.size = bF at *
        have GF := Aside0.mk hge
        clear hge
        go_wp2_with fail
        refine (track_now w.heap.size gt n x1 x2 l1 l2 b _ T.out Hn64.out HI.out.1).mono ?_
        rintro e w28 ⟨gn, rfl, hge, hr, hB⟩
        have NE_RF_RN : Aside0 (gf ≠ gn) := ⟨by have := RF.out.lt; omega⟩
        have GE_RN : Aside0 (w.heap.size ≤ gn) := ⟨by have := HB.out.size; omega⟩
        replace HB := Aside0.mk (below_step HB.out hB)
        replace T := Aside0.mk (T.out.keep hB)
        replace M := Aside0.mk (M.out.keep hB)
        replace HK := Aside0.mk ((HK.out.keep hB).top)
        replace RF := Aside0.mk (RF.out.keep hB)
        clear hB
        have RN := Aside0.mk hr
        clear hr
        generalize w27.heap.size = bN at *
        have GN := Aside0.mk hge
        clear hge
        have HS0 : Aside0 (Below w28.heap.size w28 w28) := ⟨Below.refl _ _⟩
        go_wp2_with fail
        refine (runs_all bF gf _ (by have := LF.out; omega) _ RF.out).mono ?_
        rintro e w29 ⟨v, rfl, ho, hB⟩
        have FR_VF : Aside0 (∀ k, Value.ownBlock v = some k → w28.heap.size ≤ k) := ⟨fun k hk => Kd.R_base (ho.to_R) k hk⟩
        have VF := Aside0.mk (Kd.R_lower (ho.to_R) HB.out.size)
        clear ho
        replace HB := Aside0.mk (below_step HB.out hB)
        replace T := Aside0.mk (T.out.keep hB)
        replace M := Aside0.mk (M.out.keep hB)
        replace HK := Aside0.mk (HK.out.keep hB)
        replace RF := Aside0.mk (RF.out.keep hB)
        replace RN := Aside0.mk (RN.out.keep hB)
        replace HS0 := Aside0.mk (below_step HS0.out hB)
        clear hB
        obtain ⟨AF, cF, hve, hc0, hc1⟩ := Kd.R_reads VF.out
        subst hve
        have HC_VF := Aside0.mk hc0
        clear hc0 hc1
        have HSZ : Aside0 (w28.heap.size ≤ w29.heap.size) := ⟨HS0.out.size⟩
        clear HS0
        have LTF : Aside0 (∀ k, Value.ownBlock (.slice AF (spansOf (markS n x2 l2)).length cF) = some k → k < w29.heap.size) := ⟨fun k hk => Kd.R_lt VF.out k hk⟩
        go_wp2_with fail
        refine (runs_all bN gn _ (by have := LN.out; omega) _ RN.out).mono ?_
        rintro e w30 ⟨v, rfl, ho, hB⟩
        have FR_VN : Aside0 (∀ k, Value.ownBlock v = some k → w29.heap.size ≤ k) := ⟨fun k hk => Kd.R_base (ho.to_R) k hk⟩
        have VN := Aside0.mk (Kd.R_lower (ho.to_R) HB.out.size)
        clear ho
        replace HB := Aside0.mk (below_step HB.out hB)
        replace T := Aside0.mk (T.out.keep hB)
        replace M := Aside0.mk (M.out.keep hB)
        replace HK := Aside0.mk (HK.out.keep hB)
        replace RF := Aside0.mk (RF.out.keep hB)
        replace RN := Aside0.mk (RN.out.keep hB)
        replace VF := Aside0.mk (Kd.R_below VF.out hB)
        clear hB
        obtain ⟨AN, cN, hve, hc0, hc1⟩ := Kd.R_reads VN.out
        subst hve
        have HC_VN := Aside0.mk hc0
        clear hc0 hc1
        have LT2 : Aside0 (∀ k, Value.ownBlock (.slice AN (spansOf (markS n x1 l1)).length cN) = some k → k < w30.heap.size) := ⟨fun k hk => Kd.R_lt VN.out k hk⟩
        have NE12 : Aside0 (∀ k, Value.ownBlock (.slice AN (spansOf (markS n x1 l1)).length cN) = some k → Value.ownBlock (.slice AF (spansOf (markS n x2 l2)).length cF) ≠ some k) := ⟨fun k hk he => by have h1 := FR_VN.out k hk; have h2 := LTF.out k he; omega⟩
        skip
        obtain ⟨cs0, hkb0⟩ := HK.out.book
        have hkb := Aside0.mk hkb0
        clear hkb0
        go_wp2_with fail
        refine (kept_S gB w.heap.size _ _ _ _ _ _ _ HK.out VF.out (by have := LF.out; omega) (by have := HLt.out; omega) FR_VF.out HB.out.size).mono ?_
        rintro e w31 ⟨rfl, hk, hfx⟩
        replace HB := Aside0.mk (HB.out.trans hfx.1)
        replace T := Aside0.mk (hfx.track hkb.out T.out (by decide) (by decide) (by decide) (by decide))
        replace M := Aside0.mk (hfx.blkT hkb.out M.out (by decide) (by decide))
        replace RF := Aside0.mk (hfx.runs hkb.out RF.out (by decide) (by decide) (by decide) (by decide))
        replace RN := Aside0.mk (hfx.runs hkb.out RN.out (by decide) (by decide) (by decide) (by decide))
        replace VF := Aside0.mk (hfx.Rr rfl hkb.out VF.out (by decide) (by decide))
        replace VN := Aside0.mk (hfx.Rr rfl hkb.out VN.out (by decide) (by decide))
        clear hfx
        replace HK := Aside0.mk hk
        clear hk hkb cs0
        obtain ⟨cs0, hkb0⟩ := HK.out.book
        have hkb := Aside0.mk hkb0
        clear hkb0
        go_wp2_with fail
        refine (kept_S gB w.heap.size _ _ _ _ _ _ _ HK.out VN.out (by have := LN.out; omega) (by rw [List.length_append]; exact HLt.out) (fun k hk => .inl ⟨Nat.le_trans HSZ.out (FR_VN.out k hk), LT2.out k hk, NE12.out k hk⟩) HB.out.size).mono ?_
        rintro e w32 ⟨rfl, hk, hfx⟩
        replace HB := Aside0.mk (HB.out.trans hfx.1)
        replace T := Aside0.mk (hfx.track hkb.out T.out (by decide) (by decide) (by decide) (by decide))
        replace M := Aside0.mk (hfx.blkT hkb.out M.out (by decide) (by decide))
        replace RF := Aside0.mk (hfx.runs hkb.out RF.out (by decide) (by decide) (by decide) (by decide))
        replace RN := Aside0.mk (hfx.runs hkb.out RN.out (by decide) (by decide) (by decide) (by decide))
        replace VF := Aside0.mk (hfx.Rr rfl hkb.out VF.out (by decide) (by decide))
        replace VN := Aside0.mk (hfx.Rr rfl hkb.out VN.out (by decide) (by decide))
        clear hfx
        replace HK := Aside0.mk hk
        clear hk hkb cs0
        replace HK := Aside0.mk HK.out.top
        clear NE12 LT2 LTF
        have Cl := Aside0.mk (M.out.cell (mod_f L1.out L2.out 0 _ rfl))
        have Cg := Aside0.mk (M.out.cell (mod_f L1.out L2.out 1 _ rfl))
        have Cb := Aside0.mk (M.out.cell (mod_f L1.out L2.out 2 _ rfl))
        have MS : Aside0 ((modC n (bitsS n x1) (bitsS n x2) l1 l2 b).size = 132) := ⟨modC_size _ _ _ _ _ _ L1.out L2.out⟩
        go_wp2_with fail
        have HS : Aside0 (Below w32.heap.size w32 w32) := ⟨Below.refl _ _⟩
        refine start_ (n := 36) (S := fun w' => Below w32.heap.size w32 w' ∧ ModAt w' gm n (bitsS n x1) (bitsS n x2) l1 l2 b ∧ Kd.R k31 31 w' w.heap.size (fun _ => True) (.slice AF (spansOf (markS n x2 l2)).length cF) (spansOf (markS n x2 l2)) ∧ Kd.R k31 31 w' w.heap.size (fun _ => True) (.slice AN (spansOf (markS n x1 l1)).length cN) (spansOf (markS n x1 l1)) ∧ TrackAt w' w.heap.size gt n x1 x2 l1 l2 b ∧ w'.cell? ⟨gm, 129, none⟩ = some (.bool l1) ∧ w'.cell? ⟨gm, 130, none⟩ = some (.bool l2) ∧ w'.cell? ⟨gm, 131, none⟩ = some (.bool b)) (ds := []) #[false, false, false, false, false, false, false, false, false, false, false, false, false, false, false, false, false, false, false, false, false, false, false, false, false, false, false, false, false, false, false, false, false, false, false, false] (by kernel_rfl) rfl rfl ⟨(below_drew1 HS.out), (M.out.keep (below_drew1 (Below.refl _ _))), (Kd.R_below VF.out (below_drew1 (Below.refl _ _))), (Kd.R_below VN.out (below_drew1 (Below.refl _ _))), (T.out.keep (below_drew1 (Below.refl _ _))), (keep (below_drew1 (Below.refl _ _)) Cl.out), (keep (below_drew1 (Below.refl _ _)) Cg.out), (keep (below_drew1 (Below.refl _ _)) Cb.out)⟩ (fun hh => ?_)
        refine with_tabW (T := qq.T63) (B := qq.B63) (by kernel_rfl) qq.bits63 (fun HT_ HW_ => ?_)
        refine pure_ (i := 0) (N := some 224) (v := ?_) (a' := ?_) qq.m0 rfl rfl (any_of HT_.out (by kernel_rfl)) (fun _ _ _ h => h) (Or.inl ⟨by rfl, ?_⟩) ?_ ?_
        rotate_left
        · intro w'
          go_simp
          with_reducible rfl
        rotate_left
        · simp only [Act.put, sA, sB, sC, i64_w, i32_w]
          rfl
        refine pure_ (i := 2) (N := some 226) (v := ?_) (a' := ?_) qq.m1 rfl rfl (any_of HT_.out (by kernel_rfl)) (fun _ _ _ h => h) (Or.inl ⟨by rfl, ?_⟩) ?_ ?_
        rotate_left
        · intro w'
          go_simp
          with_reducible rfl
        rotate_left
        · simp only [Act.put, sA, sB, sC, i64_w, i32_w]
          rfl
        refine pure_ (i := 4) (N := some 228) (v := ?_) (a' := ?_) qq.m2 rfl rfl (any_of HT_.out (by kernel_rfl)) (fun _ _ _ h => h) (Or.inl ⟨by rfl, ?_⟩) ?_ ?_
        rotate_left
        · intro w'
          go_simp
          with_reducible rfl
        rotate_left
        · simp only [Act.put, sA, sB, sC, i64_w, i32_w]
          rfl
        refine take_ (i := 1) (N := some 225) (v := ?_) (a' := ?_) qq.m3 rfl rfl (take_ofW HT_.out HW_.out (by kernel_rfl)) (fun _ _ _ h => h) (Or.inl ⟨by rfl, ?_⟩) hh ?_ ?_
        rotate_left
        · rintro w' ⟨s0, s1, s2, s3, s4, s5, s6, s7⟩
          refine row_yields 75 (.tmp 7) ?_ gm ?_ 75 (modC n (bitsS n x1) (bitsS n x2) l1 l2 b) (0, 0) _ s1.hd Try.underlying75 rfl (by rw [MS.out]; exact infoM)
          · rfl
          · rfl
        rotate_left
        · simp only [Act.put, sA, sB, sC, i64_w, i32_w]
          rfl
        refine take_ (i := 3) (N := some 227) (v := ?_) (a' := ?_) qq.m4 rfl rfl (take_ofW HT_.out HW_.out (by kernel_rfl)) (fun _ _ _ h => h) (Or.inl ⟨by rfl, ?_⟩) hh ?_ ?_
        rotate_left
        · rintro w' ⟨s0, s1, s2, s3, s4, s5, s6, s7⟩
          refine set_yields (.tmp 226) ?_ gm 65 ?_ (bitsS n x2) (by exact L2.out) (ModAt.ry s1 L1.out)
          · rfl
          · rfl
        rotate_left
        · simp only [Act.put, sA, sB, sC, i64_w, i32_w]
          rfl
        refine take_ (i := 5) (N := some 229) (v := ?_) (a' := ?_) qq.m5 rfl rfl (take_ofW HT_.out HW_.out (by kernel_rfl)) (fun _ _ _ h => h) (Or.inl ⟨by rfl, ?_⟩) hh ?_ ?_
        rotate_left
        · rintro w' ⟨s0, s1, s2, s3, s4, s5, s6, s7⟩
          go_simp
          with_reducible rfl
        rotate_left
        · simp only [Act.put, sA, sB, sC, i64_w, i32_w]
          rfl
        refine one_ (i := 6) (N := some 230) qq.m6 rfl rfl (one_of HT_.out (by kernel_rfl)) (by decide) (fun K hK => ?_)
        refine goes_ Try.func48 (by kernel_rfl) rfl #[.agg (modC n (bitsS n x1) (bitsS n x2) l1 l2 b), .agg (setArr (bitsS n x2)), .bool l2] (by rfl) rfl rfl (by simp only [List.map_toArray, List.map_cons, List.map_nil]; rfl) ?_
        with_reducible refine (shown_calls n x2 (bitsS n x1) (bitsS n x2) l1 l2 b l2 Hn64.out L1.out _).mono ?_
        rintro e w70 ⟨rfl, hb⟩
        refine ⟨_, rfl, ?_⟩
        refine hK.out _ _ ⟨(below_step hh.1 hb), (hh.2.1.keep hb), (Kd.R_below hh.2.2.1 hb), (Kd.R_below hh.2.2.2.1 hb), (hh.2.2.2.2.1.keep hb), (keep hb hh.2.2.2.2.2.1), (keep hb hh.2.2.2.2.2.2.1), (keep hb hh.2.2.2.2.2.2.2)⟩ (fun hH2 => ?_)
        clear hK K hh
        try clear hb
        have hh := hH2
        clear hH2
        refine norm_ (a' := ?_) ?_ ?_
        rotate_left
        · show Act.put _ (some 230) _ = _
          simp only [Act.put, sA, sB, sC, i64_w, i32_w]
          rfl
        refine one_ (i := 7) (N := some 231) qq.m7 rfl rfl (one_of HT_.out (by kernel_rfl)) (by decide) (fun K hK => ?_)
        refine goes_ Try.func29 (by kernel_rfl) rfl #[.agg (setArr (markS n x2 l2))] (by rfl) rfl rfl (by simp only [List.map_toArray, List.map_cons, List.map_nil]; rfl) ?_
        with_reducible refine (set_spans (markS n x2 l2) K2.out _).mono ?_
        rintro e w71 ⟨vs, rfl, hos, hb⟩
        refine ⟨_, rfl, ?_⟩
        obtain ⟨As, cs, hse, hcs, hCs, _⟩ := hos.reads
        subst hse
        refine hK.out _ _ ⟨(below_step hh.1 hb), (hh.2.1.keep hb), (Kd.R_below hh.2.2.1 hb), (Kd.R_below hh.2.2.2.1 hb), (hh.2.2.2.2.1.keep hb), (keep hb hh.2.2.2.2.2.1), (keep hb hh.2.2.2.2.2.2.1), (keep hb hh.2.2.2.2.2.2.2)⟩ (fun hH2 => ?_)
        clear hK K hh
        try clear hb
        have hh := hH2
        clear hH2
        refine norm_ (a' := ?_) ?_ ?_
        rotate_left
        · show Act.put _ (some 231) _ = _
          simp only [Act.put, sA, sB, sC, i64_w, i32_w]
          rfl
        refine one_ (i := 8) (N := some 232) qq.m8 rfl rfl (one_of HT_.out (by kernel_rfl)) (by decide) (fun K hK => ?_)
        refine goes_ Try.func28 (by kernel_rfl) rfl #[.slice AF (spansOf (markS n x2 l2)).length cF, .slice As (spansOf (markS n x2 l2)).length cs] (by rfl) rfl rfl (by simp only [List.map_toArray, List.map_cons, List.map_nil]; rfl) ?_
        with_reducible refine (same_C AF cF As cs (spansOf (markS n x2 l2)) (R_len' hh.2.2.1) hcs (by have := LF.out; omega) _ (C_of_R hh.2.2.1).1 hCs).mono ?_
        rintro e w72 ⟨rfl, hb⟩
        refine ⟨_, rfl, ?_⟩
        clear hCs hcs hos
        refine hK.out _ _ ⟨(below_step hh.1 hb), (hh.2.1.keep hb), (Kd.R_below hh.2.2.1 hb), (Kd.R_below hh.2.2.2.1 hb), (hh.2.2.2.2.1.keep hb), (keep hb hh.2.2.2.2.2.1), (keep hb hh.2.2.2.2.2.2.1), (keep hb hh.2.2.2.2.2.2.2)⟩ (fun hH2 => ?_)
        clear hK K hh
        try clear hb
        have hh := hH2
        clear hH2
        refine norm_ (a' := ?_) ?_ ?_
        rotate_left
        · show Act.put _ (some 232) _ = _
          simp only [Act.put, sA, sB, sC, i64_w, i32_w]
          rfl
        refine pure_ (i := 9) (N := some 233) (v := ?_) (a' := ?_) qq.m9 rfl rfl (any_of HT_.out (by kernel_rfl)) (fun _ _ _ h => h) (Or.inl ⟨by rfl, ?_⟩) ?_ ?_
        rotate_left
        · intro w'
          go_simp
          with_reducible rfl
        rotate_left
        · simp only [Act.put, sA, sB, sC, i64_w, i32_w]
          rfl
        refine pure_ (i := 10) (N := some 234) (v := ?_) (a' := ?_) qq.m10 rfl rfl (any_of HT_.out (by kernel_rfl)) (fun _ _ _ h => h) (Or.inl ⟨by rfl, ?_⟩) ?_ ?_
        rotate_left
        · intro w'
          go_simp
          with_reducible rfl
        rotate_left
        · simp only [Act.put, sA, sB, sC, i64_w, i32_w]
          rfl
        refine pure_ (i := 11) (N := some 235) (v := ?_) (a' := ?_) qq.m11 rfl rfl (any_of HT_.out (by kernel_rfl)) (fun _ _ _ h => h) (Or.inl ⟨by rfl, ?_⟩) ?_ ?_
        rotate_left
        · intro w'
          go_simp
          with_reducible rfl
        rotate_left
        · simp only [Act.put, sA, sB, sC, i64_w, i32_w]
          rfl
        refine pure_ (i := 13) (N := some 237) (v := ?_) (a' := ?_) qq.m12 rfl rfl (any_of HT_.out (by kernel_rfl)) (fun _ _ _ h => h) (Or.inl ⟨by rfl, ?_⟩) ?_ ?_
        rotate_left
        · intro w'
          go_simp
          with_reducible rfl
        rotate_left
        · simp only [Act.put, sA, sB, sC, i64_w, i32_w]
          rfl
        refine pure_ (i := 15) (N := some 239) (v := ?_) (a' := ?_) qq.m13 rfl rfl (any_of HT_.out (by kernel_rfl)) (fun _ _ _ h => h) (Or.inl ⟨by rfl, ?_⟩) ?_ ?_
        rotate_left
        · intro w'
          go_simp
          with_reducible rfl
        rotate_left
        · simp only [Act.put, sA, sB, sC, i64_w, i32_w]
          rfl
        refine take_ (i := 12) (N := some 236) (v := ?_) (a' := ?_) qq.m14 rfl rfl (take_ofW HT_.out HW_.out (by kernel_rfl)) (fun _ _ _ h => h) (Or.inl ⟨by rfl, ?_⟩) hh ?_ ?_
        rotate_left
        · rintro w' ⟨s0, s1, s2, s3, s4, s5, s6, s7⟩
          refine row_yields 75 (.tmp 7) ?_ gm ?_ 75 (modC n (bitsS n x1) (bitsS n x2) l1 l2 b) (0, 0) _ s1.hd Try.underlying75 rfl (by rw [MS.out]; exact infoM)
          · rfl
          · rfl
        rotate_left
        · simp only [Act.put, sA, sB, sC, i64_w, i32_w]
          rfl
        refine take_ (i := 14) (N := some 238) (v := ?_) (a' := ?_) qq.m15 rfl rfl (take_ofW HT_.out HW_.out (by kernel_rfl)) (fun _ _ _ h => h) (Or.inl ⟨by rfl, ?_⟩) hh ?_ ?_
        rotate_left
        · rintro w' ⟨s0, s1, s2, s3, s4, s5, s6, s7⟩
          refine set_yields (.tmp 237) ?_ gm 1 ?_ (bitsS n x1) (by exact L1.out) (ModAt.rx s1)
          · rfl
          · rfl
        rotate_left
        · simp only [Act.put, sA, sB, sC, i64_w, i32_w]
          rfl
        refine take_ (i := 16) (N := some 240) (v := ?_) (a' := ?_) qq.m16 rfl rfl (take_ofW HT_.out HW_.out (by kernel_rfl)) (fun _ _ _ h => h) (Or.inl ⟨by rfl, ?_⟩) hh ?_ ?_
        rotate_left
        · rintro w' ⟨s0, s1, s2, s3, s4, s5, s6, s7⟩
          go_simp
          with_reducible rfl
        rotate_left
        · simp only [Act.put, sA, sB, sC, i64_w, i32_w]
          rfl
        refine one_ (i := 17) (N := some 241) qq.m17 rfl rfl (one_of HT_.out (by kernel_rfl)) (by decide) (fun K hK => ?_)
        refine goes_ Try.func48 (by kernel_rfl) rfl #[.agg (modC n (bitsS n x1) (bitsS n x2) l1 l2 b), .agg (setArr (bitsS n x1)), .bool l1] (by rfl) rfl rfl (by simp only [List.map_toArray, List.map_cons, List.map_nil]; rfl) ?_
        with_reducible refine (shown_calls n x1 (bitsS n x1) (bitsS n x2) l1 l2 b l1 Hn64.out L1.out _).mono ?_
        rintro e w73 ⟨rfl, hb⟩
        refine ⟨_, rfl, ?_⟩
        refine hK.out _ _ ⟨(below_step hh.1 hb), (hh.2.1.keep hb), (Kd.R_below hh.2.2.1 hb), (Kd.R_below hh.2.2.2.1 hb), (hh.2.2.2.2.1.keep hb), (keep hb hh.2.2.2.2.2.1), (keep hb hh.2.2.2.2.2.2.1), (keep hb hh.2.2.2.2.2.2.2)⟩ (fun hH2 => ?_)
        clear hK K hh
        try clear hb
        have hh := hH2
        clear hH2
        refine norm_ (a' := ?_) ?_ ?_
        rotate_left
        · show Act.put _ (some 241) _ = _
          simp only [Act.put, sA, sB, sC, i64_w, i32_w]
          rfl
        refine one_ (i := 18) (N := some 242) qq.m18 rfl rfl (one_of HT_.out (by kernel_rfl)) (by decide) (fun K hK => ?_)
        refine goes_ Try.func29 (by kernel_rfl) rfl #[.agg (setArr (markS n x1 l1))] (by rfl) rfl rfl (by simp only [List.map_toArray, List.map_cons, List.map_nil]; rfl) ?_
        with_reducible refine (set_spans (markS n x1 l1) K1.out _).mono ?_
        rintro e w74 ⟨vs, rfl, hos, hb⟩
        refine ⟨_, rfl, ?_⟩
        obtain ⟨As, cs, hse, hcs, hCs, _⟩ := hos.reads
        subst hse
        refine hK.out _ _ ⟨(below_step hh.1 hb), (hh.2.1.keep hb), (Kd.R_below hh.2.2.1 hb), (Kd.R_below hh.2.2.2.1 hb), (hh.2.2.2.2.1.keep hb), (keep hb hh.2.2.2.2.2.1), (keep hb hh.2.2.2.2.2.2.1), (keep hb hh.2.2.2.2.2.2.2)⟩ (fun hH2 => ?_)
        clear hK K hh
        try clear hb
        have hh := hH2
        clear hH2
        refine norm_ (a' := ?_) ?_ ?_
        rotate_left
        · show Act.put _ (some 242) _ = _
          simp only [Act.put, sA, sB, sC, i64_w, i32_w]
          rfl
        refine one_ (i := 19) (N := some 243) qq.m19 rfl rfl (one_of HT_.out (by kernel_rfl)) (by decide) (fun K hK => ?_)
        refine goes_ Try.func28 (by kernel_rfl) rfl #[.slice AN (spansOf (markS n x1 l1)).length cN, .slice As (spansOf (markS n x1 l1)).length cs] (by rfl) rfl rfl (by simp only [List.map_toArray, List.map_cons, List.map_nil]; rfl) ?_
        with_reducible refine (same_C AN cN As cs (spansOf (markS n x1 l1)) (R_len' hh.2.2.2.1) hcs (by have := LN.out; omega) _ (C_of_R hh.2.2.2.1).1 hCs).mono ?_
        rintro e w75 ⟨rfl, hb⟩
        refine ⟨_, rfl, ?_⟩
        clear hCs hcs hos
        refine hK.out _ _ ⟨(below_step hh.1 hb), (hh.2.1.keep hb), (Kd.R_below hh.2.2.1 hb), (Kd.R_below hh.2.2.2.1 hb), (hh.2.2.2.2.1.keep hb), (keep hb hh.2.2.2.2.2.1), (keep hb hh.2.2.2.2.2.2.1), (keep hb hh.2.2.2.2.2.2.2)⟩ (fun hH2 => ?_)
        clear hK K hh
        try clear hb
        have hh := hH2
        clear hH2
        refine norm_ (a' := ?_) ?_ ?_
        rotate_left
        · show Act.put _ (some 243) _ = _
          simp only [Act.put, sA, sB, sC, i64_w, i32_w]
          rfl
        refine pure_ (i := 20) (N := some 244) (v := ?_) (a' := ?_) qq.m20 rfl rfl (any_of HT_.out (by kernel_rfl)) (fun _ _ _ h => h) (Or.inl ⟨by rfl, ?_⟩) ?_ ?_
        rotate_left
        · intro w'
          go_simp
          with_reducible rfl
        rotate_left
        · simp only [Act.put, sA, sB, sC, i64_w, i32_w]
          rfl
        refine pure_ (i := 21) (N := some 245) (v := ?_) (a' := ?_) qq.m21 rfl rfl (any_of HT_.out (by kernel_rfl)) (fun _ _ _ h => h) (Or.inl ⟨by rfl, ?_⟩) ?_ ?_
        rotate_left
        · intro w'
          go_simp
          with_reducible rfl
        rotate_left
        · simp only [Act.put, sA, sB, sC, i64_w, i32_w]
          rfl
        refine pure_ (i := 22) (N := some 246) (v := ?_) (a' := ?_) qq.m22 rfl rfl (any_of HT_.out (by kernel_rfl)) (fun _ _ _ h => h) (Or.inl ⟨by rfl, ?_⟩) ?_ ?_
        rotate_left
        · intro w'
          go_simp
          with_reducible rfl
        rotate_left
        · simp only [Act.put, sA, sB, sC, i64_w, i32_w]
          rfl
        refine pure_ (i := 23) (N := some 247) (v := ?_) (a' := ?_) qq.m23 rfl rfl (any_of HT_.out (by kernel_rfl)) (fun _ _ _ h => h) (Or.inl ⟨by rfl, ?_⟩) ?_ ?_
        rotate_left
        · intro w'
          go_simp
          with_reducible rfl
        rotate_left
        · simp only [Act.put, sA, sB, sC, i64_w, i32_w]
          rfl
        refine pure_ (i := 25) (N := some 249) (v := ?_) (a' := ?_) qq.m24 rfl rfl (any_of HT_.out (by kernel_rfl)) (fun _ _ _ h => h) (Or.inl ⟨by rfl, ?_⟩) ?_ ?_
        rotate_left
        · intro w'
          go_simp
          with_reducible rfl
        rotate_left
        · simp only [Act.put, sA, sB, sC, i64_w, i32_w]
          rfl
        refine take_ (i := 26) (N := some 250) (v := ?_) (a' := ?_) qq.m25 rfl rfl (take_ofW HT_.out HW_.out (by kernel_rfl)) (fun _ _ _ h => h) (Or.inl ⟨by rfl, ?_⟩) hh ?_ ?_
        rotate_left
        · rintro w' ⟨s0, s1, s2, s3, s4, s5, s6, s7⟩
          go_simp
          with_reducible rfl
        rotate_left
        · simp only [Act.put, sA, sB, sC, i64_w, i32_w]
          rfl
        refine one_ (i := 24) (N := some 248) qq.m26 rfl rfl (one_of HT_.out (by kernel_rfl)) (by decide) (fun K hK => ?_)
        refine goes_ Try.func40 (by kernel_rfl) rfl #[ptr gt] (by rfl) rfl rfl (by simp only [List.map_toArray, List.map_cons, List.map_nil]; rfl) ?_
        with_reducible refine (track_lost w.heap.size gt n x1 x2 l1 l2 b _ hh.2.2.2.2.1).mono ?_
        rintro e w76 ⟨rfl, hb⟩
        refine ⟨_, rfl, ?_⟩
        refine hK.out _ _ ⟨(below_step hh.1 hb), (hh.2.1.keep hb), (Kd.R_below hh.2.2.1 hb), (Kd.R_below hh.2.2.2.1 hb), (hh.2.2.2.2.1.keep hb), (keep hb hh.2.2.2.2.2.1), (keep hb hh.2.2.2.2.2.2.1), (keep hb hh.2.2.2.2.2.2.2)⟩ (fun hH2 => ?_)
        clear hK K hh
        try clear hb
        have hh := hH2
        clear hH2
        refine norm_ (a' := ?_) ?_ ?_
        rotate_left
        · show Act.put _ (some 248) _ = _
          simp only [Act.put, sA, sB, sC, i64_w, i32_w]
          rfl
        refine pure_ (i := 27) (N := some 251) (v := ?_) (a' := ?_) qq.m27 rfl rfl (any_of HT_.out (by kernel_rfl)) (fun _ _ _ h => h) (Or.inl ⟨by rfl, ?_⟩) ?_ ?_
        rotate_left
        · intro w'
          go_simp
          with_reducible rfl
        rotate_left
        · simp only [Act.put, sA, sB, sC, i64_w, i32_w]
          rfl
        refine pure_ (i := 28) (N := some 252) (v := ?_) (a' := ?_) qq.m28 rfl rfl (any_of HT_.out (by kernel_rfl)) (fun _ _ _ h => h) (Or.inl ⟨by rfl, ?_⟩) ?_ ?_
        rotate_left
        · intro w'
          go_simp
          with_reducible rfl
        rotate_left
        · simp only [Act.put, sA, sB, sC, i64_w, i32_w]
          rfl
        refine pure_ (i := 29) (N := some 253) (v := ?_) (a' := ?_) qq.m29 rfl rfl (any_of HT_.out (by kernel_rfl)) (fun _ _ _ h => h) (Or.inl ⟨by rfl, ?_⟩) ?_ ?_
        rotate_left
        · intro w'
          go_simp
          with_reducible rfl
        rotate_left
        · simp only [Act.put, sA, sB, sC, i64_w, i32_w]
          rfl
        refine pure_ (i := 30) (N := some 254) (v := ?_) (a' := ?_) qq.m30 rfl rfl (any_of HT_.out (by kernel_rfl)) (fun _ _ _ h => h) (Or.inl ⟨by rfl, ?_⟩) ?_ ?_
        rotate_left
        · intro w'
          go_simp
          with_reducible rfl
        rotate_left
        · simp only [Act.put, sA, sB, sC, i64_w, i32_w]
          rfl
        refine pure_ (i := 32) (N := some 256) (v := ?_) (a' := ?_) qq.m31 rfl rfl (any_of HT_.out (by kernel_rfl)) (fun _ _ _ h => h) (Or.inl ⟨by rfl, ?_⟩) ?_ ?_
        rotate_left
        · intro w'
          go_simp
          with_reducible rfl
        rotate_left
        · simp only [Act.put, sA, sB, sC, i64_w, i32_w]
          rfl
        refine take_ (i := 33) (N := some 257) (v := ?_) (a' := ?_) qq.m32 rfl rfl (take_ofW HT_.out HW_.out (by kernel_rfl)) (fun _ _ _ h => h) (Or.inl ⟨by rfl, ?_⟩) hh ?_ ?_
        rotate_left
        · rintro w' ⟨s0, s1, s2, s3, s4, s5, s6, s7⟩
          go_simp
          with_reducible rfl
        rotate_left
        · simp only [Act.put, sA, sB, sC, i64_w, i32_w]
          rfl
        refine one_ (i := 31) (N := some 255) qq.m33 rfl rfl (one_of HT_.out (by kernel_rfl)) (by decide) (fun K hK => ?_)
        refine goes_ Try.func44 (by kernel_rfl) rfl #[ptr gt] (by rfl) rfl rfl (by simp only [List.map_toArray, List.map_cons, List.map_nil]; rfl) ?_
        with_reducible refine (track_busy w.heap.size gt n x1 x2 l1 l2 b _ hh.2.2.2.2.1).mono ?_
        rintro e w77 ⟨rfl, hb⟩
        refine ⟨_, rfl, ?_⟩
        refine hK.out _ _ ⟨(below_step hh.1 hb), (hh.2.1.keep hb), (Kd.R_below hh.2.2.1 hb), (Kd.R_below hh.2.2.2.1 hb), (hh.2.2.2.2.1.keep hb), (keep hb hh.2.2.2.2.2.1), (keep hb hh.2.2.2.2.2.2.1), (keep hb hh.2.2.2.2.2.2.2)⟩ (fun hH2 => ?_)
        clear hK K hh
        try clear hb
        have hh := hH2
        clear hH2
        refine norm_ (a' := ?_) ?_ ?_
        rotate_left
        · show Act.put _ (some 255) _ = _
          simp only [Act.put, sA, sB, sC, i64_w, i32_w]
          rfl
        refine pure_ (i := 34) (N := some 258) (v := ?_) (a' := ?_) qq.m34 rfl rfl (any_of HT_.out (by kernel_rfl)) (fun _ _ _ h => h) (Or.inl ⟨by rfl, ?_⟩) ?_ ?_
        rotate_left
        · intro w'
          go_simp
          with_reducible rfl
        rotate_left
        · simp only [Act.put, sA, sB, sC, i64_w, i32_w]
          rfl
        refine pure_ (i := 35) (N := some 259) (v := ?_) (a' := ?_) qq.m35 rfl rfl (any_of HT_.out (by kernel_rfl)) (fun _ _ _ h => h) (Or.inl ⟨by rfl, ?_⟩) ?_ ?_
        rotate_left
        · intro w'
          go_simp
          with_reducible rfl
        rotate_left
        · simp only [Act.put, sA, sB, sC, i64_w, i32_w]
          rfl
        refine done_ (done_of HT_.out (by kernel_rfl)) ?_
        replace HS := Aside0.mk hh.1
        replace M := Aside0.mk hh.2.1
        replace VF := Aside0.mk hh.2.2.1
        replace VN := Aside0.mk hh.2.2.2.1
        replace T := Aside0.mk hh.2.2.2.2.1
        replace Cl := Aside0.mk hh.2.2.2.2.2.1
        replace Cg := Aside0.mk hh.2.2.2.2.2.2.1
        replace Cb := Aside0.mk hh.2.2.2.2.2.2.2
        clear hh
        replace HB := Aside0.mk (below_step HB.out HS.out)
        replace HK := Aside0.mk ((HK.out.keep HS.out).top)
        replace RF := Aside0.mk (RF.out.keep HS.out)
        replace RN := Aside0.mk (RN.out.keep HS.out)
        clear HS
        clear Cl Cg Cb VF VN
        clear MS
        go_wp2_with fail
        have LTr : Aside0 (gf < w77.heap.size) := ⟨RF.out.lt⟩
        refine calls_abs (fun WQ => Below w.heap.size w WQ ∧ KeptAt WQ w.heap.size gB (fun k => WQ.heap.size ≤ k) ([]) (LS ++ [spansOf (markS n x2 l2)] ++ [spansOf (markS n x1 l1)]) ([]) ∧ RunsAt WQ bF gf (spansOf (markS n x2 l2)) ∧ RunsAt WQ bN gn (spansOf (markS n x1 l1)) ∧ TrackAt WQ w.heap.size gt n x1 x2 l1 l2 b ∧ ModAt WQ gm n (bitsS n x1) (bitsS n x2) l1 l2 b ∧ Kd.C k31 WQ (some ⟨w77.heap.size, 0, none⟩) 1 [⟨0, 2⟩]) ⟨below_step HB.out (by repeat (first | exact Below.refl _ _ | apply below_alloc | refine Below.setCell ?_ (Nat.le_refl _) _ | refine Below.setCell ?_ (by simp) _)), (HK.out.keep (by repeat (first | exact Below.refl _ _ | apply below_alloc | refine Below.setCell ?_ (Nat.le_refl _) _ | refine Below.setCell ?_ (by simp) _))).top, RF.out.keep (by repeat (first | exact Below.refl _ _ | apply below_alloc | refine Below.setCell ?_ (Nat.le_refl _) _ | refine Below.setCell ?_ (by simp) _)), RN.out.keep (by repeat (first | exact Below.refl _ _ | apply below_alloc | refine Below.setCell ?_ (Nat.le_refl _) _ | refine Below.setCell ?_ (by simp) _)), T.out.keep (by repeat (first | exact Below.refl _ _ | apply below_alloc | refine Below.setCell ?_ (Nat.le_refl _) _ | refine Below.setCell ?_ (by simp) _)), M.out.keep (by repeat (first | exact Below.refl _ _ | apply below_alloc | refine Below.setCell ?_ (Nat.le_refl _) _ | refine Below.setCell ?_ (by simp) _)), C_lit w77 [⟨0, 2⟩] (by decide) _ rfl⟩ ?_
        rintro w33 ⟨h_HB, h_HK, h_RF, h_RN, h_T, h_M, h_C1⟩
        replace HB := Aside0.mk h_HB
        replace HK := Aside0.mk h_HK
        replace RF := Aside0.mk h_RF
        replace RN := Aside0.mk h_RN
        replace T := Aside0.mk h_T
        replace M := Aside0.mk h_M
        have C1 := Aside0.mk h_C1
        clear h_HB h_HK h_RF h_RN h_T h_M h_C1
        refine (runs_put_one bF gf (markS n x2 l2) ⟨w77.heap.size, 0, none⟩ 1 0 2 _ K2.out RF.out (by have h1 := RF.out.lt; have h2 := GF.out; omega) C1.out (by have := LTr.out; show w77.heap.size ≠ gf; omega)).mono ?_
        rintro e w34 ⟨zp, rfl, hr, ho⟩
        replace HB := Aside0.mk (below_only HB.out ho GE_RF.out)
        replace HK := Aside0.mk ((HK.out.onlyR ho RF.out).top)
        replace RN := Aside0.mk (RN.out.onlyR ho NE_RF_RN.out.symm RF.out)
        replace T := Aside0.mk (T.out.onlyR ho RF.out)
        replace M := Aside0.mk (M.out.onlyR ho RF.out (by decide))
        clear ho
        replace RF := Aside0.mk hr
        clear hr
        clear C1 LTr
        go_wp2_with fail
        have LTr : Aside0 (gn < w34.heap.size) := ⟨RN.out.lt⟩
        refine calls_abs (fun WQ => Below w.heap.size w WQ ∧ KeptAt WQ w.heap.size gB (fun k => WQ.heap.size ≤ k) ([]) (LS ++ [spansOf (markS n x2 l2)] ++ [spansOf (markS n x1 l1)]) ([]) ∧ RunsAt WQ bF gf (spansOf (putS (markS n x2 l2) [⟨0, 2⟩] true)) ∧ RunsAt WQ bN gn (spansOf (markS n x1 l1)) ∧ TrackAt WQ w.heap.size gt n x1 x2 l1 l2 b ∧ ModAt WQ gm n (bitsS n x1) (bitsS n x2) l1 l2 b ∧ Kd.C k31 WQ (some ⟨w34.heap.size, 0, none⟩) 1 [⟨0, 2⟩]) ⟨below_step HB.out (by repeat (first | exact Below.refl _ _ | apply below_alloc | refine Below.setCell ?_ (Nat.le_refl _) _ | refine Below.setCell ?_ (by simp) _)), (HK.out.keep (by repeat (first | exact Below.refl _ _ | apply below_alloc | refine Below.setCell ?_ (Nat.le_refl _) _ | refine Below.setCell ?_ (by simp) _))).top, RF.out.keep (by repeat (first | exact Below.refl _ _ | apply below_alloc | refine Below.setCell ?_ (Nat.le_refl _) _ | refine Below.setCell ?_ (by simp) _)), RN.out.keep (by repeat (first | exact Below.refl _ _ | apply below_alloc | refine Below.setCell ?_ (Nat.le_refl _) _ | refine Below.setCell ?_ (by simp) _)), T.out.keep (by repeat (first | exact Below.refl _ _ | apply below_alloc | refine Below.setCell ?_ (Nat.le_refl _) _ | refine Below.setCell ?_ (by simp) _)), M.out.keep (by repeat (first | exact Below.refl _ _ | apply below_alloc | refine Below.setCell ?_ (Nat.le_refl _) _ | refine Below.setCell ?_ (by simp) _)), C_lit w34 [⟨0, 2⟩] (by decide) _ rfl⟩ ?_
        rintro w35 ⟨h_HB, h_HK, h_RF, h_RN, h_T, h_M, h_C1⟩
        replace HB := Aside0.mk h_HB
        replace HK := Aside0.mk h_HK
        replace RF := Aside0.mk h_RF
        replace RN := Aside0.mk h_RN
        replace T := Aside0.mk h_T
        replace M := Aside0.mk h_M
        have C1 := Aside0.mk h_C1
        clear h_HB h_HK h_RF h_RN h_T h_M h_C1
        refine (runs_put_one bN gn (markS n x1 l1) ⟨w34.heap.size, 0, none⟩ 1 0 2 _ K1.out RN.out (by have h1 := RN.out.lt; have h2 := GN.out; omega) C1.out (by have := LTr.out; show w34.heap.size ≠ gn; omega)).mono ?_
        rintro e w36 ⟨zp, rfl, hr, ho⟩
        replace HB := Aside0.mk (below_only HB.out ho GE_RN.out)
        replace HK := Aside0.mk ((HK.out.onlyR ho RN.out).top)
        replace RF := Aside0.mk (RF.out.onlyR ho NE_RF_RN.out RN.out)
        replace T := Aside0.mk (T.out.onlyR ho RN.out)
        replace M := Aside0.mk (M.out.onlyR ho RN.out (by decide))
        clear ho
        replace RN := Aside0.mk hr
        clear hr
        clear C1 LTr
        clear RF RN
        go_wp2_with fail
        go_roundg kk
        case measure => omega
        case rel => exact ⟨i + 1, gt, x1, x2, l1, l2, b, LS ++ [spansOf (markS n x2 l2)] ++ [spansOf (markS n x1 l1)], by omega, rfl, by go_num, HI, ⟨by rw [List.length_append, List.length_append, HLS.out.1]; show 2 * i + 1 + 1 = 2 * (i + 1); omega, fun y hy => by rcases List.mem_append.1 hy with hy | hy; rcases List.mem_append.1 hy with hy | hy; exact HLS.out.2 y hy; rw [List.mem_singleton.1 hy]; exact LF.out; rw [List.mem_singleton.1 hy]; exact LN.out⟩, HB, T, M, HK⟩
    · have hlt' : ¬ (i : Int) < (l.length : Int) := by omega
      have HLn : Aside0 (LS.length ≤ 120) := ⟨by have h1 := HLS.out.1; have h2 := Hl.out; omega⟩
      clear hi
      clear M T
      as_aux_lemma =>
      go_wp2_with fail
      refine (track_lose_nil _).mono ?_
      rintro e w37 ⟨rfl, hB⟩
      replace HB := Aside0.mk (below_step HB.out hB)
      replace HK := Aside0.mk ((HK.out.keep hB).top)
      clear hB
      go_wp2_with fail
      refine (track_frozen_nil _).mono ?_
      rintro e w38 ⟨gf, rfl, hge, hr, hB⟩
      have GE_RF : Aside0 (w.heap.size ≤ gf) := ⟨by have := HB.out.size; omega⟩
      replace HB := Aside0.mk (below_step HB.out hB)
      replace HK := Aside0.mk ((HK.out.keep hB).top)
      clear hB
      have RF := Aside0.mk hr
      clear hr
      generalize w37.heap.size = bF at *
      clear hge
      go_wp2_with fail
      refine (track_now_nil _).mono ?_
      rintro e w39 ⟨gn, rfl, hge, hr, hB⟩
      have NE_RF_RN : Aside0 (gf ≠ gn) := ⟨by have := RF.out.lt; omega⟩
      have GE_RN : Aside0 (w.heap.size ≤ gn) := ⟨by have := HB.out.size; omega⟩
      replace HB := Aside0.mk (below_step HB.out hB)
      replace HK := Aside0.mk ((HK.out.keep hB).top)
      replace RF := Aside0.mk (RF.out.keep hB)
      clear hB
      have RN := Aside0.mk hr
      clear hr
      generalize w38.heap.size = bN at *
      clear hge
      go_wp2_with fail
      refine (track_mark_nil 0 1 _).mono ?_
      rintro e w40 ⟨rfl, hB⟩
      replace HB := Aside0.mk (below_step HB.out hB)
      replace HK := Aside0.mk ((HK.out.keep hB).top)
      replace RF := Aside0.mk (RF.out.keep hB)
      replace RN := Aside0.mk (RN.out.keep hB)
      clear hB
      go_wp2_with fail
      refine (track_freeze_nil _).mono ?_
      rintro e w41 ⟨rfl, hB⟩
      replace HB := Aside0.mk (below_step HB.out hB)
      replace HK := Aside0.mk ((HK.out.keep hB).top)
      replace RF := Aside0.mk (RF.out.keep hB)
      replace RN := Aside0.mk (RN.out.keep hB)
      clear hB
      go_wp2_with fail
      refine (track_commit_nil _).mono ?_
      rintro e w42 ⟨rfl, hB⟩
      replace HB := Aside0.mk (below_step HB.out hB)
      replace HK := Aside0.mk ((HK.out.keep hB).top)
      replace RF := Aside0.mk (RF.out.keep hB)
      replace RN := Aside0.mk (RN.out.keep hB)
      clear hB
      go_wp2_with fail
      refine (track_back_nil _).mono ?_
      rintro e w43 ⟨rfl, hB⟩
      replace HB := Aside0.mk (below_step HB.out hB)
      replace HK := Aside0.mk ((HK.out.keep hB).top)
      replace RF := Aside0.mk (RF.out.keep hB)
      replace RN := Aside0.mk (RN.out.keep hB)
      clear hB
      go_wp2_with fail
      refine (track_lost_nil _).mono ?_
      rintro e w44 ⟨rfl, hB⟩
      replace HB := Aside0.mk (below_step HB.out hB)
      replace HK := Aside0.mk ((HK.out.keep hB).top)
      replace RF := Aside0.mk (RF.out.keep hB)
      replace RN := Aside0.mk (RN.out.keep hB)
      clear hB
      go_wp2_with fail
      refine (track_busy_nil _).mono ?_
      rintro e w45 ⟨rfl, hB⟩
      replace HB := Aside0.mk (below_step HB.out hB)
      replace HK := Aside0.mk ((HK.out.keep hB).top)
      replace RF := Aside0.mk (RF.out.keep hB)
      replace RN := Aside0.mk (RN.out.keep hB)
      clear hB
      go_wp2_with fail
      refine (runs_count0 bF gf _ RF.out).mono ?_
      rintro e w46 ⟨rfl, hB⟩
      replace HB := Aside0.mk (below_step HB.out hB)
      replace HK := Aside0.mk ((HK.out.keep hB).top)
      replace RF := Aside0.mk (RF.out.keep hB)
      replace RN := Aside0.mk (RN.out.keep hB)
      clear hB
      go_wp2_with fail
      refine (runs_count0 bN gn _ RN.out).mono ?_
      rintro e w47 ⟨rfl, hB⟩
      replace HB := Aside0.mk (below_step HB.out hB)
      replace HK := Aside0.mk ((HK.out.keep hB).top)
      replace RF := Aside0.mk (RF.out.keep hB)
      replace RN := Aside0.mk (RN.out.keep hB)
      clear hB
      go_wp2_with fail
      refine (track_copy_nil _).mono ?_
      rintro e w48 ⟨rfl, hB⟩
      replace HB := Aside0.mk (below_step HB.out hB)
      replace HK := Aside0.mk ((HK.out.keep hB).top)
      replace RF := Aside0.mk (RF.out.keep hB)
      replace RN := Aside0.mk (RN.out.keep hB)
      clear hB
      go_wp2_with fail
      refine (kept_apart gB w.heap.size _ _ _ _ _ HK.out ⟨by simp, by simp⟩ ⟨by have := HLn.out; omega, fun y hy => by have := HLS.out.2 y hy; omega⟩ ⟨by simp, by simp⟩ HB.out.size).mono ?_
      rintro e w99 ⟨rfl, hB⟩
      go_wp2_with fail
      go_ret
      exact ⟨rfl, HB.out.trans hB⟩
theorem walk (z : Int) (A : Option Addr) (c : Nat) (l : List Op6) (w : World) (_ : (Lit.int .i64 z).wf = true) (_ : l.length ≤ c) (hA : OpsC w A l) :
    Calls Try.prog 12 #[.int .i64 z, .slice A l.length c] w fun e w' => e = .returned (.bool true) ∧ Below w.heap.size w w' := by
  by_cases h : 60 < (l.length : Int)
  · exact early z A c l w h
  · by_cases hz : z < 1 ∨ 64 < z
    · exact bad z A c l w (by omega) hz
    · obtain ⟨n, rfl⟩ : ∃ n : Nat, z = (n : Int) := ⟨z.toNat, by omega⟩
      exact main n A c l w (by omega) (by omega) (by omega) hA
end Go.Proofs.Ytffemlfdhkndiaa.WTrackPlays
end
