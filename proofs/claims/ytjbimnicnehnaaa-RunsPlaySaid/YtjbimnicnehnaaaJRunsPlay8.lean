/- Parts of the proof for RunsPlay: WaRunsPlay. -/
import Derived.Deep.WholeRow
import Derived.Deep.DeepCutAuto
import Derived.Deep.CutBlock
import Derived.Test.YtjbimnicnehnaaaJRunsPlay7
import Derived.Test.YtjbimnicnehnaaaJRunsPlay6
import Derived.Test.YtjbimnicnehnaaaJRunsPlay2
section
namespace Go.Proofs.Ytjbimnicnehnaaa.WRunsPlay
open Go.RowKit Go.Proofs.YtjbimnicnehnaaaW.PrintWords Go.Proofs.YtjbimnicnehnaaaW.PrintLast Go.Proofs.YtjbimnicnehnaaaW.PrintMore Go.Proofs.Ytjbimnicnehnaaa.A Go.Proofs.Ytjbimnicnehnaaa.Hand
set_option linter.unusedVariables false
set_option linter.unusedSimpArgs false
attribute [local go_sem] max2_int min2_int max_two min_two max_three min_three max_four min_four
attribute [local go_sem high] eqA24
abbrev SP := S24
abbrev OP := S66
/-- How far the search for the next blocks has come. -/
def Srch (T : List SP) (fr : Int) (k : Nat) (b : Bool) (p q : Int) : Prop :=
  (b = false ∧ p = 0 ∧ q = 0 ∧ ∀ j, (h : j < T.length) → j < k → ¬ fr < T[j].f0 + T[j].f1) ∨ (b = true ∧ nextV T fr = (p, q, true))
theorem Srch.zero (T : List SP) (fr : Int) : Srch T fr 0 false 0 0 := .inl ⟨rfl, rfl, rfl, fun j _ h => by omega⟩
theorem Srch.no {T : List SP} {fr : Int} {k : Nat} {p q : Int} (h : Srch T fr k false p q) (hk : k < T.length) (hn : ¬ fr < T[k].f0 + T[k].f1) : Srch T fr (k + 1) false p q := by
  rcases h with ⟨_, h1, h2, h3⟩ | ⟨h, _⟩
  · refine .inl ⟨rfl, h1, h2, fun j hj hjk => ?_⟩
    rcases Nat.lt_or_ge j k with h | h
    · exact h3 j hj h
    · obtain rfl : j = k := by omega
      exact hn
  · cases h
theorem Srch.yes {T : List SP} {fr : Int} {k : Nat} {p q : Int} (h : Srch T fr k false p q) (hk : k < T.length) (hn : fr < T[k].f0 + T[k].f1) : Srch T fr (k + 1) true (max T[k].f0 fr) (T[k].f0 + T[k].f1 - max T[k].f0 fr) := by
  rcases h with ⟨_, h1, h2, h3⟩ | ⟨h, _⟩
  · exact .inr ⟨rfl, nextV_at T fr k hk h3 hn⟩
  · cases h
theorem Srch.done {T : List SP} {fr : Int} {k : Nat} {b : Bool} {p q : Int} (h : Srch T fr k b p q) (hk : b = true ∨ T.length ≤ k) : nextV T fr = (p, q, b) := by
  rcases h with ⟨h0, h1, h2, h3⟩ | ⟨h0, h⟩
  · subst h0 h1 h2
    exact nextV_none T fr (fun j hj => h3 j hj (by rcases hk with hk | hk; cases hk; omega))
  · rw [h0]; exact h
set_option maxRecDepth 100000 in
theorem early (A B : Option Addr) (c d : Nat) (f : List SP) (l : List OP) (fr : Int) (w : World) (h : 40 < (f.length : Int) ∨ (¬ 40 < (f.length : Int) ∧ 50 < (l.length : Int))) :
    Calls Try.prog 12 #[.slice A f.length c, .slice B l.length d, .int .i64 fr] w fun e w' => e = .returned (.bool true) ∧ Below w.heap.size w w' := by
  rcases h with h | ⟨h0, h⟩
  all_goals
    go_enter Try.func12, Try.ntmps12
    go_wp2_with (go_at_call 30; refine (alive2 _).mono ?_; rintro e w1 ⟨rfl, hB⟩)
    go_ret
    exact ⟨rfl, hB⟩
theorem lent_C {w : World} {B : Nat} {A : Option Addr} {c : Nat} {l : List SP} {x : SP} (h : Kd.R k24 24 w B (fun _ => True) (.slice A (l.length + 1) c) (l ++ [x])) : Kd.C k24 w A l.length l := by
  have h1 := Kd.C_take (m := l.length) (C_of_R h).1 (by simp)
  rw [List.take_left'] at h1
  exact h1
  rfl
set_option maxRecDepth 100000 in
set_option maxHeartbeats 3200000 in
theorem main (A B : Option Addr) (c d : Nat) (f : List SP) (l : List OP) (fr : Int) (w : World) (hf : f.length ≤ 40) (hl : l.length ≤ 50) (fr0 : -9223372036854775808 ≤ fr) (fr1 : fr ≤ 9223372036854775807) (hc : f.length ≤ c) (hd : l.length ≤ d) (hA : Kd.C k24 w A f.length f) (hB0 : Kd.C k66 w B l.length l) :
    Calls Try.prog 12 #[.slice A f.length c, .slice B l.length d, .int .i64 fr] w fun e w' => e = .returned (.bool true) ∧ Below w.heap.size w w' := by
  have HB := Aside0.mk (Below.refl w.heap.size w)
  have CA := Aside0.mk hA
  have CB := Aside0.mk hB0
  have Hc := Aside0.mk hc
  have Hd := Aside0.mk hd
  have Hf := Aside0.mk hf
  have Hl := Aside0.mk hl
  have i1 : (f.length : Int) ≤ 40 := by omega
  have i2 : (l.length : Int) ≤ 50 := by omega
  have n1 : ¬ (40 : Int) < (f.length : Int) := by omega
  have n2 : ¬ (50 : Int) < (l.length : Int) := by omega
  have K0 := Aside0.mk fr0
  have K1 := Aside0.mk fr1
  clear hA hB0 hc hd hf hl fr0 fr1
  go_enter Try.func12, Try.ntmps12
  go_wp2_with fail
  refine (alive2 _).mono ?_
  rintro e w1 ⟨rfl, hB⟩
  replace HB := Aside0.mk (below_step HB.out hB)
  clear hB
  go_wp2_with fail
  refine (lent_Spans A c f (by have := Hf.out; omega) _ (Kd.C_below CA.out HB.out)).mono ?_
  rintro e w2 ⟨A1, c1, rfl, hr, hB⟩
  have FR_M : Aside0 (∀ k, Value.ownBlock (.slice A1 (f.length + 1) c1) = some k → w1.heap.size ≤ k) := ⟨fun k hk => Kd.R_base hr k hk⟩
  have VM := Aside0.mk (Kd.R_lower hr HB.out.size)
  clear hr
  replace HB := Aside0.mk (below_step HB.out hB)
  clear hB
  go_wp2_with fail
  refine (runs_of f A1 c1 _ (lent_C VM.out)).mono ?_
  rintro e w3 ⟨rfl, hr, hB⟩
  rw [spans_new] at hr
  have GE_R : Aside0 (w.heap.size ≤ w2.heap.size) := ⟨by have := HB.out.size; omega⟩
  replace HB := Aside0.mk (below_step HB.out hB)
  replace VM := Aside0.mk (Kd.R_below VM.out hB)
  clear hB
  have R := Aside0.mk hr
  clear hr
  generalize w2.heap.size = gr at *
  replace R := Aside0.mk (R.out.lower GE_R.out)
  have hla : Aside0 ((putS none64 f true).length = 64) := ⟨putS_len _ _ _ (by simp)⟩
  obtain ⟨sa, hsa⟩ : ∃ q, q = putS none64 f true := ⟨_, rfl⟩
  rw [← hsa] at R hla
  replace hsa := Aside0.mk hsa
  go_wp2_with fail
  refine (stays_Spans A1 c1 A c f (by have := Hf.out; omega) _ VM.out Hc.out (Kd.C_below CA.out HB.out)).mono ?_
  rintro e w4 ⟨rfl, hB⟩
  replace HB := Aside0.mk (below_step HB.out hB)
  replace VM := Aside0.mk (Kd.R_below VM.out hB)
  replace R := Aside0.mk (R.out.keep hB)
  clear hB
  clear VM
  go_wp2_with fail
  refine (emulsionref1_Set_Put.calls none64 ⟨by simp⟩ A c f true _ (Kd.C_below CA.out HB.out) Hc.out).mono ?_
  rintro e w5 ⟨rfl, hB⟩
  rw [← hsa.out]
  replace HB := Aside0.mk (below_step HB.out hB)
  replace R := Aside0.mk (R.out.keep hB)
  clear hB
  have GEX : Aside0 (w.heap.size ≤ w5.heap.size) := ⟨HB.out.size⟩
  have hsz : w5.heap.size + 1 = w5.heap.size + 1 := rfl
  clear hsz
  go_wp2_with (with_reducible refine wpList_store_row rfl 30 (.tmp 9) (.tmp 56) rfl (w5.heap.size) (setArr sa) rfl rfl 30 _ (heap_alloc_new _ _) (by rw [setArr_size, hla.out] <;> exact info30) (by rw [setArr_size, hla.out] <;> with_unfolding_all rfl) (setArr_one _) ?_)
  try rw [World.setRow_alloc_new]
  refine code_abs (fun X => Below w.heap.size w X ∧ RunsAt X w.heap.size gr (spansOf sa) ∧ Blk X w5.heap.size 30 (setArr sa) ∧ KeptAt X w.heap.size (w5.heap.size + 1) (fun k => X.heap.size ≤ k) [] [] []) ⟨below_step HB.out (below_alloc (below_alloc (Below.refl _ _) _) _), R.out.keep (below_alloc (below_alloc (Below.refl _ _) _) _), (Blk.new _ _ _).alloc _, KeptAt.new' _ _ _ (by simp) (by simp; have := GEX.out; omega)⟩ ?_
  rintro w6 ⟨h_HB, h_R, h_SX, h_HK⟩
  replace HB := Aside0.mk h_HB
  replace R := Aside0.mk h_R
  have SX := Aside0.mk h_SX
  have HK := Aside0.mk h_HK
  clear h_HB h_R h_SX h_HK
  have HgK : Aside0 (w5.heap.size + 1 ≠ w5.heap.size) := ⟨by omega⟩
  generalize w5.heap.size = gx at *
  obtain ⟨gB, hgB⟩ : ∃ g, g = gx + 1 := ⟨_, rfl⟩
  rw [← hgB] at HK ⊢
  clear hgB HgK
  go_loopg [8, 11] (l.length + 1) (fun kq v8 v11 wz => ∃ (i gr : Nat) (s : List Bool) (LS : List (List SP)), i + kq = l.length + 1 ∧ v8 = ptrR gr ∧ v11 = .int .i64 (i : Int) ∧ Aside0 (w.heap.size ≤ gr) ∧ Aside0 (s.length = 64) ∧ Aside0 (LS.length = i ∧ ∀ x ∈ LS, x.length ≤ 65) ∧ Aside0 (Below w.heap.size w wz) ∧ Aside0 (Blk wz gx 30 (setArr s)) ∧ Aside0 (RunsAt wz w.heap.size gr (spansOf s)) ∧ Aside0 (KeptAt wz w.heap.size gB (fun k => wz.heap.size ≤ k) [] LS []))
  case atStart => exact ⟨0, gr, sa, [], by omega, rfl, rfl, GE_R, hla, ⟨rfl, fun x hx => by cases hx⟩, HB, SX, R, HK⟩
  case round =>
    clear HB SX R HK GE_R FR_M hla hsa
    obtain ⟨i, gr, s, LS, hi, rfl, rfl, GE_R, hsl, HLS, HB, SX, R, HK⟩ := hrel
    by_cases hlt : i ≤ l.length
    · have hlt' : (i : Int) ≤ (l.length : Int) := by omega
      obtain ⟨kk, rfl⟩ : ∃ z, gk = z + 1 := ⟨gk - 1, by omega⟩
      go_upto_if 66 with fail
      go_cut [8] (fun v8 wc => ∃ (gr' : Nat) (s' : List Bool), v8 = ptrR gr' ∧ Aside0 (w.heap.size ≤ gr') ∧ Aside0 (s'.length = 64) ∧ Aside0 (Below w.heap.size w wc) ∧ Aside0 (Blk wc gx 30 (setArr s')) ∧ Aside0 (RunsAt wc w.heap.size gr' (spansOf s')) ∧ Aside0 (KeptAt wc w.heap.size gB (fun k => wc.heap.size ≤ k) [] LS []))
      case first =>
        rcases Nat.eq_zero_or_pos i with rfl | hi0
        · go_wp2_with fail
          go_meet
          case rel => exact ⟨gr, s, rfl, GE_R, hsl, HB, SX, R, HK⟩
        · obtain ⟨j, rfl⟩ : ∃ j, i = j + 1 := ⟨i - 1, by omega⟩
          have hj0 : (0 : Int) ≤ (j : Int) := by omega
          have hj1 : (j : Int) < (l.length : Int) := by omega
          have hj2 : (j : Int) ≤ 50 := by have := Hl.out; omega
          clear hi0 hlt
          obtain ⟨ad, Aj, cj, e1, x0, x1, hcj, hCj⟩ := at_T66 CB.out (j : Int) hj0 hj1
          subst e1
          rw [Int.toNat_natCast] at x0 x1
          generalize rd_T66 l (j : Int) = O at *
          obtain ⟨ki, M⟩ := O
          simp only at x0 x1 hcj hCj
          have X0 := Aside0.mk (keepP HB.out x0)
          have X1 := Aside0.mk (keepP HB.out x1)
          have Hcj := Aside0.mk hcj
          have HCj := Aside0.mk hCj
          clear x0 x1 hcj hCj
          have x0 := X0.out
          have x1 := X1.out
          have Hi := Aside0.mk hi
          clear hi hlt'
          go_upto_region 14 with fail
          clear x0 x1
          refine code_abs (fun X => Below w.heap.size w X ∧ Blk X gx 30 (setArr s) ∧ RunsAt X w.heap.size gr (spansOf s) ∧ KeptAt X w.heap.size gB (fun k => X.heap.size ≤ k) [] LS [] ∧ Blk X wr.heap.size 66 #[.int .i64 ki, .slice Aj M.length cj]) ⟨below_step HB.out (by repeat (first | exact Below.refl _ _ | apply below_alloc | refine Below.setCell ?_ (Nat.le_refl _) _ | refine Below.setCell ?_ (by simp) _)), SX.out.keep (by repeat (first | exact Below.refl _ _ | apply below_alloc | refine Below.setCell ?_ (Nat.le_refl _) _ | refine Below.setCell ?_ (by simp) _)), R.out.keep (by repeat (first | exact Below.refl _ _ | apply below_alloc | refine Below.setCell ?_ (Nat.le_refl _) _ | refine Below.setCell ?_ (by simp) _)), (HK.out.keep (by repeat (first | exact Below.refl _ _ | apply below_alloc | refine Below.setCell ?_ (Nat.le_refl _) _ | refine Below.setCell ?_ (by simp) _))).top, Blk.new _ _ _⟩ ?_
          rintro w7 ⟨h_HB, h_SX, h_R, h_HK, h_OP⟩
          replace HB := Aside0.mk h_HB
          replace SX := Aside0.mk h_SX
          replace R := Aside0.mk h_R
          replace HK := Aside0.mk h_HK
          have OP := Aside0.mk h_OP
          clear h_HB h_SX h_R h_HK h_OP
          generalize wr.heap.size = go at *
          rcases Decidable.em (20 < (M.length : Int)) with hbig | hbig
          · skip
            have o0 := OP.out.cell (i := 0) (v := .int .i64 ki) rfl
            have o1 := OP.out.cell (i := 1) (v := .slice Aj M.length cj) rfl
            go_wp2_with fail
            go_ret
            exact ⟨rfl, HB.out⟩
          · have hm20 : (M.length : Int) ≤ 20 := by omega
            obtain ⟨n, hn⟩ : ∃ n, cntS s 64 = n := ⟨_, rfl⟩
            have hn64 : (n : Int) ≤ 64 := by have := cntS_le s 64; omega
            replace hn := Aside0.mk hn
            have o0 := OP.out.cell (i := 0) (v := .int .i64 ki) rfl
            have o1 := OP.out.cell (i := 1) (v := .slice Aj M.length cj) rfl
            go_wp2_with fail
            refine (lent_Spans Aj cj M (by omega) _ (Kd.C_below HCj.out HB.out)).mono ?_
            rintro e w8 ⟨A2, c2, rfl, hr, hB⟩
            have FR_N : Aside0 (∀ k, Value.ownBlock (.slice A2 (M.length + 1) c2) = some k → w7.heap.size ≤ k) := ⟨fun k hk => Kd.R_base hr k hk⟩
            have LTr : Aside0 (gr < w7.heap.size) := ⟨R.out.lt⟩
            have VN := Aside0.mk (Kd.R_lower hr HB.out.size)
            clear hr
            clear o0 o1
            replace HB := Aside0.mk (below_step HB.out hB)
            replace SX := Aside0.mk (SX.out.keep hB)
            replace R := Aside0.mk (R.out.keep hB)
            replace HK := Aside0.mk ((HK.out.keep hB).top)
            replace OP := Aside0.mk (OP.out.keep hB)
            clear hB
            have FR2 : Aside0 (∀ k, Value.ownBlock (.slice A2 M.length c2) = some k → gr < k) := ⟨fun k hk => Nat.lt_of_lt_of_le LTr.out (FR_N.out k (by cases A2 <;> exact hk))⟩
            clear FR_N LTr
            go_wp2_with (with_reducible refine wpList_load_row rfl 30 (.tmp 9) rfl gx rfl 30 _ (0, 0) _ SX.out.hd Try.underlying30 rfl (by rw [setArr_size, hsl.out] <;> exact info30) ?_)
            refine (set_cnt s n hsl.out hn.out _).mono ?_
            rintro e w9 ⟨rfl, hB⟩
            replace HB := Aside0.mk (below_step HB.out hB)
            replace SX := Aside0.mk (SX.out.keep hB)
            replace R := Aside0.mk (R.out.keep hB)
            replace HK := Aside0.mk ((HK.out.keep hB).top)
            replace OP := Aside0.mk (OP.out.keep hB)
            replace VN := Aside0.mk (Kd.R_below VN.out hB)
            clear hB
            rcases Decidable.em (ki = 1) with rfl | hk1
            · as_aux_lemma =>
              obtain ⟨sq, hs1⟩ : ∃ q, q = putS s M true := ⟨_, rfl⟩
              have hs1l : Aside0 (sq.length = 64) := ⟨by rw [hs1]; exact putS_len _ _ _ hsl.out⟩
              obtain ⟨n1, hn1⟩ : ∃ n, cntS sq 64 = n := ⟨_, rfl⟩
              have hn164 : (n1 : Int) ≤ 64 := by have := cntS_le sq 64; omega
              replace hn1 := Aside0.mk hn1
              replace hs1 := Aside0.mk hs1
              have GE_SX := GEX
              have o0 := OP.out.cell (i := 0) (v := .int .i64 1) rfl
              have o1 := OP.out.cell (i := 1) (v := .slice Aj M.length cj) rfl
              go_wp2_with (with_reducible refine wpList_load_row rfl 30 (.tmp 9) rfl gx rfl 30 _ (0, 0) _ SX.out.hd Try.underlying30 rfl (by rw [setArr_size, hsl.out] <;> exact info30) ?_)
              refine (emulsionref1_Set_Put.calls s hsl Aj cj M true _ (Kd.C_below HCj.out HB.out) Hcj.out).mono ?_
              rintro e w10 ⟨rfl, hB⟩
              rw [← hs1.out]
              clear o0 o1
              replace HB := Aside0.mk (below_step HB.out hB)
              replace SX := Aside0.mk (SX.out.keep hB)
              replace R := Aside0.mk (R.out.keep hB)
              replace HK := Aside0.mk ((HK.out.keep hB).top)
              replace OP := Aside0.mk (OP.out.keep hB)
              replace VN := Aside0.mk (Kd.R_below VN.out hB)
              clear hB
              go_upto_region 27 with (with_reducible refine wpList_store_row rfl 30 (.tmp 9) (.tmp 107) rfl gx (setArr sq) rfl rfl 30 (setArr s) SX.out.hd (by rw [setArr_size, hs1l.out] <;> exact info30) (by rw [setArr_size, setArr_size, hs1l.out, hsl.out]) (setArr_one _) ?_)
              have ho := only_row w10 gx (setArr sq)
              refine code_abs (fun X => Below w.heap.size w X ∧ RunsAt X w.heap.size gr (spansOf s) ∧ KeptAt X w.heap.size gB (fun k => X.heap.size ≤ k) [] LS [] ∧ Blk X go 66 #[.int .i64 1, .slice Aj M.length cj] ∧ Kd.R k24 24 X w.heap.size (fun _ => True) (.slice A2 (M.length + 1) c2) (M ++ [⟨-77, 0⟩]) ∧ Blk X gx 30 (setArr sq)) ⟨below_only HB.out ho GE_SX.out, R.out.onlyT ho SX.out (by decide) (by decide), (HK.out.only ho SX.out (by decide)).top, OP.out.onlyT ho SX.out (by decide), R_onlyT rfl VN.out ho SX.out (by decide), SX.out.row (setArr sq)⟩ ?_
              rintro w11 ⟨h_HB, h_R, h_HK, h_OP, h_VN, h_SX⟩
              clear ho
              replace HB := Aside0.mk h_HB
              replace R := Aside0.mk h_R
              replace HK := Aside0.mk h_HK
              replace OP := Aside0.mk h_OP
              replace VN := Aside0.mk h_VN
              replace SX := Aside0.mk h_SX
              clear h_HB h_R h_HK h_OP h_VN h_SX
              have RD := Aside0.mk (R.out.keep (below_drew1 (Below.refl _ _)))
              have GE_RD := GE_R
              have hwn : wrap64 ((n1 : Int) - (n : Int)) = (n1 : Int) - (n : Int) := w_id (by omega) (by omega)
              refine start_ (n := 8) (S := fun w' => Below w.heap.size w w' ∧ Blk w' gx 30 (setArr sq) ∧ Blk w' go 66 #[.int .i64 1, .slice Aj M.length cj] ∧ Kd.R k24 24 w' w.heap.size (fun _ => True) (.slice A2 (M.length + 1) c2) (M ++ [⟨-77, 0⟩]) ∧ KeptAt w' w.heap.size gB (fun k => w'.heap.size ≤ k) [] LS []) (ds := []) #[false, false, false, false, false, false, false, false] (by kernel_rfl) rfl rfl ⟨(below_drew1 HB.out), (SX.out.keep (below_drew1 (Below.refl _ _))), (OP.out.keep (below_drew1 (Below.refl _ _))), (Kd.R_below VN.out (below_drew1 (Below.refl _ _))), ((HK.out.keep (below_drew1 (Below.refl _ _))).top)⟩ (fun hHeld => ?_)
              refine pure_ (i := 0) (N := some 108) (v := ?_) (a' := ?_) #[true, false, false, false, false, false, false, false] rfl rfl (by kernel_rfl) (fun _ _ _ h => h) (Or.inl ⟨by rfl, ?_⟩) ?_ ?_
              rotate_left
              · intro w'
                go_simp
                with_reducible rfl
              rotate_left
              · simp only [Act.put, List.setIfInBounds_toArray, List.set_cons_zero, List.set_cons_succ, i64_w, i32_w]
                rfl
              refine pure_ (i := 1) (N := some 109) (v := ?_) (a' := ?_) #[true, true, false, false, false, false, false, false] rfl rfl (by kernel_rfl) (fun _ _ _ h => h) (Or.inl ⟨by rfl, ?_⟩) ?_ ?_
              rotate_left
              · intro w'
                go_simp
                with_reducible rfl
              rotate_left
              · simp only [Act.put, List.setIfInBounds_toArray, List.set_cons_zero, List.set_cons_succ, i64_w, i32_w]
                rfl
              refine pure_ (i := 5) (N := some 113) (v := ?_) (a' := ?_) #[true, true, false, false, false, true, false, false] rfl rfl (by kernel_rfl) (fun _ _ _ h => h) (Or.inl ⟨by rfl, ?_⟩) ?_ ?_
              rotate_left
              · intro w'
                go_simp
                with_reducible rfl
              rotate_left
              · simp only [Act.put, List.setIfInBounds_toArray, List.set_cons_zero, List.set_cons_succ, i64_w, i32_w]
                rfl
              refine take_ (i := 3) (N := some 111) (v := ?_) (a' := ?_) #[true, true, false, true, false, true, false, false] rfl rfl (by kernel_rfl) (fun _ _ _ h => h) (Or.inl ⟨by rfl, ?_⟩) hHeld ?_ ?_
              rotate_left
              · rintro w' ⟨s0, s1, s2, s3, s4⟩
                refine row_yields 30 (.tmp 9) ?_ gx ?_ 30 (setArr sq) (0, 0) _ s1.hd Try.underlying30 rfl (by rw [setArr_size, hs1l.out] <;> exact info30)
                · rfl
                · rfl
              rotate_left
              · simp only [Act.put, List.setIfInBounds_toArray, List.set_cons_zero, List.set_cons_succ, i64_w, i32_w]
                rfl
              refine one_ (i := 2) (N := some 110) #[true, true, true, true, false, true, false, false] rfl rfl (by kernel_rfl) (by decide) (fun K hK => ?_)
              refine goes_ Try.func35 (by kernel_rfl) rfl #[ptrR gr, .slice A2 M.length c2] (by rfl) rfl rfl (by simp only [List.map_toArray, List.map_cons, List.map_nil]; rfl) ?_
              with_reducible refine (runs_put_cnt w.heap.size gr s sq M A2 c2 n n1 _ hsl.out hs1.out hn.out hn1.out RD.out hHeld.1.size (lent_C hHeld.2.2.2.1) (off_fr FR2.out (Nat.lt_succ_self _))).mono ?_
              rintro e w50 ⟨rfl, hr, ho⟩
              refine ⟨_, rfl, ?_⟩
              refine hK.out _ _ ⟨(below_only hHeld.1 ho GE_RD.out), (hHeld.2.1.onlyR ho RD.out (by decide)), (hHeld.2.2.1.onlyR ho RD.out (by decide)), (R_onlyR rfl hHeld.2.2.2.1 ho RD.out (by decide)), ((hHeld.2.2.2.2.onlyR ho RD.out).top)⟩ (fun hHeld => ?_)
              clear hK K
              refine norm_ (a' := ?_) ?_ ?_
              rotate_left
              · show Act.put _ (some 110) _ = _
                simp only [Act.put, List.setIfInBounds_toArray, List.set_cons_zero, List.set_cons_succ, i64_w, i32_w]
                rfl
              refine one_ (i := 4) (N := some 112) #[true, true, true, true, true, true, false, false] rfl rfl (by kernel_rfl) (by decide) (fun K hK => ?_)
              refine goes_ Try.func25 (by kernel_rfl) rfl #[.agg (setArr sq)] (by rfl) rfl rfl (by simp only [List.map_toArray, List.map_cons, List.map_nil]; rfl) ?_
              with_reducible refine (set_cnt sq n1 hs1l.out hn1.out _).mono ?_
              rintro e w51 ⟨rfl, hb⟩
              refine ⟨_, rfl, ?_⟩
              replace hr := hr.keep hb
              refine hK.out _ _ ⟨(below_step hHeld.1 hb), (hHeld.2.1.keep hb), (hHeld.2.2.1.keep hb), (Kd.R_below hHeld.2.2.2.1 hb), ((hHeld.2.2.2.2.keep hb).top)⟩ (fun hHeld => ?_)
              clear hK K
              refine norm_ (a' := ?_) ?_ ?_
              rotate_left
              · show Act.put _ (some 112) _ = _
                simp only [Act.put, List.setIfInBounds_toArray, List.set_cons_zero, List.set_cons_succ, i64_w, i32_w]
                rfl
              refine pure_ (i := 6) (N := some 114) (v := ?_) (a' := ?_) #[true, true, true, true, true, true, true, false] rfl rfl (by kernel_rfl) (fun _ _ _ h => h) (Or.inl ⟨by rfl, ?_⟩) ?_ ?_
              rotate_left
              · intro w'
                go_simp
                with_reducible rfl
              rotate_left
              · simp only [Act.put, List.setIfInBounds_toArray, List.set_cons_zero, List.set_cons_succ, i64_w, i32_w]
                rfl
              refine pure_ (i := 7) (N := some 115) (v := ?_) (a' := ?_) #[true, true, true, true, true, true, true, true] rfl rfl (by kernel_rfl) (fun _ _ _ h => h) (Or.inl ⟨by rfl, ?_⟩) ?_ ?_
              rotate_left
              · intro w'
                go_simp
                with_reducible rfl
              rotate_left
              · simp only [Act.put, List.setIfInBounds_toArray, List.set_cons_zero, List.set_cons_succ, i64_w, i32_w]
                rfl
              refine done_ (by kernel_rfl) ?_
              replace HB := Aside0.mk hHeld.1
              replace SX := Aside0.mk hHeld.2.1
              replace OP := Aside0.mk hHeld.2.2.1
              replace VN := Aside0.mk hHeld.2.2.2.1
              replace HK := Aside0.mk hHeld.2.2.2.2
              clear hHeld
              replace R := Aside0.mk hr
              clear hr RD GE_RD hwn
              have o0 := OP.out.cell (i := 0) (v := .int .i64 1) rfl
              have o1 := OP.out.cell (i := 1) (v := .slice Aj M.length cj) rfl
              go_wp2_with fail
              refine (stays_Spans A2 c2 Aj cj M (by omega) _ VN.out Hcj.out (Kd.C_below HCj.out HB.out)).mono ?_
              rintro e w12 ⟨rfl, hB⟩
              replace HB := Aside0.mk (below_step HB.out hB)
              replace SX := Aside0.mk (SX.out.keep hB)
              replace HK := Aside0.mk ((HK.out.keep hB).top)
              replace OP := Aside0.mk (OP.out.keep hB)
              replace VN := Aside0.mk (Kd.R_below VN.out hB)
              replace R := Aside0.mk (R.out.keep hB)
              clear hB
              clear o0 o1
              go_wp2_with fail
              go_meet
              case rel => exact ⟨gr, sq, rfl, GE_R, hs1l, HB, SX, R, HK⟩
            · have hk1b : (ki == 1) = false := by simpa using hk1
              rcases Decidable.em (ki = 2) with rfl | hk2
              · as_aux_lemma =>
                obtain ⟨sq, hs1⟩ : ∃ q, q = putS s M false := ⟨_, rfl⟩
                have hs1l : Aside0 (sq.length = 64) := ⟨by rw [hs1]; exact putS_len _ _ _ hsl.out⟩
                obtain ⟨n1, hn1⟩ : ∃ n, cntS sq 64 = n := ⟨_, rfl⟩
                have hn164 : (n1 : Int) ≤ 64 := by have := cntS_le sq 64; omega
                replace hn1 := Aside0.mk hn1
                replace hs1 := Aside0.mk hs1
                have GE_SX := GEX
                have o0 := OP.out.cell (i := 0) (v := .int .i64 2) rfl
                have o1 := OP.out.cell (i := 1) (v := .slice Aj M.length cj) rfl
                go_wp2_with (with_reducible refine wpList_load_row rfl 30 (.tmp 9) rfl gx rfl 30 _ (0, 0) _ SX.out.hd Try.underlying30 rfl (by rw [setArr_size, hsl.out] <;> exact info30) ?_)
                refine (emulsionref1_Set_Put.calls s hsl Aj cj M false _ (Kd.C_below HCj.out HB.out) Hcj.out).mono ?_
                rintro e w13 ⟨rfl, hB⟩
                rw [← hs1.out]
                clear o0 o1
                replace HB := Aside0.mk (below_step HB.out hB)
                replace SX := Aside0.mk (SX.out.keep hB)
                replace R := Aside0.mk (R.out.keep hB)
                replace HK := Aside0.mk ((HK.out.keep hB).top)
                replace OP := Aside0.mk (OP.out.keep hB)
                replace VN := Aside0.mk (Kd.R_below VN.out hB)
                clear hB
                go_upto_region 31 with (with_reducible refine wpList_store_row rfl 30 (.tmp 9) (.tmp 121) rfl gx (setArr sq) rfl rfl 30 (setArr s) SX.out.hd (by rw [setArr_size, hs1l.out] <;> exact info30) (by rw [setArr_size, setArr_size, hs1l.out, hsl.out]) (setArr_one _) ?_)
                have ho := only_row w13 gx (setArr sq)
                refine code_abs (fun X => Below w.heap.size w X ∧ RunsAt X w.heap.size gr (spansOf s) ∧ KeptAt X w.heap.size gB (fun k => X.heap.size ≤ k) [] LS [] ∧ Blk X go 66 #[.int .i64 2, .slice Aj M.length cj] ∧ Kd.R k24 24 X w.heap.size (fun _ => True) (.slice A2 (M.length + 1) c2) (M ++ [⟨-77, 0⟩]) ∧ Blk X gx 30 (setArr sq)) ⟨below_only HB.out ho GE_SX.out, R.out.onlyT ho SX.out (by decide) (by decide), (HK.out.only ho SX.out (by decide)).top, OP.out.onlyT ho SX.out (by decide), R_onlyT rfl VN.out ho SX.out (by decide), SX.out.row (setArr sq)⟩ ?_
                rintro w14 ⟨h_HB, h_R, h_HK, h_OP, h_VN, h_SX⟩
                clear ho
                replace HB := Aside0.mk h_HB
                replace R := Aside0.mk h_R
                replace HK := Aside0.mk h_HK
                replace OP := Aside0.mk h_OP
                replace VN := Aside0.mk h_VN
                replace SX := Aside0.mk h_SX
                clear h_HB h_R h_HK h_OP h_VN h_SX
                have RD := Aside0.mk (R.out.keep (below_drew1 (Below.refl _ _)))
                have GE_RD := GE_R
                have hwn : wrap64 ((n : Int) - (n1 : Int)) = (n : Int) - (n1 : Int) := w_id (by omega) (by omega)
                refine start_ (n := 8) (S := fun w' => Below w.heap.size w w' ∧ Blk w' gx 30 (setArr sq) ∧ Blk w' go 66 #[.int .i64 2, .slice Aj M.length cj] ∧ Kd.R k24 24 w' w.heap.size (fun _ => True) (.slice A2 (M.length + 1) c2) (M ++ [⟨-77, 0⟩]) ∧ KeptAt w' w.heap.size gB (fun k => w'.heap.size ≤ k) [] LS []) (ds := []) #[false, false, false, false, false, false, false, false] (by kernel_rfl) rfl rfl ⟨(below_drew1 HB.out), (SX.out.keep (below_drew1 (Below.refl _ _))), (OP.out.keep (below_drew1 (Below.refl _ _))), (Kd.R_below VN.out (below_drew1 (Below.refl _ _))), ((HK.out.keep (below_drew1 (Below.refl _ _))).top)⟩ (fun hHeld => ?_)
                refine pure_ (i := 0) (N := some 122) (v := ?_) (a' := ?_) #[true, false, false, false, false, false, false, false] rfl rfl (by kernel_rfl) (fun _ _ _ h => h) (Or.inl ⟨by rfl, ?_⟩) ?_ ?_
                rotate_left
                · intro w'
                  go_simp
                  with_reducible rfl
                rotate_left
                · simp only [Act.put, List.setIfInBounds_toArray, List.set_cons_zero, List.set_cons_succ, i64_w, i32_w]
                  rfl
                refine pure_ (i := 1) (N := some 123) (v := ?_) (a' := ?_) #[true, true, false, false, false, false, false, false] rfl rfl (by kernel_rfl) (fun _ _ _ h => h) (Or.inl ⟨by rfl, ?_⟩) ?_ ?_
                rotate_left
                · intro w'
                  go_simp
                  with_reducible rfl
                rotate_left
                · simp only [Act.put, List.setIfInBounds_toArray, List.set_cons_zero, List.set_cons_succ, i64_w, i32_w]
                  rfl
                refine pure_ (i := 3) (N := some 125) (v := ?_) (a' := ?_) #[true, true, false, true, false, false, false, false] rfl rfl (by kernel_rfl) (fun _ _ _ h => h) (Or.inl ⟨by rfl, ?_⟩) ?_ ?_
                rotate_left
                · intro w'
                  go_simp
                  with_reducible rfl
                rotate_left
                · simp only [Act.put, List.setIfInBounds_toArray, List.set_cons_zero, List.set_cons_succ, i64_w, i32_w]
                  rfl
                refine take_ (i := 4) (N := some 126) (v := ?_) (a' := ?_) #[true, true, false, true, true, false, false, false] rfl rfl (by kernel_rfl) (fun _ _ _ h => h) (Or.inl ⟨by rfl, ?_⟩) hHeld ?_ ?_
                rotate_left
                · rintro w' ⟨s0, s1, s2, s3, s4⟩
                  refine row_yields 30 (.tmp 9) ?_ gx ?_ 30 (setArr sq) (0, 0) _ s1.hd Try.underlying30 rfl (by rw [setArr_size, hs1l.out] <;> exact info30)
                  · rfl
                  · rfl
                rotate_left
                · simp only [Act.put, List.setIfInBounds_toArray, List.set_cons_zero, List.set_cons_succ, i64_w, i32_w]
                  rfl
                refine one_ (i := 2) (N := some 124) #[true, true, true, true, true, false, false, false] rfl rfl (by kernel_rfl) (by decide) (fun K hK => ?_)
                refine goes_ Try.func36 (by kernel_rfl) rfl #[ptrR gr, .slice A2 M.length c2] (by rfl) rfl rfl (by simp only [List.map_toArray, List.map_cons, List.map_nil]; rfl) ?_
                with_reducible refine (runs_cut_cnt w.heap.size gr s sq M A2 c2 n n1 _ hsl.out hs1.out hn.out hn1.out RD.out hHeld.1.size (lent_C hHeld.2.2.2.1) (off_fr FR2.out (Nat.lt_succ_self _))).mono ?_
                rintro e w50 ⟨rfl, hr, ho⟩
                refine ⟨_, rfl, ?_⟩
                refine hK.out _ _ ⟨(below_only hHeld.1 ho GE_RD.out), (hHeld.2.1.onlyR ho RD.out (by decide)), (hHeld.2.2.1.onlyR ho RD.out (by decide)), (R_onlyR rfl hHeld.2.2.2.1 ho RD.out (by decide)), ((hHeld.2.2.2.2.onlyR ho RD.out).top)⟩ (fun hHeld => ?_)
                clear hK K
                refine norm_ (a' := ?_) ?_ ?_
                rotate_left
                · show Act.put _ (some 124) _ = _
                  simp only [Act.put, List.setIfInBounds_toArray, List.set_cons_zero, List.set_cons_succ, i64_w, i32_w]
                  rfl
                refine one_ (i := 5) (N := some 127) #[true, true, true, true, true, true, false, false] rfl rfl (by kernel_rfl) (by decide) (fun K hK => ?_)
                refine goes_ Try.func25 (by kernel_rfl) rfl #[.agg (setArr sq)] (by rfl) rfl rfl (by simp only [List.map_toArray, List.map_cons, List.map_nil]; rfl) ?_
                with_reducible refine (set_cnt sq n1 hs1l.out hn1.out _).mono ?_
                rintro e w51 ⟨rfl, hb⟩
                refine ⟨_, rfl, ?_⟩
                replace hr := hr.keep hb
                refine hK.out _ _ ⟨(below_step hHeld.1 hb), (hHeld.2.1.keep hb), (hHeld.2.2.1.keep hb), (Kd.R_below hHeld.2.2.2.1 hb), ((hHeld.2.2.2.2.keep hb).top)⟩ (fun hHeld => ?_)
                clear hK K
                refine norm_ (a' := ?_) ?_ ?_
                rotate_left
                · show Act.put _ (some 127) _ = _
                  simp only [Act.put, List.setIfInBounds_toArray, List.set_cons_zero, List.set_cons_succ, i64_w, i32_w]
                  rfl
                refine pure_ (i := 6) (N := some 128) (v := ?_) (a' := ?_) #[true, true, true, true, true, true, true, false] rfl rfl (by kernel_rfl) (fun _ _ _ h => h) (Or.inl ⟨by rfl, ?_⟩) ?_ ?_
                rotate_left
                · intro w'
                  go_simp
                  with_reducible rfl
                rotate_left
                · simp only [Act.put, List.setIfInBounds_toArray, List.set_cons_zero, List.set_cons_succ, i64_w, i32_w]
                  rfl
                refine pure_ (i := 7) (N := some 129) (v := ?_) (a' := ?_) #[true, true, true, true, true, true, true, true] rfl rfl (by kernel_rfl) (fun _ _ _ h => h) (Or.inl ⟨by rfl, ?_⟩) ?_ ?_
                rotate_left
                · intro w'
                  go_simp
                  with_reducible rfl
                rotate_left
                · simp only [Act.put, List.setIfInBounds_toArray, List.set_cons_zero, List.set_cons_succ, i64_w, i32_w]
                  rfl
                refine done_ (by kernel_rfl) ?_
                replace HB := Aside0.mk hHeld.1
                replace SX := Aside0.mk hHeld.2.1
                replace OP := Aside0.mk hHeld.2.2.1
                replace VN := Aside0.mk hHeld.2.2.2.1
                replace HK := Aside0.mk hHeld.2.2.2.2
                clear hHeld
                replace R := Aside0.mk hr
                clear hr RD GE_RD hwn
                have o0 := OP.out.cell (i := 0) (v := .int .i64 2) rfl
                have o1 := OP.out.cell (i := 1) (v := .slice Aj M.length cj) rfl
                go_wp2_with fail
                refine (stays_Spans A2 c2 Aj cj M (by omega) _ VN.out Hcj.out (Kd.C_below HCj.out HB.out)).mono ?_
                rintro e w15 ⟨rfl, hB⟩
                replace HB := Aside0.mk (below_step HB.out hB)
                replace SX := Aside0.mk (SX.out.keep hB)
                replace HK := Aside0.mk ((HK.out.keep hB).top)
                replace OP := Aside0.mk (OP.out.keep hB)
                replace VN := Aside0.mk (Kd.R_below VN.out hB)
                replace R := Aside0.mk (R.out.keep hB)
                clear hB
                clear o0 o1
                go_wp2_with fail
                go_meet
                case rel => exact ⟨gr, sq, rfl, GE_R, hs1l, HB, SX, R, HK⟩
              · have hk2b : (ki == 2) = false := by simpa using hk2
                as_aux_lemma =>
                have o0 := OP.out.cell (i := 0) (v := .int .i64 ki) rfl
                have o1 := OP.out.cell (i := 1) (v := .slice Aj M.length cj) rfl
                go_wp2_with fail
                refine (runs_copyE w.heap.size gr (spansOf s) (by have := spans_len s; omega) _ R.out).mono ?_
                rintro e w16 ⟨g2, rfl, hg2, hr, hB⟩
                replace hr := hr.lower HB.out.size
                clear o0 o1
                have NE_R_R2 : Aside0 (gr ≠ g2) := ⟨by have := R.out.lt; omega⟩
                have GE_R2 : Aside0 (w.heap.size ≤ g2) := ⟨by have := HB.out.size; omega⟩
                replace HB := Aside0.mk (below_step HB.out hB)
                replace SX := Aside0.mk (SX.out.keep hB)
                replace R := Aside0.mk (R.out.keep hB)
                replace HK := Aside0.mk ((HK.out.keep hB).top)
                replace OP := Aside0.mk (OP.out.keep hB)
                replace VN := Aside0.mk (Kd.R_below VN.out hB)
                clear hB
                have R2 := Aside0.mk hr
                clear hr
                clear hg2
                go_wp2_with fail
                refine (runs_same_yes w.heap.size g2 w.heap.size gr s _ R2.out R.out).mono ?_
                rintro e w17 ⟨rfl, hB⟩
                replace HB := Aside0.mk (below_step HB.out hB)
                replace SX := Aside0.mk (SX.out.keep hB)
                replace R := Aside0.mk (R.out.keep hB)
                replace HK := Aside0.mk ((HK.out.keep hB).top)
                replace OP := Aside0.mk (OP.out.keep hB)
                replace VN := Aside0.mk (Kd.R_below VN.out hB)
                replace R2 := Aside0.mk (R2.out.keep hB)
                clear hB
                go_wp2_with fail
                have LT2 : Aside0 (gr < w17.heap.size) := ⟨R.out.lt⟩
                refine calls_abs (fun X => Below w.heap.size w X ∧ Blk X gx 30 (setArr s) ∧ RunsAt X w.heap.size gr (spansOf s) ∧ KeptAt X w.heap.size gB (fun k => X.heap.size ≤ k) [] LS [] ∧ Blk X go 66 #[.int .i64 ki, .slice Aj M.length cj] ∧ Kd.R k24 24 X w.heap.size (fun _ => True) (.slice A2 (M.length + 1) c2) (M ++ [⟨-77, 0⟩]) ∧ RunsAt X w.heap.size g2 (spansOf s) ∧ Kd.C k24 X (some ⟨w17.heap.size, 0, none⟩) 1 [⟨0, 3⟩]) ⟨below_step HB.out (by repeat (first | exact Below.refl _ _ | apply below_alloc | refine Below.setCell ?_ (Nat.le_refl _) _ | refine Below.setCell ?_ (by simp) _)), SX.out.keep (by repeat (first | exact Below.refl _ _ | apply below_alloc | refine Below.setCell ?_ (Nat.le_refl _) _ | refine Below.setCell ?_ (by simp) _)), R.out.keep (by repeat (first | exact Below.refl _ _ | apply below_alloc | refine Below.setCell ?_ (Nat.le_refl _) _ | refine Below.setCell ?_ (by simp) _)), (HK.out.keep (by repeat (first | exact Below.refl _ _ | apply below_alloc | refine Below.setCell ?_ (Nat.le_refl _) _ | refine Below.setCell ?_ (by simp) _))).top, OP.out.keep (by repeat (first | exact Below.refl _ _ | apply below_alloc | refine Below.setCell ?_ (Nat.le_refl _) _ | refine Below.setCell ?_ (by simp) _)), Kd.R_below VN.out (by repeat (first | exact Below.refl _ _ | apply below_alloc | refine Below.setCell ?_ (Nat.le_refl _) _ | refine Below.setCell ?_ (by simp) _)), R2.out.keep (by repeat (first | exact Below.refl _ _ | apply below_alloc | refine Below.setCell ?_ (Nat.le_refl _) _ | refine Below.setCell ?_ (by simp) _)), C_lit w17 [⟨0, 3⟩] (by decide) _ rfl⟩ ?_
                rintro w18 ⟨h_HB, h_SX, h_R, h_HK, h_OP, h_VN, h_R2, h_C1⟩
                replace HB := Aside0.mk h_HB
                replace SX := Aside0.mk h_SX
                replace R := Aside0.mk h_R
                replace HK := Aside0.mk h_HK
                replace OP := Aside0.mk h_OP
                replace VN := Aside0.mk h_VN
                replace R2 := Aside0.mk h_R2
                have C1 := Aside0.mk h_C1
                clear h_HB h_SX h_R h_HK h_OP h_VN h_R2 h_C1
                refine (runs_put_one w.heap.size gr s ⟨w17.heap.size, 0, none⟩ 1 0 3 _ hsl.out R.out HB.out.size C1.out (by have := LT2.out; show w17.heap.size ≠ gr; omega)).mono ?_
                rintro e w19 ⟨z1, rfl, hr, ho⟩
                replace HB := Aside0.mk (below_only HB.out ho GE_R.out)
                replace SX := Aside0.mk (SX.out.onlyR ho R.out (by decide))
                replace HK := Aside0.mk ((HK.out.onlyR ho R.out).top)
                replace OP := Aside0.mk (OP.out.onlyR ho R.out (by decide))
                replace VN := Aside0.mk (R_onlyR rfl VN.out ho R.out (by decide))
                replace R2 := Aside0.mk (R2.out.onlyR ho NE_R_R2.out.symm R.out)
                clear ho
                replace R := Aside0.mk hr
                clear hr
                clear C1 LT2
                have o0 := OP.out.cell (i := 0) (v := .int .i64 ki) rfl
                have o1 := OP.out.cell (i := 1) (v := .slice Aj M.length cj) rfl
                go_wp2_with fail
                refine (runs_cut_any w.heap.size gr (putS s [⟨0, 3⟩] true) M Aj cj _ (putS_len _ _ _ hsl.out) R.out HB.out.size (Kd.C_below HCj.out HB.out) (off_lt HCj.out GE_R.out)).mono ?_
                rintro e w20 ⟨z2, rfl, hr, ho⟩
                replace HB := Aside0.mk (below_only HB.out ho GE_R.out)
                replace SX := Aside0.mk (SX.out.onlyR ho R.out (by decide))
                replace HK := Aside0.mk ((HK.out.onlyR ho R.out).top)
                replace OP := Aside0.mk (OP.out.onlyR ho R.out (by decide))
                replace VN := Aside0.mk (R_onlyR rfl VN.out ho R.out (by decide))
                replace R2 := Aside0.mk (R2.out.onlyR ho NE_R_R2.out.symm R.out)
                clear ho
                replace R := Aside0.mk hr
                clear hr
                clear o0 o1
                clear R
                have o0 := OP.out.cell (i := 0) (v := .int .i64 ki) rfl
                have o1 := OP.out.cell (i := 1) (v := .slice Aj M.length cj) rfl
                go_wp2_with fail
                refine (stays_Spans A2 c2 Aj cj M (by omega) _ VN.out Hcj.out (Kd.C_below HCj.out HB.out)).mono ?_
                rintro e w21 ⟨rfl, hB⟩
                replace HB := Aside0.mk (below_step HB.out hB)
                replace SX := Aside0.mk (SX.out.keep hB)
                replace HK := Aside0.mk ((HK.out.keep hB).top)
                replace OP := Aside0.mk (OP.out.keep hB)
                replace VN := Aside0.mk (Kd.R_below VN.out hB)
                replace R2 := Aside0.mk (R2.out.keep hB)
                clear hB
                clear o0 o1
                go_wp2_with fail
                go_meet
                case rel => exact ⟨g2, s, rfl, GE_R2, hsl, HB, SX, R2, HK⟩
      case rest =>
        clear HB SX R HK GE_R hsl
        obtain ⟨gr, s, rfl, GE_R, hsl, HB, SX, R, HK⟩ := hcut
        obtain ⟨n, hn⟩ : ∃ n, cntS s 64 = n := ⟨_, rfl⟩
        have hn64 : (n : Int) ≤ 64 := by have := cntS_le s 64; omega
        replace hn := Aside0.mk hn
        obtain ⟨n1, n2, n3, hnv⟩ : ∃ a b c, nextV (spansOf s) fr = (a, b, c) := ⟨_, _, _, rfl⟩
        have Hnv := Aside0.mk hnv
        clear hnv
        have HT := Aside0.mk (spansOf_tidy s)
        have hlen := Aside0.mk (spans_len s)
        have HLt : Aside0 (LS.length < 250) := ⟨by have h1 := HLS.out.1; have h2 := Hl.out; omega⟩
        go_wp2_with fail
        refine (runs_all w.heap.size gr _ (by have := hlen.out; omega) _ R.out).mono ?_
        rintro e w22 ⟨v, rfl, ho, hB⟩
        have FR_VA : Aside0 (∀ k, Value.ownBlock v = some k → wc.heap.size ≤ k) := ⟨fun k hk => Kd.R_base (ho.to_R) k hk⟩
        have VA := Aside0.mk (Kd.R_lower (ho.to_R) HB.out.size)
        clear ho
        replace HB := Aside0.mk (below_step HB.out hB)
        replace SX := Aside0.mk (SX.out.keep hB)
        replace R := Aside0.mk (R.out.keep hB)
        replace HK := Aside0.mk (HK.out.keep hB)
        clear hB
        obtain ⟨A2, c2, hve, hc0, hc1⟩ := Kd.R_reads VA.out
        subst hve
        have HC_VA := Aside0.mk hc0
        clear hc0 hc1
        obtain ⟨cs0, hkb0⟩ := HK.out.book
        have hkb := Aside0.mk hkb0
        clear hkb0
        go_wp2_with fail
        refine (kept_S gB w.heap.size _ _ _ _ _ _ _ HK.out VA.out (by have := hlen.out; omega) (HLt.out) FR_VA.out HB.out.size).mono ?_
        rintro e w23 ⟨rfl, hk, hfx⟩
        replace HB := Aside0.mk (HB.out.trans hfx.1)
        replace SX := Aside0.mk (hfx.blkT hkb.out SX.out (by decide) (by decide))
        replace R := Aside0.mk (hfx.runs hkb.out R.out (by decide) (by decide) (by decide) (by decide))
        replace VA := Aside0.mk (hfx.Rr rfl hkb.out VA.out (by decide) (by decide))
        clear hfx
        replace HK := Aside0.mk hk.top
        clear hk hkb cs0
        go_wp2_with (with_reducible refine wpList_load_row rfl 30 (.tmp 9) rfl gx rfl 30 _ (0, 0) _ SX.out.hd Try.underlying30 rfl (by rw [setArr_size, hsl.out] <;> exact info30) ?_)
        refine (set_spans s hsl.out _).mono ?_
        rintro e w24 ⟨v, rfl, ho, hB⟩
        have FR_VW : Aside0 (∀ k, Value.ownBlock v = some k → w23.heap.size ≤ k) := ⟨fun k hk => Kd.R_base (ho.to_R) k hk⟩
        have VW := Aside0.mk (Kd.R_lower (ho.to_R) HB.out.size)
        clear ho
        replace HB := Aside0.mk (below_step HB.out hB)
        replace SX := Aside0.mk (SX.out.keep hB)
        replace R := Aside0.mk (R.out.keep hB)
        replace HK := Aside0.mk ((HK.out.keep hB).top)
        replace VA := Aside0.mk (Kd.R_below VA.out hB)
        clear hB
        obtain ⟨A3, c3, hve, hc0, hc1⟩ := Kd.R_reads VW.out
        subst hve
        have HC_VW := Aside0.mk hc0
        clear hc0 hc1
        obtain ⟨T, hT⟩ : ∃ T, T = spansOf s := ⟨_, rfl⟩
        rw [← hT] at VA VW HT hlen HK Hnv ⊢
        have HTs := Aside0.mk hT
        clear hT
        go_wp2_with fail
        refine (runs_nextE w.heap.size gr s fr n1 n2 n3 K0.out K1.out (by rw [← HTs.out]; exact Hnv.out) _ R.out).mono ?_
        rintro e w25 ⟨rfl, hB⟩
        replace HB := Aside0.mk (below_step HB.out hB)
        replace SX := Aside0.mk (SX.out.keep hB)
        replace R := Aside0.mk (R.out.keep hB)
        replace HK := Aside0.mk ((HK.out.keep hB).top)
        replace VA := Aside0.mk (Kd.R_below VA.out hB)
        replace VW := Aside0.mk (Kd.R_below VW.out hB)
        clear hB
        go_upto_block 3 with fail
        refine code_abs (fun X => Below w25.heap.size w25 X ∧ Blk X w25.heap.size 24 #[.int .i64 n1, .int .i64 n2] ∧ Blk X (w25.heap.size + 1) 24 #[.int .i64 0, .int .i64 0]) ⟨below_alloc (below_alloc (Below.refl _ _) _) _, (Blk.new _ _ _).alloc _, Blk.new2 _ _ _ _⟩ ?_
        rintro wz0 ⟨h1, h2, h3⟩
        have HW := Aside0.mk h1
        have N18 := Aside0.mk h2
        have N20 := Aside0.mk h3
        clear h1 h2 h3
        go_cut [21] (fun v21 wc => v21 = .bool n3 ∧ Aside0 (Below w25.heap.size w25 wc) ∧ Aside0 (Blk wc w25.heap.size 24 #[.int .i64 n1, .int .i64 n2]) ∧ Aside0 (Blk wc (w25.heap.size + 1) 24 #[.int .i64 n1, .int .i64 n2]))
        case first =>
          as_aux_lemma =>
          go_wp2_with fail
          go_loopg [21, 22] T.length (fun kq v21 v22 wz => ∃ (k : Nat) (b : Bool) (p q : Int), k + kq = T.length ∧ v21 = .bool b ∧ v22 = .int .i64 (k : Int) ∧ Aside0 (Srch T fr k b p q) ∧ Aside0 (Below w25.heap.size w25 wz) ∧ Aside0 (Blk wz w25.heap.size 24 #[.int .i64 n1, .int .i64 n2]) ∧ Aside0 (Blk wz (w25.heap.size + 1) 24 #[.int .i64 p, .int .i64 q]))
          case atStart => exact ⟨0, false, 0, 0, by omega, rfl, rfl, ⟨Srch.zero T fr⟩, HW, N18, N20⟩
          case round =>
            clear HW N18 N20
            obtain ⟨k, b, p, q, hk, rfl, rfl, hS, HW, N18, N20⟩ := hrel
            have Hk := Aside0.mk hk
            clear hk
            cases b with
            | true =>
              have hd := hS.out.done (.inl rfl)
              rw [Hnv.out] at hd
              injection hd with e1 e2
              injection e2 with e2 e3
              subst e1 e2 e3
              rcases Nat.lt_or_ge k T.length with hlt2 | hge2
              · have hlt3 : (k : Int) < (T.length : Int) := by omega
                go_wp2_with fail
                go_meet
                case rel => exact ⟨rfl, HW, N18, N20⟩
              · have hlt3 : ¬ (k : Int) < (T.length : Int) := by omega
                go_wp2_with fail
                go_meet
                case rel => exact ⟨rfl, HW, N18, N20⟩
            | false =>
              rcases Nat.lt_or_ge k T.length with hlt2 | hge2
              · have hlt3 : (k : Int) < (T.length : Int) := by omega
                have hk65 : (k : Int) ≤ 65 := by have := hlen.out; omega
                obtain ⟨kz, rfl⟩ : ∃ z, gk = z + 1 := ⟨gk - 1, by have := Hk.out; omega⟩
                obtain ⟨ad, e1, x0, x1⟩ := at_T24 (Kd.C_below (C_of_R VW.out).1 HW.out) (k : Int) (by omega) hlt3
                subst e1
                rw [Int.toNat_natCast] at x0 x1
                have hwx := HT.out.whole (by decide) T[k] (List.getElem_mem hlt2)
                have hNo := Aside0.mk (fun h => hS.out.no hlt2 h)
                have hYes := Aside0.mk (fun h => hS.out.yes hlt2 h)
                rw [rd_get T k hlt2] at x0 x1
                generalize T[k] = X at *
                obtain ⟨F, N⟩ := X
                simp only at x0 x1 hwx hYes
                have b0 : 0 ≤ F ∧ F ≤ 64 ∧ 1 ≤ N ∧ N ≤ 64 := by unfold wh at hwx; omega
                have b1 : 0 ≤ F := b0.1
                have b2 : F ≤ 64 := b0.2.1
                have b3 : 1 ≤ N := b0.2.2.1
                have b4 : N ≤ 64 := b0.2.2.2
                clear b0 hwx
                have X0 := Aside0.mk x0
                have X1 := Aside0.mk x1
                clear x0 x1
                go_wp2_with fail
                have hw43 : wrap64 (F + N) = F + N := w_id (by omega) (by omega)
                refine start_ (n := 12) (S := fun w' => Below w25.heap.size w25 w' ∧ Blk w' w25.heap.size 24 #[.int .i64 n1, .int .i64 n2] ∧ Blk w' (w25.heap.size + 1) 24 #[.int .i64 p, .int .i64 q] ∧ w'.cell? (ad.add (k * 2)) = some (.int .i64 F) ∧ w'.cell? ⟨(ad.add (k * 2)).block, (ad.add (k * 2)).off + 1, none⟩ = some (.int .i64 N)) (ds := []) #[false, false, false, false, false, false, false, false, false, false, false, false] (by kernel_rfl) rfl rfl ⟨(below_drew1 HW.out), (N18.out.keep (below_drew1 (Below.refl _ _))), (N20.out.keep (below_drew1 (Below.refl _ _))), (keepP (below_drew1 (Below.refl _ _)) X0.out), (keepP (below_drew1 (Below.refl _ _)) X1.out)⟩ (fun hHeld => ?_)
                refine pure_ (i := 0) (N := some 159) (v := ?_) (a' := ?_) #[true, false, false, false, false, false, false, false, false, false, false, false] rfl rfl (by kernel_rfl) (fun _ _ _ h => h) (Or.inl ⟨by rfl, ?_⟩) ?_ ?_
                rotate_left
                · intro w'
                  go_simp
                  with_reducible rfl
                rotate_left
                · simp only [Act.put, List.setIfInBounds_toArray, List.set_cons_zero, List.set_cons_succ, i64_w, i32_w]
                  rfl
                refine pure_ (i := 1) (N := some 160) (v := ?_) (a' := ?_) #[true, true, false, false, false, false, false, false, false, false, false, false] rfl rfl (by kernel_rfl) (fun _ _ _ h => h) (Or.inl ⟨by rfl, ?_⟩) ?_ ?_
                rotate_left
                · intro w'
                  go_simp
                  with_reducible rfl
                rotate_left
                · simp only [Act.put, List.setIfInBounds_toArray, List.set_cons_zero, List.set_cons_succ, i64_w, i32_w]
                  rfl
                refine pure_ (i := 2) (N := some 161) (v := ?_) (a' := ?_) #[true, true, true, false, false, false, false, false, false, false, false, false] rfl rfl (by kernel_rfl) (fun _ _ _ h => h) (Or.inl ⟨by rfl, ?_⟩) ?_ ?_
                rotate_left
                · intro w'
                  go_simp
                  with_reducible rfl
                rotate_left
                · simp only [Act.put, List.setIfInBounds_toArray, List.set_cons_zero, List.set_cons_succ, i64_w, i32_w]
                  rfl
                refine pure_ (i := 3) (N := some 162) (v := ?_) (a' := ?_) #[true, true, true, true, false, false, false, false, false, false, false, false] rfl rfl (by kernel_rfl) (fun _ _ _ h => h) (Or.inl ⟨by rfl, ?_⟩) ?_ ?_
                rotate_left
                · intro w'
                  go_simp
                  with_reducible rfl
                rotate_left
                · simp only [Act.put, List.setIfInBounds_toArray, List.set_cons_zero, List.set_cons_succ, i64_w, i32_w]
                  rfl
                refine pure_ (i := 5) (N := some 164) (v := ?_) (a' := ?_) #[true, true, true, true, false, true, false, false, false, false, false, false] rfl rfl (by kernel_rfl) (fun _ _ _ h => h) (Or.inl ⟨by rfl, ?_⟩) ?_ ?_
                rotate_left
                · intro w'
                  go_simp
                  with_reducible rfl
                rotate_left
                · simp only [Act.put, List.setIfInBounds_toArray, List.set_cons_zero, List.set_cons_succ, i64_w, i32_w]
                  rfl
                refine pure_ (i := 6) (N := some 165) (v := ?_) (a' := ?_) #[true, true, true, true, false, true, true, false, false, false, false, false] rfl rfl (by kernel_rfl) (fun _ _ _ h => h) (Or.inl ⟨by rfl, ?_⟩) ?_ ?_
                rotate_left
                · intro w'
                  go_simp
                  with_reducible rfl
                rotate_left
                · simp only [Act.put, List.setIfInBounds_toArray, List.set_cons_zero, List.set_cons_succ, i64_w, i32_w]
                  rfl
                refine pure_ (i := 7) (N := some 166) (v := ?_) (a' := ?_) #[true, true, true, true, false, true, true, true, false, false, false, false] rfl rfl (by kernel_rfl) (fun _ _ _ h => h) (Or.inl ⟨by rfl, ?_⟩) ?_ ?_
                rotate_left
                · intro w'
                  go_simp
                  with_reducible rfl
                rotate_left
                · simp only [Act.put, List.setIfInBounds_toArray, List.set_cons_zero, List.set_cons_succ, i64_w, i32_w]
                  rfl
                refine pure_ (i := 8) (N := some 167) (v := ?_) (a' := ?_) #[true, true, true, true, false, true, true, true, true, false, false, false] rfl rfl (by kernel_rfl) (fun _ _ _ h => h) (Or.inl ⟨by rfl, ?_⟩) ?_ ?_
                rotate_left
                · intro w'
                  go_simp
                  with_reducible rfl
                rotate_left
                · simp only [Act.put, List.setIfInBounds_toArray, List.set_cons_zero, List.set_cons_succ, i64_w, i32_w]
                  rfl
                refine take_ (i := 4) (N := some 163) (v := ?_) (a' := ?_) #[true, true, true, true, true, true, true, true, true, false, false, false] rfl rfl (by kernel_rfl) (fun _ _ _ h => h) (Or.inl ⟨by rfl, ?_⟩) hHeld ?_ ?_
                rotate_left
                · rintro w' ⟨s0, s1, s2, s3, s4⟩
                  go_simp
                  with_reducible rfl
                rotate_left
                · simp only [Act.put, List.setIfInBounds_toArray, List.set_cons_zero, List.set_cons_succ, i64_w, i32_w]
                  rfl
                refine take_ (i := 9) (N := some 168) (v := ?_) (a' := ?_) #[true, true, true, true, true, true, true, true, true, true, false, false] rfl rfl (by kernel_rfl) (fun _ _ _ h => h) (Or.inl ⟨by rfl, ?_⟩) hHeld ?_ ?_
                rotate_left
                · rintro w' ⟨s0, s1, s2, s3, s4⟩
                  go_simp
                  with_reducible rfl
                rotate_left
                · simp only [Act.put, List.setIfInBounds_toArray, List.set_cons_zero, List.set_cons_succ, i64_w, i32_w]
                  rfl
                refine pure_ (i := 10) (N := some 169) (v := ?_) (a' := ?_) #[true, true, true, true, true, true, true, true, true, true, true, false] rfl rfl (by kernel_rfl) (fun _ _ _ h => h) (Or.inl ⟨by rfl, ?_⟩) ?_ ?_
                rotate_left
                · intro w'
                  go_simp
                  with_reducible rfl
                rotate_left
                · simp only [Act.put, List.setIfInBounds_toArray, List.set_cons_zero, List.set_cons_succ, i64_w, i32_w]
                  rfl
                refine pure_ (i := 11) (N := some 23) (v := ?_) (a' := ?_) #[true, true, true, true, true, true, true, true, true, true, true, true] rfl rfl (by kernel_rfl) (fun _ _ _ h => h) (Or.inl ⟨by rfl, ?_⟩) ?_ ?_
                rotate_left
                · intro w'
                  go_simp
                  with_reducible rfl
                rotate_left
                · simp only [Act.put, List.setIfInBounds_toArray, List.set_cons_zero, List.set_cons_succ, i64_w, i32_w]
                  rfl
                refine done_ (by kernel_rfl) ?_
                replace HW := Aside0.mk hHeld.1
                replace N18 := Aside0.mk hHeld.2.1
                replace N20 := Aside0.mk hHeld.2.2.1
                replace X0 := Aside0.mk hHeld.2.2.2.1
                replace X1 := Aside0.mk hHeld.2.2.2.2
                clear hHeld
                clear hw43
                generalize wr.drew = wzz at *
                obtain ⟨g20, hg20⟩ : ∃ g, g = w25.heap.size + 1 := ⟨_, rfl⟩
                rw [← hg20] at N20 ⊢
                replace hg20 := Aside0.mk hg20
                rcases Decidable.em (fr < F + N) with hc | hc
                · rcases Decidable.em (F < fr) with hmx | hmx
                  · have hYe := Aside0.mk (hYes.out (by omega))
                    rw [show max F fr = fr by omega] at hYe
                    have x0 := X0.out
                    have z0 := N20.out.cell (i := 0) (v := .int .i64 p) rfl
                    have z1 := N20.out.cell (i := 1) (v := .int .i64 q) rfl
                    have zf := N20.out.frozen 0
                    have zf1 := N20.out.frozen 1
                    have hsub : wrap64 (F + N - fr) = F + N - fr := w_id (by have := K0.out; omega) (by have := K1.out; omega)
                    clear hYes hNo
                    go_wp2_with fail
                    clear hsub
                    have HWn := Aside0.mk ((HW.out.setCell (p := ⟨g20, 0, none⟩) (by have := hg20.out; show w25.heap.size ≤ g20; omega) (.int .i64 fr)).setCell (p := ⟨g20, 1, none⟩) (by have := hg20.out; show w25.heap.size ≤ g20; omega) (.int .i64 (F + N - fr)))
                    have N18n := Aside0.mk ((N18.out.far (p := ⟨g20, 0, none⟩) (by have := hg20.out; show w25.heap.size ≠ g20; omega) (.int .i64 fr)).far (p := ⟨g20, 1, none⟩) (by have := hg20.out; show w25.heap.size ≠ g20; omega) (.int .i64 (F + N - fr)))
                    have N20n := Aside0.mk ((N20.out.set_ 0 (.int .i64 fr)).set_ 1 (.int .i64 (F + N - fr)))
                    rw [hg20.out] at HWn N18n N20n ⊢
                    go_roundg kz
                    case measure => omega
                    case rel => exact ⟨k + 1, true, fr, F + N - fr, by have := Hk.out; omega, rfl, by go_num, hYe, HWn, N18n, N20n⟩
                  · have hYe := Aside0.mk (hYes.out (by omega))
                    rw [show max F fr = F by omega] at hYe
                    have x0 := X0.out
                    have z0 := N20.out.cell (i := 0) (v := .int .i64 p) rfl
                    have z1 := N20.out.cell (i := 1) (v := .int .i64 q) rfl
                    have zf := N20.out.frozen 0
                    have zf1 := N20.out.frozen 1
                    have hsub : wrap64 (F + N - F) = F + N - F := w_id (by have := K0.out; omega) (by have := K1.out; omega)
                    clear hYes hNo
                    go_wp2_with fail
                    clear hsub
                    have HWn := Aside0.mk ((HW.out.setCell (p := ⟨g20, 0, none⟩) (by have := hg20.out; show w25.heap.size ≤ g20; omega) (.int .i64 F)).setCell (p := ⟨g20, 1, none⟩) (by have := hg20.out; show w25.heap.size ≤ g20; omega) (.int .i64 (F + N - F)))
                    have N18n := Aside0.mk ((N18.out.far (p := ⟨g20, 0, none⟩) (by have := hg20.out; show w25.heap.size ≠ g20; omega) (.int .i64 F)).far (p := ⟨g20, 1, none⟩) (by have := hg20.out; show w25.heap.size ≠ g20; omega) (.int .i64 (F + N - F)))
                    have N20n := Aside0.mk ((N20.out.set_ 0 (.int .i64 F)).set_ 1 (.int .i64 (F + N - F)))
                    rw [hg20.out] at HWn N18n N20n ⊢
                    go_roundg kz
                    case measure => omega
                    case rel => exact ⟨k + 1, true, F, F + N - F, by have := Hk.out; omega, rfl, by go_num, hYe, HWn, N18n, N20n⟩
                · have hN := Aside0.mk (hNo.out (by omega))
                  have x0 := X0.out
                  clear hYes hNo
                  rw [hg20.out] at N20 ⊢
                  go_wp2_with fail
                  go_roundg kz
                  case measure => omega
                  case rel => exact ⟨k + 1, false, p, q, by have := Hk.out; omega, rfl, by go_num, hN, HW, N18, N20⟩
              · have hlt3 : ¬ (k : Int) < (T.length : Int) := by omega
                have hd := hS.out.done (.inr hge2)
                rw [Hnv.out] at hd
                injection hd with e1 e2
                injection e2 with e2 e3
                subst e1 e2 e3
                go_wp2_with fail
                go_meet
                case rel => exact ⟨rfl, HW, N18, N20⟩
        case rest =>
          clear HW N18 N20
          obtain ⟨rfl, HW, N18, N20⟩ := hcut
          replace HB := Aside0.mk (below_step HB.out HW.out)
          replace SX := Aside0.mk (SX.out.keep HW.out)
          replace R := Aside0.mk (R.out.keep HW.out)
          replace HK := Aside0.mk ((HK.out.keep HW.out).top)
          replace VA := Aside0.mk (Kd.R_below VA.out HW.out)
          replace VW := Aside0.mk (Kd.R_below VW.out HW.out)
          have Q0 := Aside0.mk (N18.out.cell (i := 0) (v := .int .i64 n1) rfl)
          have Q1 := Aside0.mk (N18.out.cell (i := 1) (v := .int .i64 n2) rfl)
          have R0 := Aside0.mk (N20.out.cell (i := 0) (v := .int .i64 n1) rfl)
          have R1 := Aside0.mk (N20.out.cell (i := 1) (v := .int .i64 n2) rfl)
          clear HW N18 N20
          rcases Int.lt_or_le fr 0 with hf0 | hf0
          · as_aux_lemma =>
            have hin1 : ¬ (0 : Int) ≤ fr := by omega
            have hHs : Aside0 ((decide (0 ≤ fr) && decide (fr < 64) && s.getD fr.toNat false) = false) := ⟨by rw [decide_eq_false hin1]; rfl⟩
            have hin3 : decide ((0 : Int) ≤ fr) = false := decide_eq_false hin1
            go_wp2_with fail
            refine start_ (n := 38) (S := fun w' => Below w.heap.size w w' ∧ Blk w' gx 30 (setArr s) ∧ RunsAt w' w.heap.size gr (spansOf s) ∧ Kd.R k24 24 w' w.heap.size (fun _ => True) (.slice A2 (T).length c2) (T) ∧ Kd.R k24 24 w' w.heap.size (fun _ => True) (.slice A3 (T).length c3) (T) ∧ KeptAt w' w.heap.size gB (fun k => w'.heap.size ≤ k) ([]) (LS ++ [T]) ([]) ∧ w'.cell? ⟨w25.heap.size, 0, none⟩ = some (.int .i64 n1) ∧ w'.cell? ⟨w25.heap.size, 1, none⟩ = some (.int .i64 n2) ∧ w'.cell? ⟨w25.heap.size + 1, 0, none⟩ = some (.int .i64 n1) ∧ w'.cell? ⟨w25.heap.size + 1, 1, none⟩ = some (.int .i64 n2)) (ds := []) #[false, false, false, false, false, false, false, false, false, false, false, false, false, false, false, false, false, false, false, false, false, false, false, false, false, false, false, false, false, false, false, false, false, false, false, false, false, false] (by kernel_rfl) rfl rfl ⟨(below_drew1 HB.out), (SX.out.keep (below_drew1 (Below.refl _ _))), (R.out.keep (below_drew1 (Below.refl _ _))), (Kd.R_below VA.out (below_drew1 (Below.refl _ _))), (Kd.R_below VW.out (below_drew1 (Below.refl _ _))), ((HK.out.keep (below_drew1 (Below.refl _ _))).top), (keep (below_drew1 (Below.refl _ _)) Q0.out), (keep (below_drew1 (Below.refl _ _)) Q1.out), (keep (below_drew1 (Below.refl _ _)) R0.out), (keep (below_drew1 (Below.refl _ _)) R1.out)⟩ (fun hHeld => ?_)
            refine pure_ (i := 0) (N := some 185) (v := ?_) (a' := ?_) #[true, false, false, false, false, false, false, false, false, false, false, false, false, false, false, false, false, false, false, false, false, false, false, false, false, false, false, false, false, false, false, false, false, false, false, false, false, false] rfl rfl (by kernel_rfl) (fun _ _ _ h => h) (Or.inl ⟨by rfl, ?_⟩) ?_ ?_
            rotate_left
            · intro w'
              go_simp
              with_reducible rfl
            rotate_left
            · simp only [Act.put, List.setIfInBounds_toArray, List.set_cons_zero, List.set_cons_succ, i64_w, i32_w]
              rfl
            refine pure_ (i := 1) (N := some 186) (v := ?_) (a' := ?_) #[true, true, false, false, false, false, false, false, false, false, false, false, false, false, false, false, false, false, false, false, false, false, false, false, false, false, false, false, false, false, false, false, false, false, false, false, false, false] rfl rfl (by kernel_rfl) (fun _ _ _ h => h) (Or.inl ⟨by rfl, ?_⟩) ?_ ?_
            rotate_left
            · intro w'
              go_simp
              with_reducible rfl
            rotate_left
            · simp only [Act.put, List.setIfInBounds_toArray, List.set_cons_zero, List.set_cons_succ, i64_w, i32_w]
              rfl
            refine one_ (i := 2) (N := some 187) #[true, true, true, false, false, false, false, false, false, false, false, false, false, false, false, false, false, false, false, false, false, false, false, false, false, false, false, false, false, false, false, false, false, false, false, false, false, false] rfl rfl (by kernel_rfl) (by decide) (fun K hK => ?_)
            refine goes_ Try.func26 (by kernel_rfl) rfl #[.slice A2 T.length c2, .slice A3 T.length c3] (by rfl) rfl rfl (by simp only [List.map_toArray, List.map_cons, List.map_nil]; rfl) ?_
            with_reducible refine (same_S _ _ _ _ hHeld.2.2.2.1 hHeld.2.2.2.2.1 (by have := hlen.out; omega)).mono ?_
            rintro e w60 ⟨rfl, hb⟩
            refine ⟨_, rfl, ?_⟩
            refine hK.out _ _ ⟨(below_step hHeld.1 hb), (hHeld.2.1.keep hb), (hHeld.2.2.1.keep hb), (Kd.R_below hHeld.2.2.2.1 hb), (Kd.R_below hHeld.2.2.2.2.1 hb), ((hHeld.2.2.2.2.2.1.keep hb).top), (keep hb hHeld.2.2.2.2.2.2.1), (keep hb hHeld.2.2.2.2.2.2.2.1), (keep hb hHeld.2.2.2.2.2.2.2.2.1), (keep hb hHeld.2.2.2.2.2.2.2.2.2)⟩ (fun hHeld => ?_)
            clear hK K
            refine norm_ (a' := ?_) ?_ ?_
            rotate_left
            · show Act.put _ (some 187) _ = _
              simp only [Act.put, List.setIfInBounds_toArray, List.set_cons_zero, List.set_cons_succ, i64_w, i32_w]
              rfl
            refine pure_ (i := 3) (N := some 188) (v := ?_) (a' := ?_) #[true, true, true, true, false, false, false, false, false, false, false, false, false, false, false, false, false, false, false, false, false, false, false, false, false, false, false, false, false, false, false, false, false, false, false, false, false, false] rfl rfl (by kernel_rfl) (fun _ _ _ h => h) (Or.inl ⟨by rfl, ?_⟩) ?_ ?_
            rotate_left
            · intro w'
              go_simp
              with_reducible rfl
            rotate_left
            · simp only [Act.put, List.setIfInBounds_toArray, List.set_cons_zero, List.set_cons_succ, i64_w, i32_w]
              rfl
            refine pure_ (i := 4) (N := some 189) (v := ?_) (a' := ?_) #[true, true, true, true, true, false, false, false, false, false, false, false, false, false, false, false, false, false, false, false, false, false, false, false, false, false, false, false, false, false, false, false, false, false, false, false, false, false] rfl rfl (by kernel_rfl) (fun _ _ _ h => h) (Or.inl ⟨by rfl, ?_⟩) ?_ ?_
            rotate_left
            · intro w'
              go_simp
              with_reducible rfl
            rotate_left
            · simp only [Act.put, List.setIfInBounds_toArray, List.set_cons_zero, List.set_cons_succ, i64_w, i32_w]
              rfl
            refine pure_ (i := 5) (N := some 190) (v := ?_) (a' := ?_) #[true, true, true, true, true, true, false, false, false, false, false, false, false, false, false, false, false, false, false, false, false, false, false, false, false, false, false, false, false, false, false, false, false, false, false, false, false, false] rfl rfl (by kernel_rfl) (fun _ _ _ h => h) (Or.inl ⟨by rfl, ?_⟩) ?_ ?_
            rotate_left
            · intro w'
              go_simp
              with_reducible rfl
            rotate_left
            · simp only [Act.put, List.setIfInBounds_toArray, List.set_cons_zero, List.set_cons_succ, i64_w, i32_w]
              rfl
            refine take_ (i := 7) (N := some 192) (v := ?_) (a' := ?_) #[true, true, true, true, true, true, false, true, false, false, false, false, false, false, false, false, false, false, false, false, false, false, false, false, false, false, false, false, false, false, false, false, false, false, false, false, false, false] rfl rfl (by kernel_rfl) (fun _ _ _ h => h) (Or.inl ⟨by rfl, ?_⟩) hHeld ?_ ?_
            rotate_left
            · rintro w' ⟨s0, s1, s2, s3, s4, s5, s6, s7, s8, s9⟩
              refine row_yields 30 (.tmp 9) ?_ gx ?_ 30 (setArr s) (0, 0) _ s1.hd Try.underlying30 rfl (by rw [setArr_size, hsl.out] <;> exact info30)
              · rfl
              · rfl
            rotate_left
            · simp only [Act.put, List.setIfInBounds_toArray, List.set_cons_zero, List.set_cons_succ, i64_w, i32_w]
              rfl
            refine one_ (i := 6) (N := some 191) #[true, true, true, true, true, true, true, true, false, false, false, false, false, false, false, false, false, false, false, false, false, false, false, false, false, false, false, false, false, false, false, false, false, false, false, false, false, false] rfl rfl (by kernel_rfl) (by decide) (fun K hK => ?_)
            refine goes_ Try.func33 (by kernel_rfl) rfl #[ptrR gr] (by rfl) rfl rfl (by simp only [List.map_toArray, List.map_cons, List.map_nil]; rfl) ?_
            with_reducible refine (runs_cnt w.heap.size gr s n hn.out _ hHeld.2.2.1).mono ?_
            rintro e w61 ⟨rfl, hb⟩
            refine ⟨_, rfl, ?_⟩
            refine hK.out _ _ ⟨(below_step hHeld.1 hb), (hHeld.2.1.keep hb), (hHeld.2.2.1.keep hb), (Kd.R_below hHeld.2.2.2.1 hb), (Kd.R_below hHeld.2.2.2.2.1 hb), ((hHeld.2.2.2.2.2.1.keep hb).top), (keep hb hHeld.2.2.2.2.2.2.1), (keep hb hHeld.2.2.2.2.2.2.2.1), (keep hb hHeld.2.2.2.2.2.2.2.2.1), (keep hb hHeld.2.2.2.2.2.2.2.2.2)⟩ (fun hHeld => ?_)
            clear hK K
            refine norm_ (a' := ?_) ?_ ?_
            rotate_left
            · show Act.put _ (some 191) _ = _
              simp only [Act.put, List.setIfInBounds_toArray, List.set_cons_zero, List.set_cons_succ, i64_w, i32_w]
              rfl
            refine one_ (i := 8) (N := some 193) #[true, true, true, true, true, true, true, true, true, false, false, false, false, false, false, false, false, false, false, false, false, false, false, false, false, false, false, false, false, false, false, false, false, false, false, false, false, false] rfl rfl (by kernel_rfl) (by decide) (fun K hK => ?_)
            refine goes_ Try.func25 (by kernel_rfl) rfl #[.agg (setArr s)] (by rfl) rfl rfl (by simp only [List.map_toArray, List.map_cons, List.map_nil]; rfl) ?_
            with_reducible refine (set_cnt s n hsl.out hn.out _).mono ?_
            rintro e w62 ⟨rfl, hb⟩
            refine ⟨_, rfl, ?_⟩
            refine hK.out _ _ ⟨(below_step hHeld.1 hb), (hHeld.2.1.keep hb), (hHeld.2.2.1.keep hb), (Kd.R_below hHeld.2.2.2.1 hb), (Kd.R_below hHeld.2.2.2.2.1 hb), ((hHeld.2.2.2.2.2.1.keep hb).top), (keep hb hHeld.2.2.2.2.2.2.1), (keep hb hHeld.2.2.2.2.2.2.2.1), (keep hb hHeld.2.2.2.2.2.2.2.2.1), (keep hb hHeld.2.2.2.2.2.2.2.2.2)⟩ (fun hHeld => ?_)
            clear hK K
            refine norm_ (a' := ?_) ?_ ?_
            rotate_left
            · show Act.put _ (some 193) _ = _
              simp only [Act.put, List.setIfInBounds_toArray, List.set_cons_zero, List.set_cons_succ, i64_w, i32_w]
              rfl
            refine pure_ (i := 9) (N := some 194) (v := ?_) (a' := ?_) #[true, true, true, true, true, true, true, true, true, true, false, false, false, false, false, false, false, false, false, false, false, false, false, false, false, false, false, false, false, false, false, false, false, false, false, false, false, false] rfl rfl (by kernel_rfl) (fun _ _ _ h => h) (Or.inl ⟨by rfl, ?_⟩) ?_ ?_
            rotate_left
            · intro w'
              go_simp
              with_reducible rfl
            rotate_left
            · simp only [Act.put, List.setIfInBounds_toArray, List.set_cons_zero, List.set_cons_succ, i64_w, i32_w]
              rfl
            refine pure_ (i := 10) (N := some 195) (v := ?_) (a' := ?_) #[true, true, true, true, true, true, true, true, true, true, true, false, false, false, false, false, false, false, false, false, false, false, false, false, false, false, false, false, false, false, false, false, false, false, false, false, false, false] rfl rfl (by kernel_rfl) (fun _ _ _ h => h) (Or.inl ⟨by rfl, ?_⟩) ?_ ?_
            rotate_left
            · intro w'
              go_simp
              with_reducible rfl
            rotate_left
            · simp only [Act.put, List.setIfInBounds_toArray, List.set_cons_zero, List.set_cons_succ, i64_w, i32_w]
              rfl
            refine pure_ (i := 11) (N := some 196) (v := ?_) (a' := ?_) #[true, true, true, true, true, true, true, true, true, true, true, true, false, false, false, false, false, false, false, false, false, false, false, false, false, false, false, false, false, false, false, false, false, false, false, false, false, false] rfl rfl (by kernel_rfl) (fun _ _ _ h => h) (Or.inl ⟨by rfl, ?_⟩) ?_ ?_
            rotate_left
            · intro w'
              go_simp
              with_reducible rfl
            rotate_left
            · simp only [Act.put, List.setIfInBounds_toArray, List.set_cons_zero, List.set_cons_succ, i64_w, i32_w]
              rfl
            refine take_ (i := 12) (N := some 197) (v := ?_) (a' := ?_) #[true, true, true, true, true, true, true, true, true, true, true, true, true, false, false, false, false, false, false, false, false, false, false, false, false, false, false, false, false, false, false, false, false, false, false, false, false, false] rfl rfl (by kernel_rfl) (fun _ _ _ h => h) (Or.inl ⟨by rfl, ?_⟩) hHeld ?_ ?_
            rotate_left
            · rintro w' ⟨s0, s1, s2, s3, s4, s5, s6, s7, s8, s9⟩
              go_simp
              with_reducible rfl
            rotate_left
            · simp only [Act.put, List.setIfInBounds_toArray, List.set_cons_zero, List.set_cons_succ, i64_w, i32_w]
              rfl
            refine take_ (i := 13) (N := some 198) (v := ?_) (a' := ?_) #[true, true, true, true, true, true, true, true, true, true, true, true, true, true, false, false, false, false, false, false, false, false, false, false, false, false, false, false, false, false, false, false, false, false, false, false, false, false] rfl rfl (by kernel_rfl) (fun _ _ _ h => h) (Or.inl ⟨by rfl, ?_⟩) hHeld ?_ ?_
            rotate_left
            · rintro w' ⟨s0, s1, s2, s3, s4, s5, s6, s7, s8, s9⟩
              go_simp
              with_reducible rfl
            rotate_left
            · simp only [Act.put, List.setIfInBounds_toArray, List.set_cons_zero, List.set_cons_succ, i64_w, i32_w]
              rfl
            refine pure_ (i := 14) (N := some 199) (v := ?_) (a' := ?_) #[true, true, true, true, true, true, true, true, true, true, true, true, true, true, true, false, false, false, false, false, false, false, false, false, false, false, false, false, false, false, false, false, false, false, false, false, false, false] rfl rfl (by kernel_rfl) (fun _ _ _ h => h) (Or.inl ⟨by rfl, ?_⟩) ?_ ?_
            rotate_left
            · intro w'
              go_simp
              with_reducible rfl
            rotate_left
            · simp only [Act.put, List.setIfInBounds_toArray, List.set_cons_zero, List.set_cons_succ, i64_w, i32_w]
              rfl
            refine pure_ (i := 15) (N := some 200) (v := ?_) (a' := ?_) #[true, true, true, true, true, true, true, true, true, true, true, true, true, true, true, true, false, false, false, false, false, false, false, false, false, false, false, false, false, false, false, false, false, false, false, false, false, false] rfl rfl (by kernel_rfl) (fun _ _ _ h => h) (Or.inl ⟨by rfl, ?_⟩) ?_ ?_
            rotate_left
            · intro w'
              go_simp
              with_reducible rfl
            rotate_left
            · simp only [Act.put, List.setIfInBounds_toArray, List.set_cons_zero, List.set_cons_succ, i64_w, i32_w]
              rfl
            refine pure_ (i := 16) (N := some 201) (v := ?_) (a' := ?_) #[true, true, true, true, true, true, true, true, true, true, true, true, true, true, true, true, true, false, false, false, false, false, false, false, false, false, false, false, false, false, false, false, false, false, false, false, false, false] rfl rfl (by kernel_rfl) (fun _ _ _ h => h) (Or.inl ⟨by rfl, ?_⟩) ?_ ?_
            rotate_left
            · intro w'
              go_simp
              with_reducible rfl
            rotate_left
            · simp only [Act.put, List.setIfInBounds_toArray, List.set_cons_zero, List.set_cons_succ, i64_w, i32_w]
              rfl
            refine pure_ (i := 17) (N := some 202) (v := ?_) (a' := ?_) #[true, true, true, true, true, true, true, true, true, true, true, true, true, true, true, true, true, true, false, false, false, false, false, false, false, false, false, false, false, false, false, false, false, false, false, false, false, false] rfl rfl (by kernel_rfl) (fun _ _ _ h => h) (Or.inl ⟨by rfl, ?_⟩) ?_ ?_
            rotate_left
            · intro w'
              go_simp
              with_reducible rfl
            rotate_left
            · simp only [Act.put, List.setIfInBounds_toArray, List.set_cons_zero, List.set_cons_succ, i64_w, i32_w]
              rfl
            refine pure_ (i := 18) (N := some 203) (v := ?_) (a' := ?_) #[true, true, true, true, true, true, true, true, true, true, true, true, true, true, true, true, true, true, true, false, false, false, false, false, false, false, false, false, false, false, false, false, false, false, false, false, false, false] rfl rfl (by kernel_rfl) (fun _ _ _ h => h) (Or.inl ⟨by rfl, ?_⟩) ?_ ?_
            rotate_left
            · intro w'
              go_simp
              with_reducible rfl
            rotate_left
            · simp only [Act.put, List.setIfInBounds_toArray, List.set_cons_zero, List.set_cons_succ, i64_w, i32_w]
              rfl
            refine pure_ (i := 19) (N := some 204) (v := ?_) (a' := ?_) #[true, true, true, true, true, true, true, true, true, true, true, true, true, true, true, true, true, true, true, true, false, false, false, false, false, false, false, false, false, false, false, false, false, false, false, false, false, false] rfl rfl (by kernel_rfl) (fun _ _ _ h => h) (Or.inl ⟨by rfl, ?_⟩) ?_ ?_
            rotate_left
            · intro w'
              go_simp
              with_reducible rfl
            rotate_left
            · simp only [Act.put, List.setIfInBounds_toArray, List.set_cons_zero, List.set_cons_succ, i64_w, i32_w]
              rfl
            refine pure_ (i := 20) (N := some 205) (v := ?_) (a' := ?_) #[true, true, true, true, true, true, true, true, true, true, true, true, true, true, true, true, true, true, true, true, true, false, false, false, false, false, false, false, false, false, false, false, false, false, false, false, false, false] rfl rfl (by kernel_rfl) (fun _ _ _ h => h) (Or.inl ⟨by rfl, ?_⟩) ?_ ?_
            rotate_left
            · intro w'
              go_simp
              with_reducible rfl
            rotate_left
            · simp only [Act.put, List.setIfInBounds_toArray, List.set_cons_zero, List.set_cons_succ, i64_w, i32_w]
              rfl
            refine pure_ (i := 21) (N := some 206) (v := ?_) (a' := ?_) #[true, true, true, true, true, true, true, true, true, true, true, true, true, true, true, true, true, true, true, true, true, true, false, false, false, false, false, false, false, false, false, false, false, false, false, false, false, false] rfl rfl (by kernel_rfl) (fun _ _ _ h => h) (Or.inl ⟨by rfl, ?_⟩) ?_ ?_
            rotate_left
            · intro w'
              go_simp
              with_reducible rfl
            rotate_left
            · simp only [Act.put, List.setIfInBounds_toArray, List.set_cons_zero, List.set_cons_succ, i64_w, i32_w]
              rfl
            refine pure_ (i := 22) (N := some 207) (v := ?_) (a' := ?_) #[true, true, true, true, true, true, true, true, true, true, true, true, true, true, true, true, true, true, true, true, true, true, true, false, false, false, false, false, false, false, false, false, false, false, false, false, false, false] rfl rfl (by kernel_rfl) (fun _ _ _ h => h) (Or.inl ⟨by rfl, ?_⟩) ?_ ?_
            rotate_left
            · intro w'
              go_simp
              with_reducible rfl
            rotate_left
            · simp only [Act.put, List.setIfInBounds_toArray, List.set_cons_zero, List.set_cons_succ, i64_w, i32_w]
              rfl
            refine pure_ (i := 23) (N := some 208) (v := ?_) (a' := ?_) #[true, true, true, true, true, true, true, true, true, true, true, true, true, true, true, true, true, true, true, true, true, true, true, true, false, false, false, false, false, false, false, false, false, false, false, false, false, false] rfl rfl (by kernel_rfl) (fun _ _ _ h => h) (Or.inl ⟨by rfl, ?_⟩) ?_ ?_
            rotate_left
            · intro w'
              go_simp
              with_reducible rfl
            rotate_left
            · simp only [Act.put, List.setIfInBounds_toArray, List.set_cons_zero, List.set_cons_succ, i64_w, i32_w]
              rfl
            refine pure_ (i := 25) (N := some 210) (v := ?_) (a' := ?_) #[true, true, true, true, true, true, true, true, true, true, true, true, true, true, true, true, true, true, true, true, true, true, true, true, false, true, false, false, false, false, false, false, false, false, false, false, false, false] rfl rfl (by kernel_rfl) (fun _ _ _ h => h) (Or.inl ⟨by rfl, ?_⟩) ?_ ?_
            rotate_left
            · intro w'
              go_simp
              with_reducible rfl
            rotate_left
            · simp only [Act.put, List.setIfInBounds_toArray, List.set_cons_zero, List.set_cons_succ, i64_w, i32_w]
              rfl
            refine pure_ (i := 26) (N := some 211) (v := ?_) (a' := ?_) #[true, true, true, true, true, true, true, true, true, true, true, true, true, true, true, true, true, true, true, true, true, true, true, true, false, true, true, false, false, false, false, false, false, false, false, false, false, false] rfl rfl (by kernel_rfl) (fun _ _ _ h => h) (Or.inl ⟨by rfl, ?_⟩) ?_ ?_
            rotate_left
            · intro w'
              go_simp
              with_reducible rfl
            rotate_left
            · simp only [Act.put, List.setIfInBounds_toArray, List.set_cons_zero, List.set_cons_succ, i64_w, i32_w]
              rfl
            refine one_ (i := 24) (N := some 209) #[true, true, true, true, true, true, true, true, true, true, true, true, true, true, true, true, true, true, true, true, true, true, true, true, true, true, true, false, false, false, false, false, false, false, false, false, false, false] rfl rfl (by kernel_rfl) (by decide) (fun K hK => ?_)
            refine goes_ Try.func42 (by kernel_rfl) rfl #[ptrR gr, .int .i64 fr] (by rfl) rfl rfl (by simp only [List.map_toArray, List.map_cons, List.map_nil]; rfl) ?_
            with_reducible refine (runs_hasE w.heap.size gr s fr false hHs.out _ hHeld.2.2.1).mono ?_
            rintro e w63 ⟨rfl, hb⟩
            refine ⟨_, rfl, ?_⟩
            refine hK.out _ _ ⟨(below_step hHeld.1 hb), (hHeld.2.1.keep hb), (hHeld.2.2.1.keep hb), (Kd.R_below hHeld.2.2.2.1 hb), (Kd.R_below hHeld.2.2.2.2.1 hb), ((hHeld.2.2.2.2.2.1.keep hb).top), (keep hb hHeld.2.2.2.2.2.2.1), (keep hb hHeld.2.2.2.2.2.2.2.1), (keep hb hHeld.2.2.2.2.2.2.2.2.1), (keep hb hHeld.2.2.2.2.2.2.2.2.2)⟩ (fun hHeld => ?_)
            clear hK K
            refine norm_ (a' := ?_) ?_ ?_
            rotate_left
            · show Act.put _ (some 209) _ = _
              simp only [Act.put, List.setIfInBounds_toArray, List.set_cons_zero, List.set_cons_succ, i64_w, i32_w]
              rfl
            refine pure_ (i := 27) (N := some 212) (v := ?_) (a' := ?_) #[true, true, true, true, true, true, true, true, true, true, true, true, true, true, true, true, true, true, true, true, true, true, true, true, true, true, true, true, false, false, false, false, false, false, false, false, false, false] rfl rfl (by kernel_rfl) (fun _ _ _ h => h) (Or.inl ⟨by rfl, ?_⟩) ?_ ?_
            rotate_left
            · intro w'
              go_simp
              with_reducible rfl
            rotate_left
            · simp only [Act.put, List.setIfInBounds_toArray, List.set_cons_zero, List.set_cons_succ, i64_w, i32_w]
              rfl
            refine pure_ (i := 28) (N := some 213) (v := undef) (a' := ?_) #[true, true, true, true, true, true, true, true, true, true, true, true, true, true, true, true, true, true, true, true, true, true, true, true, true, true, true, true, true, false, false, false, false, false, false, false, false, false] rfl rfl (by kernel_rfl) (fun _ _ _ h => h) (Or.inr ⟨by rfl, rfl⟩) ?_ ?_
            rotate_left
            · simp only [Act.put, List.setIfInBounds_toArray, List.set_cons_zero, List.set_cons_succ, i64_w, i32_w]
              rfl
            refine pure_ (i := 29) (N := some 214) (v := undef) (a' := ?_) #[true, true, true, true, true, true, true, true, true, true, true, true, true, true, true, true, true, true, true, true, true, true, true, true, true, true, true, true, true, true, false, false, false, false, false, false, false, false] rfl rfl (by kernel_rfl) (fun _ _ _ h => h) (Or.inr ⟨by rfl, rfl⟩) ?_ ?_
            rotate_left
            · simp only [Act.put, List.setIfInBounds_toArray, List.set_cons_zero, List.set_cons_succ, i64_w, i32_w]
              rfl
            refine pure_ (i := 30) (N := some 215) (v := ?_) (a' := ?_) #[true, true, true, true, true, true, true, true, true, true, true, true, true, true, true, true, true, true, true, true, true, true, true, true, true, true, true, true, true, true, true, false, false, false, false, false, false, false] rfl rfl (by kernel_rfl) (fun _ _ _ h => h) (Or.inl ⟨by rfl, ?_⟩) ?_ ?_
            rotate_left
            · intro w'
              go_simp
              with_reducible rfl
            rotate_left
            · simp only [Act.put, List.setIfInBounds_toArray, List.set_cons_zero, List.set_cons_succ, i64_w, i32_w]
              rfl
            refine pure_ (i := 31) (N := some 216) (v := ?_) (a' := ?_) #[true, true, true, true, true, true, true, true, true, true, true, true, true, true, true, true, true, true, true, true, true, true, true, true, true, true, true, true, true, true, true, true, false, false, false, false, false, false] rfl rfl (by kernel_rfl) (fun _ _ _ h => h) (Or.inl ⟨by rfl, ?_⟩) ?_ ?_
            rotate_left
            · intro w'
              go_simp
              with_reducible rfl
            rotate_left
            · simp only [Act.put, List.setIfInBounds_toArray, List.set_cons_zero, List.set_cons_succ, i64_w, i32_w]
              rfl
            refine pure_ (i := 32) (N := some 217) (v := undef) (a' := ?_) #[true, true, true, true, true, true, true, true, true, true, true, true, true, true, true, true, true, true, true, true, true, true, true, true, true, true, true, true, true, true, true, true, true, false, false, false, false, false] rfl rfl (by kernel_rfl) (fun _ _ _ h => h) (Or.inr ⟨by rfl, rfl⟩) ?_ ?_
            rotate_left
            · simp only [Act.put, List.setIfInBounds_toArray, List.set_cons_zero, List.set_cons_succ, i64_w, i32_w]
              rfl
            refine pure_ (i := 33) (N := some 218) (v := undef) (a' := ?_) #[true, true, true, true, true, true, true, true, true, true, true, true, true, true, true, true, true, true, true, true, true, true, true, true, true, true, true, true, true, true, true, true, true, true, false, false, false, false] rfl rfl (by kernel_rfl) (fun _ _ _ h => h) (Or.inr ⟨by rfl, rfl⟩) ?_ ?_
            rotate_left
            · simp only [Act.put, List.setIfInBounds_toArray, List.set_cons_zero, List.set_cons_succ, i64_w, i32_w]
              rfl
            refine pure_ (i := 34) (N := some 219) (v := undef) (a' := ?_) #[true, true, true, true, true, true, true, true, true, true, true, true, true, true, true, true, true, true, true, true, true, true, true, true, true, true, true, true, true, true, true, true, true, true, true, false, false, false] rfl rfl (by kernel_rfl) (fun _ _ _ h => h) (Or.inr ⟨by rfl, rfl⟩) ?_ ?_
            rotate_left
            · simp only [Act.put, List.setIfInBounds_toArray, List.set_cons_zero, List.set_cons_succ, i64_w, i32_w]
              rfl
            refine pure_ (i := 35) (N := some 220) (v := ?_) (a' := ?_) #[true, true, true, true, true, true, true, true, true, true, true, true, true, true, true, true, true, true, true, true, true, true, true, true, true, true, true, true, true, true, true, true, true, true, true, true, false, false] rfl rfl (by kernel_rfl) (fun _ _ _ h => h) (Or.inl ⟨by rfl, ?_⟩) ?_ ?_
            rotate_left
            · intro w'
              go_simp
              with_reducible rfl
            rotate_left
            · simp only [Act.put, List.setIfInBounds_toArray, List.set_cons_zero, List.set_cons_succ, i64_w, i32_w]
              rfl
            refine pure_ (i := 36) (N := some 221) (v := ?_) (a' := ?_) #[true, true, true, true, true, true, true, true, true, true, true, true, true, true, true, true, true, true, true, true, true, true, true, true, true, true, true, true, true, true, true, true, true, true, true, true, true, false] rfl rfl (by kernel_rfl) (fun _ _ _ h => h) (Or.inl ⟨by rfl, ?_⟩) ?_ ?_
            rotate_left
            · intro w'
              go_simp
              with_reducible rfl
            rotate_left
            · simp only [Act.put, List.setIfInBounds_toArray, List.set_cons_zero, List.set_cons_succ, i64_w, i32_w]
              rfl
            refine pure_ (i := 37) (N := some 222) (v := ?_) (a' := ?_) #[true, true, true, true, true, true, true, true, true, true, true, true, true, true, true, true, true, true, true, true, true, true, true, true, true, true, true, true, true, true, true, true, true, true, true, true, true, true] rfl rfl (by kernel_rfl) (fun _ _ _ h => h) (Or.inl ⟨by rfl, ?_⟩) ?_ ?_
            rotate_left
            · intro w'
              go_simp
              with_reducible rfl
            rotate_left
            · simp only [Act.put, List.setIfInBounds_toArray, List.set_cons_zero, List.set_cons_succ, i64_w, i32_w]
              rfl
            refine done_ (by kernel_rfl) ?_
            replace HB := Aside0.mk hHeld.1
            replace SX := Aside0.mk hHeld.2.1
            replace R := Aside0.mk hHeld.2.2.1
            replace VA := Aside0.mk hHeld.2.2.2.1
            replace VW := Aside0.mk hHeld.2.2.2.2.1
            replace HK := Aside0.mk hHeld.2.2.2.2.2.1
            replace Q0 := Aside0.mk hHeld.2.2.2.2.2.2.1
            replace Q1 := Aside0.mk hHeld.2.2.2.2.2.2.2.1
            replace R0 := Aside0.mk hHeld.2.2.2.2.2.2.2.2.1
            replace R1 := Aside0.mk hHeld.2.2.2.2.2.2.2.2.2
            clear hHeld
            go_wp2_with fail
            go_roundg kk
            case measure => omega
            case rel => exact ⟨i + 1, gr, s, LS ++ [T], by omega, rfl, by go_num, GE_R, hsl, ⟨by rw [List.length_append, HLS.out.1]; rfl, fun x hx => by rcases List.mem_append.1 hx with hx | hx; exact HLS.out.2 x hx; rw [List.mem_singleton.1 hx]; exact hlen.out⟩, HB, SX, R, HK⟩
          · rcases Int.lt_or_le fr 64 with hf1 | hf1
            · as_aux_lemma =>
              obtain ⟨fn, rfl⟩ : ∃ n : Nat, fr = (n : Int) := ⟨fr.toNat, by omega⟩
              have hin1 : (0 : Int) ≤ (fn : Int) := by omega
              have hin2 : (fn : Int) < 64 := by omega
              have hHs : (decide (0 ≤ (fn : Int)) && decide ((fn : Int) < 64) && s.getD ((fn : Int)).toNat false) = s.getD fn false := by rw [decide_eq_true hin1, decide_eq_true hin2, Int.toNat_natCast]; simp
              have S0 := Aside0.mk (SX.out.cell (setArr_get s fn (by rw [hsl.out]; omega)))
              obtain ⟨bq, hhb⟩ : ∃ b, b = s.getD fn false := ⟨_, rfl⟩
              rw [← hhb] at S0 hHs
              replace hHs := Aside0.mk hHs
              clear hhb
              go_wp2_with fail
              refine start_ (n := 38) (S := fun w' => Below w.heap.size w w' ∧ Blk w' gx 30 (setArr s) ∧ RunsAt w' w.heap.size gr (spansOf s) ∧ Kd.R k24 24 w' w.heap.size (fun _ => True) (.slice A2 (T).length c2) (T) ∧ Kd.R k24 24 w' w.heap.size (fun _ => True) (.slice A3 (T).length c3) (T) ∧ KeptAt w' w.heap.size gB (fun k => w'.heap.size ≤ k) ([]) (LS ++ [T]) ([]) ∧ w'.cell? ⟨w25.heap.size, 0, none⟩ = some (.int .i64 n1) ∧ w'.cell? ⟨w25.heap.size, 1, none⟩ = some (.int .i64 n2) ∧ w'.cell? ⟨w25.heap.size + 1, 0, none⟩ = some (.int .i64 n1) ∧ w'.cell? ⟨w25.heap.size + 1, 1, none⟩ = some (.int .i64 n2) ∧ w'.cell? ⟨gx, fn, none⟩ = some (.bool bq)) (ds := []) #[false, false, false, false, false, false, false, false, false, false, false, false, false, false, false, false, false, false, false, false, false, false, false, false, false, false, false, false, false, false, false, false, false, false, false, false, false, false] (by kernel_rfl) rfl rfl ⟨(below_drew1 HB.out), (SX.out.keep (below_drew1 (Below.refl _ _))), (R.out.keep (below_drew1 (Below.refl _ _))), (Kd.R_below VA.out (below_drew1 (Below.refl _ _))), (Kd.R_below VW.out (below_drew1 (Below.refl _ _))), ((HK.out.keep (below_drew1 (Below.refl _ _))).top), (keep (below_drew1 (Below.refl _ _)) Q0.out), (keep (below_drew1 (Below.refl _ _)) Q1.out), (keep (below_drew1 (Below.refl _ _)) R0.out), (keep (below_drew1 (Below.refl _ _)) R1.out), (keep (below_drew1 (Below.refl _ _)) S0.out)⟩ (fun hHeld => ?_)
              refine pure_ (i := 0) (N := some 185) (v := ?_) (a' := ?_) #[true, false, false, false, false, false, false, false, false, false, false, false, false, false, false, false, false, false, false, false, false, false, false, false, false, false, false, false, false, false, false, false, false, false, false, false, false, false] rfl rfl (by kernel_rfl) (fun _ _ _ h => h) (Or.inl ⟨by rfl, ?_⟩) ?_ ?_
              rotate_left
              · intro w'
                go_simp
                with_reducible rfl
              rotate_left
              · simp only [Act.put, List.setIfInBounds_toArray, List.set_cons_zero, List.set_cons_succ, i64_w, i32_w]
                rfl
              refine pure_ (i := 1) (N := some 186) (v := ?_) (a' := ?_) #[true, true, false, false, false, false, false, false, false, false, false, false, false, false, false, false, false, false, false, false, false, false, false, false, false, false, false, false, false, false, false, false, false, false, false, false, false, false] rfl rfl (by kernel_rfl) (fun _ _ _ h => h) (Or.inl ⟨by rfl, ?_⟩) ?_ ?_
              rotate_left
              · intro w'
                go_simp
                with_reducible rfl
              rotate_left
              · simp only [Act.put, List.setIfInBounds_toArray, List.set_cons_zero, List.set_cons_succ, i64_w, i32_w]
                rfl
              refine one_ (i := 2) (N := some 187) #[true, true, true, false, false, false, false, false, false, false, false, false, false, false, false, false, false, false, false, false, false, false, false, false, false, false, false, false, false, false, false, false, false, false, false, false, false, false] rfl rfl (by kernel_rfl) (by decide) (fun K hK => ?_)
              refine goes_ Try.func26 (by kernel_rfl) rfl #[.slice A2 T.length c2, .slice A3 T.length c3] (by rfl) rfl rfl (by simp only [List.map_toArray, List.map_cons, List.map_nil]; rfl) ?_
              with_reducible refine (same_S _ _ _ _ hHeld.2.2.2.1 hHeld.2.2.2.2.1 (by have := hlen.out; omega)).mono ?_
              rintro e w60 ⟨rfl, hb⟩
              refine ⟨_, rfl, ?_⟩
              refine hK.out _ _ ⟨(below_step hHeld.1 hb), (hHeld.2.1.keep hb), (hHeld.2.2.1.keep hb), (Kd.R_below hHeld.2.2.2.1 hb), (Kd.R_below hHeld.2.2.2.2.1 hb), ((hHeld.2.2.2.2.2.1.keep hb).top), (keep hb hHeld.2.2.2.2.2.2.1), (keep hb hHeld.2.2.2.2.2.2.2.1), (keep hb hHeld.2.2.2.2.2.2.2.2.1), (keep hb hHeld.2.2.2.2.2.2.2.2.2.1), (keep hb hHeld.2.2.2.2.2.2.2.2.2.2)⟩ (fun hHeld => ?_)
              clear hK K
              refine norm_ (a' := ?_) ?_ ?_
              rotate_left
              · show Act.put _ (some 187) _ = _
                simp only [Act.put, List.setIfInBounds_toArray, List.set_cons_zero, List.set_cons_succ, i64_w, i32_w]
                rfl
              refine pure_ (i := 3) (N := some 188) (v := ?_) (a' := ?_) #[true, true, true, true, false, false, false, false, false, false, false, false, false, false, false, false, false, false, false, false, false, false, false, false, false, false, false, false, false, false, false, false, false, false, false, false, false, false] rfl rfl (by kernel_rfl) (fun _ _ _ h => h) (Or.inl ⟨by rfl, ?_⟩) ?_ ?_
              rotate_left
              · intro w'
                go_simp
                with_reducible rfl
              rotate_left
              · simp only [Act.put, List.setIfInBounds_toArray, List.set_cons_zero, List.set_cons_succ, i64_w, i32_w]
                rfl
              refine pure_ (i := 4) (N := some 189) (v := ?_) (a' := ?_) #[true, true, true, true, true, false, false, false, false, false, false, false, false, false, false, false, false, false, false, false, false, false, false, false, false, false, false, false, false, false, false, false, false, false, false, false, false, false] rfl rfl (by kernel_rfl) (fun _ _ _ h => h) (Or.inl ⟨by rfl, ?_⟩) ?_ ?_
              rotate_left
              · intro w'
                go_simp
                with_reducible rfl
              rotate_left
              · simp only [Act.put, List.setIfInBounds_toArray, List.set_cons_zero, List.set_cons_succ, i64_w, i32_w]
                rfl
              refine pure_ (i := 5) (N := some 190) (v := ?_) (a' := ?_) #[true, true, true, true, true, true, false, false, false, false, false, false, false, false, false, false, false, false, false, false, false, false, false, false, false, false, false, false, false, false, false, false, false, false, false, false, false, false] rfl rfl (by kernel_rfl) (fun _ _ _ h => h) (Or.inl ⟨by rfl, ?_⟩) ?_ ?_
              rotate_left
              · intro w'
                go_simp
                with_reducible rfl
              rotate_left
              · simp only [Act.put, List.setIfInBounds_toArray, List.set_cons_zero, List.set_cons_succ, i64_w, i32_w]
                rfl
              refine take_ (i := 7) (N := some 192) (v := ?_) (a' := ?_) #[true, true, true, true, true, true, false, true, false, false, false, false, false, false, false, false, false, false, false, false, false, false, false, false, false, false, false, false, false, false, false, false, false, false, false, false, false, false] rfl rfl (by kernel_rfl) (fun _ _ _ h => h) (Or.inl ⟨by rfl, ?_⟩) hHeld ?_ ?_
              rotate_left
              · rintro w' ⟨s0, s1, s2, s3, s4, s5, s6, s7, s8, s9, s10⟩
                refine row_yields 30 (.tmp 9) ?_ gx ?_ 30 (setArr s) (0, 0) _ s1.hd Try.underlying30 rfl (by rw [setArr_size, hsl.out] <;> exact info30)
                · rfl
                · rfl
              rotate_left
              · simp only [Act.put, List.setIfInBounds_toArray, List.set_cons_zero, List.set_cons_succ, i64_w, i32_w]
                rfl
              refine one_ (i := 6) (N := some 191) #[true, true, true, true, true, true, true, true, false, false, false, false, false, false, false, false, false, false, false, false, false, false, false, false, false, false, false, false, false, false, false, false, false, false, false, false, false, false] rfl rfl (by kernel_rfl) (by decide) (fun K hK => ?_)
              refine goes_ Try.func33 (by kernel_rfl) rfl #[ptrR gr] (by rfl) rfl rfl (by simp only [List.map_toArray, List.map_cons, List.map_nil]; rfl) ?_
              with_reducible refine (runs_cnt w.heap.size gr s n hn.out _ hHeld.2.2.1).mono ?_
              rintro e w61 ⟨rfl, hb⟩
              refine ⟨_, rfl, ?_⟩
              refine hK.out _ _ ⟨(below_step hHeld.1 hb), (hHeld.2.1.keep hb), (hHeld.2.2.1.keep hb), (Kd.R_below hHeld.2.2.2.1 hb), (Kd.R_below hHeld.2.2.2.2.1 hb), ((hHeld.2.2.2.2.2.1.keep hb).top), (keep hb hHeld.2.2.2.2.2.2.1), (keep hb hHeld.2.2.2.2.2.2.2.1), (keep hb hHeld.2.2.2.2.2.2.2.2.1), (keep hb hHeld.2.2.2.2.2.2.2.2.2.1), (keep hb hHeld.2.2.2.2.2.2.2.2.2.2)⟩ (fun hHeld => ?_)
              clear hK K
              refine norm_ (a' := ?_) ?_ ?_
              rotate_left
              · show Act.put _ (some 191) _ = _
                simp only [Act.put, List.setIfInBounds_toArray, List.set_cons_zero, List.set_cons_succ, i64_w, i32_w]
                rfl
              refine one_ (i := 8) (N := some 193) #[true, true, true, true, true, true, true, true, true, false, false, false, false, false, false, false, false, false, false, false, false, false, false, false, false, false, false, false, false, false, false, false, false, false, false, false, false, false] rfl rfl (by kernel_rfl) (by decide) (fun K hK => ?_)
              refine goes_ Try.func25 (by kernel_rfl) rfl #[.agg (setArr s)] (by rfl) rfl rfl (by simp only [List.map_toArray, List.map_cons, List.map_nil]; rfl) ?_
              with_reducible refine (set_cnt s n hsl.out hn.out _).mono ?_
              rintro e w62 ⟨rfl, hb⟩
              refine ⟨_, rfl, ?_⟩
              refine hK.out _ _ ⟨(below_step hHeld.1 hb), (hHeld.2.1.keep hb), (hHeld.2.2.1.keep hb), (Kd.R_below hHeld.2.2.2.1 hb), (Kd.R_below hHeld.2.2.2.2.1 hb), ((hHeld.2.2.2.2.2.1.keep hb).top), (keep hb hHeld.2.2.2.2.2.2.1), (keep hb hHeld.2.2.2.2.2.2.2.1), (keep hb hHeld.2.2.2.2.2.2.2.2.1), (keep hb hHeld.2.2.2.2.2.2.2.2.2.1), (keep hb hHeld.2.2.2.2.2.2.2.2.2.2)⟩ (fun hHeld => ?_)
              clear hK K
              refine norm_ (a' := ?_) ?_ ?_
              rotate_left
              · show Act.put _ (some 193) _ = _
                simp only [Act.put, List.setIfInBounds_toArray, List.set_cons_zero, List.set_cons_succ, i64_w, i32_w]
                rfl
              refine pure_ (i := 9) (N := some 194) (v := ?_) (a' := ?_) #[true, true, true, true, true, true, true, true, true, true, false, false, false, false, false, false, false, false, false, false, false, false, false, false, false, false, false, false, false, false, false, false, false, false, false, false, false, false] rfl rfl (by kernel_rfl) (fun _ _ _ h => h) (Or.inl ⟨by rfl, ?_⟩) ?_ ?_
              rotate_left
              · intro w'
                go_simp
                with_reducible rfl
              rotate_left
              · simp only [Act.put, List.setIfInBounds_toArray, List.set_cons_zero, List.set_cons_succ, i64_w, i32_w]
                rfl
              refine pure_ (i := 10) (N := some 195) (v := ?_) (a' := ?_) #[true, true, true, true, true, true, true, true, true, true, true, false, false, false, false, false, false, false, false, false, false, false, false, false, false, false, false, false, false, false, false, false, false, false, false, false, false, false] rfl rfl (by kernel_rfl) (fun _ _ _ h => h) (Or.inl ⟨by rfl, ?_⟩) ?_ ?_
              rotate_left
              · intro w'
                go_simp
                with_reducible rfl
              rotate_left
              · simp only [Act.put, List.setIfInBounds_toArray, List.set_cons_zero, List.set_cons_succ, i64_w, i32_w]
                rfl
              refine pure_ (i := 11) (N := some 196) (v := ?_) (a' := ?_) #[true, true, true, true, true, true, true, true, true, true, true, true, false, false, false, false, false, false, false, false, false, false, false, false, false, false, false, false, false, false, false, false, false, false, false, false, false, false] rfl rfl (by kernel_rfl) (fun _ _ _ h => h) (Or.inl ⟨by rfl, ?_⟩) ?_ ?_
              rotate_left
              · intro w'
                go_simp
                with_reducible rfl
              rotate_left
              · simp only [Act.put, List.setIfInBounds_toArray, List.set_cons_zero, List.set_cons_succ, i64_w, i32_w]
                rfl
              refine take_ (i := 12) (N := some 197) (v := ?_) (a' := ?_) #[true, true, true, true, true, true, true, true, true, true, true, true, true, false, false, false, false, false, false, false, false, false, false, false, false, false, false, false, false, false, false, false, false, false, false, false, false, false] rfl rfl (by kernel_rfl) (fun _ _ _ h => h) (Or.inl ⟨by rfl, ?_⟩) hHeld ?_ ?_
              rotate_left
              · rintro w' ⟨s0, s1, s2, s3, s4, s5, s6, s7, s8, s9, s10⟩
                go_simp
                with_reducible rfl
              rotate_left
              · simp only [Act.put, List.setIfInBounds_toArray, List.set_cons_zero, List.set_cons_succ, i64_w, i32_w]
                rfl
              refine take_ (i := 13) (N := some 198) (v := ?_) (a' := ?_) #[true, true, true, true, true, true, true, true, true, true, true, true, true, true, false, false, false, false, false, false, false, false, false, false, false, false, false, false, false, false, false, false, false, false, false, false, false, false] rfl rfl (by kernel_rfl) (fun _ _ _ h => h) (Or.inl ⟨by rfl, ?_⟩) hHeld ?_ ?_
              rotate_left
              · rintro w' ⟨s0, s1, s2, s3, s4, s5, s6, s7, s8, s9, s10⟩
                go_simp
                with_reducible rfl
              rotate_left
              · simp only [Act.put, List.setIfInBounds_toArray, List.set_cons_zero, List.set_cons_succ, i64_w, i32_w]
                rfl
              refine pure_ (i := 14) (N := some 199) (v := ?_) (a' := ?_) #[true, true, true, true, true, true, true, true, true, true, true, true, true, true, true, false, false, false, false, false, false, false, false, false, false, false, false, false, false, false, false, false, false, false, false, false, false, false] rfl rfl (by kernel_rfl) (fun _ _ _ h => h) (Or.inl ⟨by rfl, ?_⟩) ?_ ?_
              rotate_left
              · intro w'
                go_simp
                with_reducible rfl
              rotate_left
              · simp only [Act.put, List.setIfInBounds_toArray, List.set_cons_zero, List.set_cons_succ, i64_w, i32_w]
                rfl
              refine pure_ (i := 15) (N := some 200) (v := ?_) (a' := ?_) #[true, true, true, true, true, true, true, true, true, true, true, true, true, true, true, true, false, false, false, false, false, false, false, false, false, false, false, false, false, false, false, false, false, false, false, false, false, false] rfl rfl (by kernel_rfl) (fun _ _ _ h => h) (Or.inl ⟨by rfl, ?_⟩) ?_ ?_
              rotate_left
              · intro w'
                go_simp
                with_reducible rfl
              rotate_left
              · simp only [Act.put, List.setIfInBounds_toArray, List.set_cons_zero, List.set_cons_succ, i64_w, i32_w]
                rfl
              refine pure_ (i := 16) (N := some 201) (v := ?_) (a' := ?_) #[true, true, true, true, true, true, true, true, true, true, true, true, true, true, true, true, true, false, false, false, false, false, false, false, false, false, false, false, false, false, false, false, false, false, false, false, false, false] rfl rfl (by kernel_rfl) (fun _ _ _ h => h) (Or.inl ⟨by rfl, ?_⟩) ?_ ?_
              rotate_left
              · intro w'
                go_simp
                with_reducible rfl
              rotate_left
              · simp only [Act.put, List.setIfInBounds_toArray, List.set_cons_zero, List.set_cons_succ, i64_w, i32_w]
                rfl
              refine pure_ (i := 17) (N := some 202) (v := ?_) (a' := ?_) #[true, true, true, true, true, true, true, true, true, true, true, true, true, true, true, true, true, true, false, false, false, false, false, false, false, false, false, false, false, false, false, false, false, false, false, false, false, false] rfl rfl (by kernel_rfl) (fun _ _ _ h => h) (Or.inl ⟨by rfl, ?_⟩) ?_ ?_
              rotate_left
              · intro w'
                go_simp
                with_reducible rfl
              rotate_left
              · simp only [Act.put, List.setIfInBounds_toArray, List.set_cons_zero, List.set_cons_succ, i64_w, i32_w]
                rfl
              refine pure_ (i := 18) (N := some 203) (v := ?_) (a' := ?_) #[true, true, true, true, true, true, true, true, true, true, true, true, true, true, true, true, true, true, true, false, false, false, false, false, false, false, false, false, false, false, false, false, false, false, false, false, false, false] rfl rfl (by kernel_rfl) (fun _ _ _ h => h) (Or.inl ⟨by rfl, ?_⟩) ?_ ?_
              rotate_left
              · intro w'
                go_simp
                with_reducible rfl
              rotate_left
              · simp only [Act.put, List.setIfInBounds_toArray, List.set_cons_zero, List.set_cons_succ, i64_w, i32_w]
                rfl
              refine pure_ (i := 19) (N := some 204) (v := ?_) (a' := ?_) #[true, true, true, true, true, true, true, true, true, true, true, true, true, true, true, true, true, true, true, true, false, false, false, false, false, false, false, false, false, false, false, false, false, false, false, false, false, false] rfl rfl (by kernel_rfl) (fun _ _ _ h => h) (Or.inl ⟨by rfl, ?_⟩) ?_ ?_
              rotate_left
              · intro w'
                go_simp
                with_reducible rfl
              rotate_left
              · simp only [Act.put, List.setIfInBounds_toArray, List.set_cons_zero, List.set_cons_succ, i64_w, i32_w]
                rfl
              refine pure_ (i := 20) (N := some 205) (v := ?_) (a' := ?_) #[true, true, true, true, true, true, true, true, true, true, true, true, true, true, true, true, true, true, true, true, true, false, false, false, false, false, false, false, false, false, false, false, false, false, false, false, false, false] rfl rfl (by kernel_rfl) (fun _ _ _ h => h) (Or.inl ⟨by rfl, ?_⟩) ?_ ?_
              rotate_left
              · intro w'
                go_simp
                with_reducible rfl
              rotate_left
              · simp only [Act.put, List.setIfInBounds_toArray, List.set_cons_zero, List.set_cons_succ, i64_w, i32_w]
                rfl
              refine pure_ (i := 21) (N := some 206) (v := ?_) (a' := ?_) #[true, true, true, true, true, true, true, true, true, true, true, true, true, true, true, true, true, true, true, true, true, true, false, false, false, false, false, false, false, false, false, false, false, false, false, false, false, false] rfl rfl (by kernel_rfl) (fun _ _ _ h => h) (Or.inl ⟨by rfl, ?_⟩) ?_ ?_
              rotate_left
              · intro w'
                go_simp
                with_reducible rfl
              rotate_left
              · simp only [Act.put, List.setIfInBounds_toArray, List.set_cons_zero, List.set_cons_succ, i64_w, i32_w]
                rfl
              refine pure_ (i := 22) (N := some 207) (v := ?_) (a' := ?_) #[true, true, true, true, true, true, true, true, true, true, true, true, true, true, true, true, true, true, true, true, true, true, true, false, false, false, false, false, false, false, false, false, false, false, false, false, false, false] rfl rfl (by kernel_rfl) (fun _ _ _ h => h) (Or.inl ⟨by rfl, ?_⟩) ?_ ?_
              rotate_left
              · intro w'
                go_simp
                with_reducible rfl
              rotate_left
              · simp only [Act.put, List.setIfInBounds_toArray, List.set_cons_zero, List.set_cons_succ, i64_w, i32_w]
                rfl
              refine pure_ (i := 23) (N := some 208) (v := ?_) (a' := ?_) #[true, true, true, true, true, true, true, true, true, true, true, true, true, true, true, true, true, true, true, true, true, true, true, true, false, false, false, false, false, false, false, false, false, false, false, false, false, false] rfl rfl (by kernel_rfl) (fun _ _ _ h => h) (Or.inl ⟨by rfl, ?_⟩) ?_ ?_
              rotate_left
              · intro w'
                go_simp
                with_reducible rfl
              rotate_left
              · simp only [Act.put, List.setIfInBounds_toArray, List.set_cons_zero, List.set_cons_succ, i64_w, i32_w]
                rfl
              refine pure_ (i := 25) (N := some 210) (v := ?_) (a' := ?_) #[true, true, true, true, true, true, true, true, true, true, true, true, true, true, true, true, true, true, true, true, true, true, true, true, false, true, false, false, false, false, false, false, false, false, false, false, false, false] rfl rfl (by kernel_rfl) (fun _ _ _ h => h) (Or.inl ⟨by rfl, ?_⟩) ?_ ?_
              rotate_left
              · intro w'
                go_simp
                with_reducible rfl
              rotate_left
              · simp only [Act.put, List.setIfInBounds_toArray, List.set_cons_zero, List.set_cons_succ, i64_w, i32_w]
                rfl
              refine pure_ (i := 26) (N := some 211) (v := ?_) (a' := ?_) #[true, true, true, true, true, true, true, true, true, true, true, true, true, true, true, true, true, true, true, true, true, true, true, true, false, true, true, false, false, false, false, false, false, false, false, false, false, false] rfl rfl (by kernel_rfl) (fun _ _ _ h => h) (Or.inl ⟨by rfl, ?_⟩) ?_ ?_
              rotate_left
              · intro w'
                go_simp
                with_reducible rfl
              rotate_left
              · simp only [Act.put, List.setIfInBounds_toArray, List.set_cons_zero, List.set_cons_succ, i64_w, i32_w]
                rfl
              refine one_ (i := 24) (N := some 209) #[true, true, true, true, true, true, true, true, true, true, true, true, true, true, true, true, true, true, true, true, true, true, true, true, true, true, true, false, false, false, false, false, false, false, false, false, false, false] rfl rfl (by kernel_rfl) (by decide) (fun K hK => ?_)
              refine goes_ Try.func42 (by kernel_rfl) rfl #[ptrR gr, .int .i64 (fn : Int)] (by rfl) rfl rfl (by simp only [List.map_toArray, List.map_cons, List.map_nil]; rfl) ?_
              with_reducible refine (runs_hasE w.heap.size gr s (fn : Int) bq hHs.out _ hHeld.2.2.1).mono ?_
              rintro e w63 ⟨rfl, hb⟩
              refine ⟨_, rfl, ?_⟩
              refine hK.out _ _ ⟨(below_step hHeld.1 hb), (hHeld.2.1.keep hb), (hHeld.2.2.1.keep hb), (Kd.R_below hHeld.2.2.2.1 hb), (Kd.R_below hHeld.2.2.2.2.1 hb), ((hHeld.2.2.2.2.2.1.keep hb).top), (keep hb hHeld.2.2.2.2.2.2.1), (keep hb hHeld.2.2.2.2.2.2.2.1), (keep hb hHeld.2.2.2.2.2.2.2.2.1), (keep hb hHeld.2.2.2.2.2.2.2.2.2.1), (keep hb hHeld.2.2.2.2.2.2.2.2.2.2)⟩ (fun hHeld => ?_)
              clear hK K
              refine norm_ (a' := ?_) ?_ ?_
              rotate_left
              · show Act.put _ (some 209) _ = _
                simp only [Act.put, List.setIfInBounds_toArray, List.set_cons_zero, List.set_cons_succ, i64_w, i32_w]
                rfl
              refine pure_ (i := 27) (N := some 212) (v := ?_) (a' := ?_) #[true, true, true, true, true, true, true, true, true, true, true, true, true, true, true, true, true, true, true, true, true, true, true, true, true, true, true, true, false, false, false, false, false, false, false, false, false, false] rfl rfl (by kernel_rfl) (fun _ _ _ h => h) (Or.inl ⟨by rfl, ?_⟩) ?_ ?_
              rotate_left
              · intro w'
                go_simp
                with_reducible rfl
              rotate_left
              · simp only [Act.put, List.setIfInBounds_toArray, List.set_cons_zero, List.set_cons_succ, i64_w, i32_w]
                rfl
              refine pure_ (i := 28) (N := some 213) (v := ?_) (a' := ?_) #[true, true, true, true, true, true, true, true, true, true, true, true, true, true, true, true, true, true, true, true, true, true, true, true, true, true, true, true, true, false, false, false, false, false, false, false, false, false] rfl rfl (by kernel_rfl) (fun _ _ _ h => h) (Or.inl ⟨by rfl, ?_⟩) ?_ ?_
              rotate_left
              · intro w'
                go_simp
                with_reducible rfl
              rotate_left
              · simp only [Act.put, List.setIfInBounds_toArray, List.set_cons_zero, List.set_cons_succ, i64_w, i32_w]
                rfl
              refine pure_ (i := 29) (N := some 214) (v := ?_) (a' := ?_) #[true, true, true, true, true, true, true, true, true, true, true, true, true, true, true, true, true, true, true, true, true, true, true, true, true, true, true, true, true, true, false, false, false, false, false, false, false, false] rfl rfl (by kernel_rfl) (fun _ _ _ h => h) (Or.inl ⟨by rfl, ?_⟩) ?_ ?_
              rotate_left
              · intro w'
                go_simp
                with_reducible rfl
              rotate_left
              · simp only [Act.put, List.setIfInBounds_toArray, List.set_cons_zero, List.set_cons_succ, i64_w, i32_w]
                rfl
              refine pure_ (i := 30) (N := some 215) (v := ?_) (a' := ?_) #[true, true, true, true, true, true, true, true, true, true, true, true, true, true, true, true, true, true, true, true, true, true, true, true, true, true, true, true, true, true, true, false, false, false, false, false, false, false] rfl rfl (by kernel_rfl) (fun _ _ _ h => h) (Or.inl ⟨by rfl, ?_⟩) ?_ ?_
              rotate_left
              · intro w'
                go_simp
                with_reducible rfl
              rotate_left
              · simp only [Act.put, List.setIfInBounds_toArray, List.set_cons_zero, List.set_cons_succ, i64_w, i32_w]
                rfl
              refine pure_ (i := 31) (N := some 216) (v := ?_) (a' := ?_) #[true, true, true, true, true, true, true, true, true, true, true, true, true, true, true, true, true, true, true, true, true, true, true, true, true, true, true, true, true, true, true, true, false, false, false, false, false, false] rfl rfl (by kernel_rfl) (fun _ _ _ h => h) (Or.inl ⟨by rfl, ?_⟩) ?_ ?_
              rotate_left
              · intro w'
                go_simp
                with_reducible rfl
              rotate_left
              · simp only [Act.put, List.setIfInBounds_toArray, List.set_cons_zero, List.set_cons_succ, i64_w, i32_w]
                rfl
              refine pure_ (i := 32) (N := some 217) (v := ?_) (a' := ?_) #[true, true, true, true, true, true, true, true, true, true, true, true, true, true, true, true, true, true, true, true, true, true, true, true, true, true, true, true, true, true, true, true, true, false, false, false, false, false] rfl rfl (by kernel_rfl) (fun _ _ _ h => h) (Or.inl ⟨by rfl, ?_⟩) ?_ ?_
              rotate_left
              · intro w'
                go_simp
                with_reducible rfl
              rotate_left
              · simp only [Act.put, List.setIfInBounds_toArray, List.set_cons_zero, List.set_cons_succ, i64_w, i32_w]
                rfl
              refine pure_ (i := 33) (N := some 218) (v := ?_) (a' := ?_) #[true, true, true, true, true, true, true, true, true, true, true, true, true, true, true, true, true, true, true, true, true, true, true, true, true, true, true, true, true, true, true, true, true, true, false, false, false, false] rfl rfl (by kernel_rfl) (fun _ _ _ h => h) (Or.inl ⟨by rfl, ?_⟩) ?_ ?_
              rotate_left
              · intro w'
                go_simp
                with_reducible rfl
              rotate_left
              · simp only [Act.put, List.setIfInBounds_toArray, List.set_cons_zero, List.set_cons_succ, i64_w, i32_w]
                rfl
              refine take_ (i := 34) (N := some 219) (v := ?_) (a' := ?_) #[true, true, true, true, true, true, true, true, true, true, true, true, true, true, true, true, true, true, true, true, true, true, true, true, true, true, true, true, true, true, true, true, true, true, true, false, false, false] rfl rfl (by kernel_rfl) (fun _ _ _ h => h) (Or.inl ⟨by rfl, ?_⟩) hHeld ?_ ?_
              rotate_left
              · rintro w' ⟨s0, s1, s2, s3, s4, s5, s6, s7, s8, s9, s10⟩
                go_simp
                with_reducible rfl
              rotate_left
              · simp only [Act.put, List.setIfInBounds_toArray, List.set_cons_zero, List.set_cons_succ, i64_w, i32_w]
                rfl
              refine pure_ (i := 35) (N := some 220) (v := ?_) (a' := ?_) #[true, true, true, true, true, true, true, true, true, true, true, true, true, true, true, true, true, true, true, true, true, true, true, true, true, true, true, true, true, true, true, true, true, true, true, true, false, false] rfl rfl (by kernel_rfl) (fun _ _ _ h => h) (Or.inl ⟨by rfl, ?_⟩) ?_ ?_
              rotate_left
              · intro w'
                go_simp
                with_reducible rfl
              rotate_left
              · simp only [Act.put, List.setIfInBounds_toArray, List.set_cons_zero, List.set_cons_succ, i64_w, i32_w]
                rfl
              refine pure_ (i := 36) (N := some 221) (v := ?_) (a' := ?_) #[true, true, true, true, true, true, true, true, true, true, true, true, true, true, true, true, true, true, true, true, true, true, true, true, true, true, true, true, true, true, true, true, true, true, true, true, true, false] rfl rfl (by kernel_rfl) (fun _ _ _ h => h) (Or.inl ⟨by rfl, ?_⟩) ?_ ?_
              rotate_left
              · intro w'
                go_simp
                with_reducible rfl
              rotate_left
              · simp only [Act.put, List.setIfInBounds_toArray, List.set_cons_zero, List.set_cons_succ, i64_w, i32_w]
                rfl
              refine pure_ (i := 37) (N := some 222) (v := ?_) (a' := ?_) #[true, true, true, true, true, true, true, true, true, true, true, true, true, true, true, true, true, true, true, true, true, true, true, true, true, true, true, true, true, true, true, true, true, true, true, true, true, true] rfl rfl (by kernel_rfl) (fun _ _ _ h => h) (Or.inl ⟨by rfl, ?_⟩) ?_ ?_
              rotate_left
              · intro w'
                go_simp
                with_reducible rfl
              rotate_left
              · simp only [Act.put, List.setIfInBounds_toArray, List.set_cons_zero, List.set_cons_succ, i64_w, i32_w]
                rfl
              refine done_ (by kernel_rfl) ?_
              replace HB := Aside0.mk hHeld.1
              replace SX := Aside0.mk hHeld.2.1
              replace R := Aside0.mk hHeld.2.2.1
              replace VA := Aside0.mk hHeld.2.2.2.1
              replace VW := Aside0.mk hHeld.2.2.2.2.1
              replace HK := Aside0.mk hHeld.2.2.2.2.2.1
              replace Q0 := Aside0.mk hHeld.2.2.2.2.2.2.1
              replace Q1 := Aside0.mk hHeld.2.2.2.2.2.2.2.1
              replace R0 := Aside0.mk hHeld.2.2.2.2.2.2.2.2.1
              replace R1 := Aside0.mk hHeld.2.2.2.2.2.2.2.2.2.1
              replace S0 := Aside0.mk hHeld.2.2.2.2.2.2.2.2.2.2
              clear hHeld
              go_wp2_with fail
              go_roundg kk
              case measure => omega
              case rel => exact ⟨i + 1, gr, s, LS ++ [T], by omega, rfl, by go_num, GE_R, hsl, ⟨by rw [List.length_append, HLS.out.1]; rfl, fun x hx => by rcases List.mem_append.1 hx with hx | hx; exact HLS.out.2 x hx; rw [List.mem_singleton.1 hx]; exact hlen.out⟩, HB, SX, R, HK⟩
            · as_aux_lemma =>
              have hin1 : (0 : Int) ≤ fr := by omega
              have hin2 : ¬ fr < 64 := by omega
              have hHs : Aside0 ((decide (0 ≤ fr) && decide (fr < 64) && s.getD fr.toNat false) = false) := ⟨by rw [decide_eq_false hin2, Bool.and_false, Bool.false_and]⟩
              have hin3 : decide (fr < 64) = false := decide_eq_false hin2
              go_wp2_with fail
              refine start_ (n := 38) (S := fun w' => Below w.heap.size w w' ∧ Blk w' gx 30 (setArr s) ∧ RunsAt w' w.heap.size gr (spansOf s) ∧ Kd.R k24 24 w' w.heap.size (fun _ => True) (.slice A2 (T).length c2) (T) ∧ Kd.R k24 24 w' w.heap.size (fun _ => True) (.slice A3 (T).length c3) (T) ∧ KeptAt w' w.heap.size gB (fun k => w'.heap.size ≤ k) ([]) (LS ++ [T]) ([]) ∧ w'.cell? ⟨w25.heap.size, 0, none⟩ = some (.int .i64 n1) ∧ w'.cell? ⟨w25.heap.size, 1, none⟩ = some (.int .i64 n2) ∧ w'.cell? ⟨w25.heap.size + 1, 0, none⟩ = some (.int .i64 n1) ∧ w'.cell? ⟨w25.heap.size + 1, 1, none⟩ = some (.int .i64 n2)) (ds := []) #[false, false, false, false, false, false, false, false, false, false, false, false, false, false, false, false, false, false, false, false, false, false, false, false, false, false, false, false, false, false, false, false, false, false, false, false, false, false] (by kernel_rfl) rfl rfl ⟨(below_drew1 HB.out), (SX.out.keep (below_drew1 (Below.refl _ _))), (R.out.keep (below_drew1 (Below.refl _ _))), (Kd.R_below VA.out (below_drew1 (Below.refl _ _))), (Kd.R_below VW.out (below_drew1 (Below.refl _ _))), ((HK.out.keep (below_drew1 (Below.refl _ _))).top), (keep (below_drew1 (Below.refl _ _)) Q0.out), (keep (below_drew1 (Below.refl _ _)) Q1.out), (keep (below_drew1 (Below.refl _ _)) R0.out), (keep (below_drew1 (Below.refl _ _)) R1.out)⟩ (fun hHeld => ?_)
              refine pure_ (i := 0) (N := some 185) (v := ?_) (a' := ?_) #[true, false, false, false, false, false, false, false, false, false, false, false, false, false, false, false, false, false, false, false, false, false, false, false, false, false, false, false, false, false, false, false, false, false, false, false, false, false] rfl rfl (by kernel_rfl) (fun _ _ _ h => h) (Or.inl ⟨by rfl, ?_⟩) ?_ ?_
              rotate_left
              · intro w'
                go_simp
                with_reducible rfl
              rotate_left
              · simp only [Act.put, List.setIfInBounds_toArray, List.set_cons_zero, List.set_cons_succ, i64_w, i32_w]
                rfl
              refine pure_ (i := 1) (N := some 186) (v := ?_) (a' := ?_) #[true, true, false, false, false, false, false, false, false, false, false, false, false, false, false, false, false, false, false, false, false, false, false, false, false, false, false, false, false, false, false, false, false, false, false, false, false, false] rfl rfl (by kernel_rfl) (fun _ _ _ h => h) (Or.inl ⟨by rfl, ?_⟩) ?_ ?_
              rotate_left
              · intro w'
                go_simp
                with_reducible rfl
              rotate_left
              · simp only [Act.put, List.setIfInBounds_toArray, List.set_cons_zero, List.set_cons_succ, i64_w, i32_w]
                rfl
              refine one_ (i := 2) (N := some 187) #[true, true, true, false, false, false, false, false, false, false, false, false, false, false, false, false, false, false, false, false, false, false, false, false, false, false, false, false, false, false, false, false, false, false, false, false, false, false] rfl rfl (by kernel_rfl) (by decide) (fun K hK => ?_)
              refine goes_ Try.func26 (by kernel_rfl) rfl #[.slice A2 T.length c2, .slice A3 T.length c3] (by rfl) rfl rfl (by simp only [List.map_toArray, List.map_cons, List.map_nil]; rfl) ?_
              with_reducible refine (same_S _ _ _ _ hHeld.2.2.2.1 hHeld.2.2.2.2.1 (by have := hlen.out; omega)).mono ?_
              rintro e w60 ⟨rfl, hb⟩
              refine ⟨_, rfl, ?_⟩
              refine hK.out _ _ ⟨(below_step hHeld.1 hb), (hHeld.2.1.keep hb), (hHeld.2.2.1.keep hb), (Kd.R_below hHeld.2.2.2.1 hb), (Kd.R_below hHeld.2.2.2.2.1 hb), ((hHeld.2.2.2.2.2.1.keep hb).top), (keep hb hHeld.2.2.2.2.2.2.1), (keep hb hHeld.2.2.2.2.2.2.2.1), (keep hb hHeld.2.2.2.2.2.2.2.2.1), (keep hb hHeld.2.2.2.2.2.2.2.2.2)⟩ (fun hHeld => ?_)
              clear hK K
              refine norm_ (a' := ?_) ?_ ?_
              rotate_left
              · show Act.put _ (some 187) _ = _
                simp only [Act.put, List.setIfInBounds_toArray, List.set_cons_zero, List.set_cons_succ, i64_w, i32_w]
                rfl
              refine pure_ (i := 3) (N := some 188) (v := ?_) (a' := ?_) #[true, true, true, true, false, false, false, false, false, false, false, false, false, false, false, false, false, false, false, false, false, false, false, false, false, false, false, false, false, false, false, false, false, false, false, false, false, false] rfl rfl (by kernel_rfl) (fun _ _ _ h => h) (Or.inl ⟨by rfl, ?_⟩) ?_ ?_
              rotate_left
              · intro w'
                go_simp
                with_reducible rfl
              rotate_left
              · simp only [Act.put, List.setIfInBounds_toArray, List.set_cons_zero, List.set_cons_succ, i64_w, i32_w]
                rfl
              refine pure_ (i := 4) (N := some 189) (v := ?_) (a' := ?_) #[true, true, true, true, true, false, false, false, false, false, false, false, false, false, false, false, false, false, false, false, false, false, false, false, false, false, false, false, false, false, false, false, false, false, false, false, false, false] rfl rfl (by kernel_rfl) (fun _ _ _ h => h) (Or.inl ⟨by rfl, ?_⟩) ?_ ?_
              rotate_left
              · intro w'
                go_simp
                with_reducible rfl
              rotate_left
              · simp only [Act.put, List.setIfInBounds_toArray, List.set_cons_zero, List.set_cons_succ, i64_w, i32_w]
                rfl
              refine pure_ (i := 5) (N := some 190) (v := ?_) (a' := ?_) #[true, true, true, true, true, true, false, false, false, false, false, false, false, false, false, false, false, false, false, false, false, false, false, false, false, false, false, false, false, false, false, false, false, false, false, false, false, false] rfl rfl (by kernel_rfl) (fun _ _ _ h => h) (Or.inl ⟨by rfl, ?_⟩) ?_ ?_
              rotate_left
              · intro w'
                go_simp
                with_reducible rfl
              rotate_left
              · simp only [Act.put, List.setIfInBounds_toArray, List.set_cons_zero, List.set_cons_succ, i64_w, i32_w]
                rfl
              refine take_ (i := 7) (N := some 192) (v := ?_) (a' := ?_) #[true, true, true, true, true, true, false, true, false, false, false, false, false, false, false, false, false, false, false, false, false, false, false, false, false, false, false, false, false, false, false, false, false, false, false, false, false, false] rfl rfl (by kernel_rfl) (fun _ _ _ h => h) (Or.inl ⟨by rfl, ?_⟩) hHeld ?_ ?_
              rotate_left
              · rintro w' ⟨s0, s1, s2, s3, s4, s5, s6, s7, s8, s9⟩
                refine row_yields 30 (.tmp 9) ?_ gx ?_ 30 (setArr s) (0, 0) _ s1.hd Try.underlying30 rfl (by rw [setArr_size, hsl.out] <;> exact info30)
                · rfl
                · rfl
              rotate_left
              · simp only [Act.put, List.setIfInBounds_toArray, List.set_cons_zero, List.set_cons_succ, i64_w, i32_w]
                rfl
              refine one_ (i := 6) (N := some 191) #[true, true, true, true, true, true, true, true, false, false, false, false, false, false, false, false, false, false, false, false, false, false, false, false, false, false, false, false, false, false, false, false, false, false, false, false, false, false] rfl rfl (by kernel_rfl) (by decide) (fun K hK => ?_)
              refine goes_ Try.func33 (by kernel_rfl) rfl #[ptrR gr] (by rfl) rfl rfl (by simp only [List.map_toArray, List.map_cons, List.map_nil]; rfl) ?_
              with_reducible refine (runs_cnt w.heap.size gr s n hn.out _ hHeld.2.2.1).mono ?_
              rintro e w61 ⟨rfl, hb⟩
              refine ⟨_, rfl, ?_⟩
              refine hK.out _ _ ⟨(below_step hHeld.1 hb), (hHeld.2.1.keep hb), (hHeld.2.2.1.keep hb), (Kd.R_below hHeld.2.2.2.1 hb), (Kd.R_below hHeld.2.2.2.2.1 hb), ((hHeld.2.2.2.2.2.1.keep hb).top), (keep hb hHeld.2.2.2.2.2.2.1), (keep hb hHeld.2.2.2.2.2.2.2.1), (keep hb hHeld.2.2.2.2.2.2.2.2.1), (keep hb hHeld.2.2.2.2.2.2.2.2.2)⟩ (fun hHeld => ?_)
              clear hK K
              refine norm_ (a' := ?_) ?_ ?_
              rotate_left
              · show Act.put _ (some 191) _ = _
                simp only [Act.put, List.setIfInBounds_toArray, List.set_cons_zero, List.set_cons_succ, i64_w, i32_w]
                rfl
              refine one_ (i := 8) (N := some 193) #[true, true, true, true, true, true, true, true, true, false, false, false, false, false, false, false, false, false, false, false, false, false, false, false, false, false, false, false, false, false, false, false, false, false, false, false, false, false] rfl rfl (by kernel_rfl) (by decide) (fun K hK => ?_)
              refine goes_ Try.func25 (by kernel_rfl) rfl #[.agg (setArr s)] (by rfl) rfl rfl (by simp only [List.map_toArray, List.map_cons, List.map_nil]; rfl) ?_
              with_reducible refine (set_cnt s n hsl.out hn.out _).mono ?_
              rintro e w62 ⟨rfl, hb⟩
              refine ⟨_, rfl, ?_⟩
              refine hK.out _ _ ⟨(below_step hHeld.1 hb), (hHeld.2.1.keep hb), (hHeld.2.2.1.keep hb), (Kd.R_below hHeld.2.2.2.1 hb), (Kd.R_below hHeld.2.2.2.2.1 hb), ((hHeld.2.2.2.2.2.1.keep hb).top), (keep hb hHeld.2.2.2.2.2.2.1), (keep hb hHeld.2.2.2.2.2.2.2.1), (keep hb hHeld.2.2.2.2.2.2.2.2.1), (keep hb hHeld.2.2.2.2.2.2.2.2.2)⟩ (fun hHeld => ?_)
              clear hK K
              refine norm_ (a' := ?_) ?_ ?_
              rotate_left
              · show Act.put _ (some 193) _ = _
                simp only [Act.put, List.setIfInBounds_toArray, List.set_cons_zero, List.set_cons_succ, i64_w, i32_w]
                rfl
              refine pure_ (i := 9) (N := some 194) (v := ?_) (a' := ?_) #[true, true, true, true, true, true, true, true, true, true, false, false, false, false, false, false, false, false, false, false, false, false, false, false, false, false, false, false, false, false, false, false, false, false, false, false, false, false] rfl rfl (by kernel_rfl) (fun _ _ _ h => h) (Or.inl ⟨by rfl, ?_⟩) ?_ ?_
              rotate_left
              · intro w'
                go_simp
                with_reducible rfl
              rotate_left
              · simp only [Act.put, List.setIfInBounds_toArray, List.set_cons_zero, List.set_cons_succ, i64_w, i32_w]
                rfl
              refine pure_ (i := 10) (N := some 195) (v := ?_) (a' := ?_) #[true, true, true, true, true, true, true, true, true, true, true, false, false, false, false, false, false, false, false, false, false, false, false, false, false, false, false, false, false, false, false, false, false, false, false, false, false, false] rfl rfl (by kernel_rfl) (fun _ _ _ h => h) (Or.inl ⟨by rfl, ?_⟩) ?_ ?_
              rotate_left
              · intro w'
                go_simp
                with_reducible rfl
              rotate_left
              · simp only [Act.put, List.setIfInBounds_toArray, List.set_cons_zero, List.set_cons_succ, i64_w, i32_w]
                rfl
              refine pure_ (i := 11) (N := some 196) (v := ?_) (a' := ?_) #[true, true, true, true, true, true, true, true, true, true, true, true, false, false, false, false, false, false, false, false, false, false, false, false, false, false, false, false, false, false, false, false, false, false, false, false, false, false] rfl rfl (by kernel_rfl) (fun _ _ _ h => h) (Or.inl ⟨by rfl, ?_⟩) ?_ ?_
              rotate_left
              · intro w'
                go_simp
                with_reducible rfl
              rotate_left
              · simp only [Act.put, List.setIfInBounds_toArray, List.set_cons_zero, List.set_cons_succ, i64_w, i32_w]
                rfl
              refine take_ (i := 12) (N := some 197) (v := ?_) (a' := ?_) #[true, true, true, true, true, true, true, true, true, true, true, true, true, false, false, false, false, false, false, false, false, false, false, false, false, false, false, false, false, false, false, false, false, false, false, false, false, false] rfl rfl (by kernel_rfl) (fun _ _ _ h => h) (Or.inl ⟨by rfl, ?_⟩) hHeld ?_ ?_
              rotate_left
              · rintro w' ⟨s0, s1, s2, s3, s4, s5, s6, s7, s8, s9⟩
                go_simp
                with_reducible rfl
              rotate_left
              · simp only [Act.put, List.setIfInBounds_toArray, List.set_cons_zero, List.set_cons_succ, i64_w, i32_w]
                rfl
              refine take_ (i := 13) (N := some 198) (v := ?_) (a' := ?_) #[true, true, true, true, true, true, true, true, true, true, true, true, true, true, false, false, false, false, false, false, false, false, false, false, false, false, false, false, false, false, false, false, false, false, false, false, false, false] rfl rfl (by kernel_rfl) (fun _ _ _ h => h) (Or.inl ⟨by rfl, ?_⟩) hHeld ?_ ?_
              rotate_left
              · rintro w' ⟨s0, s1, s2, s3, s4, s5, s6, s7, s8, s9⟩
                go_simp
                with_reducible rfl
              rotate_left
              · simp only [Act.put, List.setIfInBounds_toArray, List.set_cons_zero, List.set_cons_succ, i64_w, i32_w]
                rfl
              refine pure_ (i := 14) (N := some 199) (v := ?_) (a' := ?_) #[true, true, true, true, true, true, true, true, true, true, true, true, true, true, true, false, false, false, false, false, false, false, false, false, false, false, false, false, false, false, false, false, false, false, false, false, false, false] rfl rfl (by kernel_rfl) (fun _ _ _ h => h) (Or.inl ⟨by rfl, ?_⟩) ?_ ?_
              rotate_left
              · intro w'
                go_simp
                with_reducible rfl
              rotate_left
              · simp only [Act.put, List.setIfInBounds_toArray, List.set_cons_zero, List.set_cons_succ, i64_w, i32_w]
                rfl
              refine pure_ (i := 15) (N := some 200) (v := ?_) (a' := ?_) #[true, true, true, true, true, true, true, true, true, true, true, true, true, true, true, true, false, false, false, false, false, false, false, false, false, false, false, false, false, false, false, false, false, false, false, false, false, false] rfl rfl (by kernel_rfl) (fun _ _ _ h => h) (Or.inl ⟨by rfl, ?_⟩) ?_ ?_
              rotate_left
              · intro w'
                go_simp
                with_reducible rfl
              rotate_left
              · simp only [Act.put, List.setIfInBounds_toArray, List.set_cons_zero, List.set_cons_succ, i64_w, i32_w]
                rfl
              refine pure_ (i := 16) (N := some 201) (v := ?_) (a' := ?_) #[true, true, true, true, true, true, true, true, true, true, true, true, true, true, true, true, true, false, false, false, false, false, false, false, false, false, false, false, false, false, false, false, false, false, false, false, false, false] rfl rfl (by kernel_rfl) (fun _ _ _ h => h) (Or.inl ⟨by rfl, ?_⟩) ?_ ?_
              rotate_left
              · intro w'
                go_simp
                with_reducible rfl
              rotate_left
              · simp only [Act.put, List.setIfInBounds_toArray, List.set_cons_zero, List.set_cons_succ, i64_w, i32_w]
                rfl
              refine pure_ (i := 17) (N := some 202) (v := ?_) (a' := ?_) #[true, true, true, true, true, true, true, true, true, true, true, true, true, true, true, true, true, true, false, false, false, false, false, false, false, false, false, false, false, false, false, false, false, false, false, false, false, false] rfl rfl (by kernel_rfl) (fun _ _ _ h => h) (Or.inl ⟨by rfl, ?_⟩) ?_ ?_
              rotate_left
              · intro w'
                go_simp
                with_reducible rfl
              rotate_left
              · simp only [Act.put, List.setIfInBounds_toArray, List.set_cons_zero, List.set_cons_succ, i64_w, i32_w]
                rfl
              refine pure_ (i := 18) (N := some 203) (v := ?_) (a' := ?_) #[true, true, true, true, true, true, true, true, true, true, true, true, true, true, true, true, true, true, true, false, false, false, false, false, false, false, false, false, false, false, false, false, false, false, false, false, false, false] rfl rfl (by kernel_rfl) (fun _ _ _ h => h) (Or.inl ⟨by rfl, ?_⟩) ?_ ?_
              rotate_left
              · intro w'
                go_simp
                with_reducible rfl
              rotate_left
              · simp only [Act.put, List.setIfInBounds_toArray, List.set_cons_zero, List.set_cons_succ, i64_w, i32_w]
                rfl
              refine pure_ (i := 19) (N := some 204) (v := ?_) (a' := ?_) #[true, true, true, true, true, true, true, true, true, true, true, true, true, true, true, true, true, true, true, true, false, false, false, false, false, false, false, false, false, false, false, false, false, false, false, false, false, false] rfl rfl (by kernel_rfl) (fun _ _ _ h => h) (Or.inl ⟨by rfl, ?_⟩) ?_ ?_
              rotate_left
              · intro w'
                go_simp
                with_reducible rfl
              rotate_left
              · simp only [Act.put, List.setIfInBounds_toArray, List.set_cons_zero, List.set_cons_succ, i64_w, i32_w]
                rfl
              refine pure_ (i := 20) (N := some 205) (v := ?_) (a' := ?_) #[true, true, true, true, true, true, true, true, true, true, true, true, true, true, true, true, true, true, true, true, true, false, false, false, false, false, false, false, false, false, false, false, false, false, false, false, false, false] rfl rfl (by kernel_rfl) (fun _ _ _ h => h) (Or.inl ⟨by rfl, ?_⟩) ?_ ?_
              rotate_left
              · intro w'
                go_simp
                with_reducible rfl
              rotate_left
              · simp only [Act.put, List.setIfInBounds_toArray, List.set_cons_zero, List.set_cons_succ, i64_w, i32_w]
                rfl
              refine pure_ (i := 21) (N := some 206) (v := ?_) (a' := ?_) #[true, true, true, true, true, true, true, true, true, true, true, true, true, true, true, true, true, true, true, true, true, true, false, false, false, false, false, false, false, false, false, false, false, false, false, false, false, false] rfl rfl (by kernel_rfl) (fun _ _ _ h => h) (Or.inl ⟨by rfl, ?_⟩) ?_ ?_
              rotate_left
              · intro w'
                go_simp
                with_reducible rfl
              rotate_left
              · simp only [Act.put, List.setIfInBounds_toArray, List.set_cons_zero, List.set_cons_succ, i64_w, i32_w]
                rfl
              refine pure_ (i := 22) (N := some 207) (v := ?_) (a' := ?_) #[true, true, true, true, true, true, true, true, true, true, true, true, true, true, true, true, true, true, true, true, true, true, true, false, false, false, false, false, false, false, false, false, false, false, false, false, false, false] rfl rfl (by kernel_rfl) (fun _ _ _ h => h) (Or.inl ⟨by rfl, ?_⟩) ?_ ?_
              rotate_left
              · intro w'
                go_simp
                with_reducible rfl
              rotate_left
              · simp only [Act.put, List.setIfInBounds_toArray, List.set_cons_zero, List.set_cons_succ, i64_w, i32_w]
                rfl
              refine pure_ (i := 23) (N := some 208) (v := ?_) (a' := ?_) #[true, true, true, true, true, true, true, true, true, true, true, true, true, true, true, true, true, true, true, true, true, true, true, true, false, false, false, false, false, false, false, false, false, false, false, false, false, false] rfl rfl (by kernel_rfl) (fun _ _ _ h => h) (Or.inl ⟨by rfl, ?_⟩) ?_ ?_
              rotate_left
              · intro w'
                go_simp
                with_reducible rfl
              rotate_left
              · simp only [Act.put, List.setIfInBounds_toArray, List.set_cons_zero, List.set_cons_succ, i64_w, i32_w]
                rfl
              refine pure_ (i := 25) (N := some 210) (v := ?_) (a' := ?_) #[true, true, true, true, true, true, true, true, true, true, true, true, true, true, true, true, true, true, true, true, true, true, true, true, false, true, false, false, false, false, false, false, false, false, false, false, false, false] rfl rfl (by kernel_rfl) (fun _ _ _ h => h) (Or.inl ⟨by rfl, ?_⟩) ?_ ?_
              rotate_left
              · intro w'
                go_simp
                with_reducible rfl
              rotate_left
              · simp only [Act.put, List.setIfInBounds_toArray, List.set_cons_zero, List.set_cons_succ, i64_w, i32_w]
                rfl
              refine pure_ (i := 26) (N := some 211) (v := ?_) (a' := ?_) #[true, true, true, true, true, true, true, true, true, true, true, true, true, true, true, true, true, true, true, true, true, true, true, true, false, true, true, false, false, false, false, false, false, false, false, false, false, false] rfl rfl (by kernel_rfl) (fun _ _ _ h => h) (Or.inl ⟨by rfl, ?_⟩) ?_ ?_
              rotate_left
              · intro w'
                go_simp
                with_reducible rfl
              rotate_left
              · simp only [Act.put, List.setIfInBounds_toArray, List.set_cons_zero, List.set_cons_succ, i64_w, i32_w]
                rfl
              refine one_ (i := 24) (N := some 209) #[true, true, true, true, true, true, true, true, true, true, true, true, true, true, true, true, true, true, true, true, true, true, true, true, true, true, true, false, false, false, false, false, false, false, false, false, false, false] rfl rfl (by kernel_rfl) (by decide) (fun K hK => ?_)
              refine goes_ Try.func42 (by kernel_rfl) rfl #[ptrR gr, .int .i64 fr] (by rfl) rfl rfl (by simp only [List.map_toArray, List.map_cons, List.map_nil]; rfl) ?_
              with_reducible refine (runs_hasE w.heap.size gr s fr false hHs.out _ hHeld.2.2.1).mono ?_
              rintro e w63 ⟨rfl, hb⟩
              refine ⟨_, rfl, ?_⟩
              refine hK.out _ _ ⟨(below_step hHeld.1 hb), (hHeld.2.1.keep hb), (hHeld.2.2.1.keep hb), (Kd.R_below hHeld.2.2.2.1 hb), (Kd.R_below hHeld.2.2.2.2.1 hb), ((hHeld.2.2.2.2.2.1.keep hb).top), (keep hb hHeld.2.2.2.2.2.2.1), (keep hb hHeld.2.2.2.2.2.2.2.1), (keep hb hHeld.2.2.2.2.2.2.2.2.1), (keep hb hHeld.2.2.2.2.2.2.2.2.2)⟩ (fun hHeld => ?_)
              clear hK K
              refine norm_ (a' := ?_) ?_ ?_
              rotate_left
              · show Act.put _ (some 209) _ = _
                simp only [Act.put, List.setIfInBounds_toArray, List.set_cons_zero, List.set_cons_succ, i64_w, i32_w]
                rfl
              refine pure_ (i := 27) (N := some 212) (v := ?_) (a' := ?_) #[true, true, true, true, true, true, true, true, true, true, true, true, true, true, true, true, true, true, true, true, true, true, true, true, true, true, true, true, false, false, false, false, false, false, false, false, false, false] rfl rfl (by kernel_rfl) (fun _ _ _ h => h) (Or.inl ⟨by rfl, ?_⟩) ?_ ?_
              rotate_left
              · intro w'
                go_simp
                with_reducible rfl
              rotate_left
              · simp only [Act.put, List.setIfInBounds_toArray, List.set_cons_zero, List.set_cons_succ, i64_w, i32_w]
                rfl
              refine pure_ (i := 28) (N := some 213) (v := ?_) (a' := ?_) #[true, true, true, true, true, true, true, true, true, true, true, true, true, true, true, true, true, true, true, true, true, true, true, true, true, true, true, true, true, false, false, false, false, false, false, false, false, false] rfl rfl (by kernel_rfl) (fun _ _ _ h => h) (Or.inl ⟨by rfl, ?_⟩) ?_ ?_
              rotate_left
              · intro w'
                go_simp
                with_reducible rfl
              rotate_left
              · simp only [Act.put, List.setIfInBounds_toArray, List.set_cons_zero, List.set_cons_succ, i64_w, i32_w]
                rfl
              refine pure_ (i := 29) (N := some 214) (v := ?_) (a' := ?_) #[true, true, true, true, true, true, true, true, true, true, true, true, true, true, true, true, true, true, true, true, true, true, true, true, true, true, true, true, true, true, false, false, false, false, false, false, false, false] rfl rfl (by kernel_rfl) (fun _ _ _ h => h) (Or.inl ⟨by rfl, ?_⟩) ?_ ?_
              rotate_left
              · intro w'
                go_simp
                with_reducible rfl
              rotate_left
              · simp only [Act.put, List.setIfInBounds_toArray, List.set_cons_zero, List.set_cons_succ, i64_w, i32_w]
                rfl
              refine pure_ (i := 30) (N := some 215) (v := ?_) (a' := ?_) #[true, true, true, true, true, true, true, true, true, true, true, true, true, true, true, true, true, true, true, true, true, true, true, true, true, true, true, true, true, true, true, false, false, false, false, false, false, false] rfl rfl (by kernel_rfl) (fun _ _ _ h => h) (Or.inl ⟨by rfl, ?_⟩) ?_ ?_
              rotate_left
              · intro w'
                go_simp
                with_reducible rfl
              rotate_left
              · simp only [Act.put, List.setIfInBounds_toArray, List.set_cons_zero, List.set_cons_succ, i64_w, i32_w]
                rfl
              refine pure_ (i := 31) (N := some 216) (v := ?_) (a' := ?_) #[true, true, true, true, true, true, true, true, true, true, true, true, true, true, true, true, true, true, true, true, true, true, true, true, true, true, true, true, true, true, true, true, false, false, false, false, false, false] rfl rfl (by kernel_rfl) (fun _ _ _ h => h) (Or.inl ⟨by rfl, ?_⟩) ?_ ?_
              rotate_left
              · intro w'
                go_simp
                with_reducible rfl
              rotate_left
              · simp only [Act.put, List.setIfInBounds_toArray, List.set_cons_zero, List.set_cons_succ, i64_w, i32_w]
                rfl
              refine pure_ (i := 32) (N := some 217) (v := undef) (a' := ?_) #[true, true, true, true, true, true, true, true, true, true, true, true, true, true, true, true, true, true, true, true, true, true, true, true, true, true, true, true, true, true, true, true, true, false, false, false, false, false] rfl rfl (by kernel_rfl) (fun _ _ _ h => h) (Or.inr ⟨by rfl, rfl⟩) ?_ ?_
              rotate_left
              · simp only [Act.put, List.setIfInBounds_toArray, List.set_cons_zero, List.set_cons_succ, i64_w, i32_w]
                rfl
              refine pure_ (i := 33) (N := some 218) (v := undef) (a' := ?_) #[true, true, true, true, true, true, true, true, true, true, true, true, true, true, true, true, true, true, true, true, true, true, true, true, true, true, true, true, true, true, true, true, true, true, false, false, false, false] rfl rfl (by kernel_rfl) (fun _ _ _ h => h) (Or.inr ⟨by rfl, rfl⟩) ?_ ?_
              rotate_left
              · simp only [Act.put, List.setIfInBounds_toArray, List.set_cons_zero, List.set_cons_succ, i64_w, i32_w]
                rfl
              refine pure_ (i := 34) (N := some 219) (v := undef) (a' := ?_) #[true, true, true, true, true, true, true, true, true, true, true, true, true, true, true, true, true, true, true, true, true, true, true, true, true, true, true, true, true, true, true, true, true, true, true, false, false, false] rfl rfl (by kernel_rfl) (fun _ _ _ h => h) (Or.inr ⟨by rfl, rfl⟩) ?_ ?_
              rotate_left
              · simp only [Act.put, List.setIfInBounds_toArray, List.set_cons_zero, List.set_cons_succ, i64_w, i32_w]
                rfl
              refine pure_ (i := 35) (N := some 220) (v := ?_) (a' := ?_) #[true, true, true, true, true, true, true, true, true, true, true, true, true, true, true, true, true, true, true, true, true, true, true, true, true, true, true, true, true, true, true, true, true, true, true, true, false, false] rfl rfl (by kernel_rfl) (fun _ _ _ h => h) (Or.inl ⟨by rfl, ?_⟩) ?_ ?_
              rotate_left
              · intro w'
                go_simp
                with_reducible rfl
              rotate_left
              · simp only [Act.put, List.setIfInBounds_toArray, List.set_cons_zero, List.set_cons_succ, i64_w, i32_w]
                rfl
              refine pure_ (i := 36) (N := some 221) (v := ?_) (a' := ?_) #[true, true, true, true, true, true, true, true, true, true, true, true, true, true, true, true, true, true, true, true, true, true, true, true, true, true, true, true, true, true, true, true, true, true, true, true, true, false] rfl rfl (by kernel_rfl) (fun _ _ _ h => h) (Or.inl ⟨by rfl, ?_⟩) ?_ ?_
              rotate_left
              · intro w'
                go_simp
                with_reducible rfl
              rotate_left
              · simp only [Act.put, List.setIfInBounds_toArray, List.set_cons_zero, List.set_cons_succ, i64_w, i32_w]
                rfl
              refine pure_ (i := 37) (N := some 222) (v := ?_) (a' := ?_) #[true, true, true, true, true, true, true, true, true, true, true, true, true, true, true, true, true, true, true, true, true, true, true, true, true, true, true, true, true, true, true, true, true, true, true, true, true, true] rfl rfl (by kernel_rfl) (fun _ _ _ h => h) (Or.inl ⟨by rfl, ?_⟩) ?_ ?_
              rotate_left
              · intro w'
                go_simp
                with_reducible rfl
              rotate_left
              · simp only [Act.put, List.setIfInBounds_toArray, List.set_cons_zero, List.set_cons_succ, i64_w, i32_w]
                rfl
              refine done_ (by kernel_rfl) ?_
              replace HB := Aside0.mk hHeld.1
              replace SX := Aside0.mk hHeld.2.1
              replace R := Aside0.mk hHeld.2.2.1
              replace VA := Aside0.mk hHeld.2.2.2.1
              replace VW := Aside0.mk hHeld.2.2.2.2.1
              replace HK := Aside0.mk hHeld.2.2.2.2.2.1
              replace Q0 := Aside0.mk hHeld.2.2.2.2.2.2.1
              replace Q1 := Aside0.mk hHeld.2.2.2.2.2.2.2.1
              replace R0 := Aside0.mk hHeld.2.2.2.2.2.2.2.2.1
              replace R1 := Aside0.mk hHeld.2.2.2.2.2.2.2.2.2
              clear hHeld
              go_wp2_with fail
              go_roundg kk
              case measure => omega
              case rel => exact ⟨i + 1, gr, s, LS ++ [T], by omega, rfl, by go_num, GE_R, hsl, ⟨by rw [List.length_append, HLS.out.1]; rfl, fun x hx => by rcases List.mem_append.1 hx with hx | hx; exact HLS.out.2 x hx; rw [List.mem_singleton.1 hx]; exact hlen.out⟩, HB, SX, R, HK⟩
    · have hlt' : ¬ (i : Int) ≤ (l.length : Int) := by omega
      have HLn : Aside0 (LS.length ≤ 51) := ⟨by have h1 := HLS.out.1; have h2 := Hl.out; omega⟩
      clear hi
      go_wp2_with fail
      refine (runs_next_nil 0 (by decide) (by decide) _).mono ?_
      rintro e w26 ⟨rfl, hB⟩
      replace HB := Aside0.mk (below_step HB.out hB)
      replace HK := Aside0.mk ((HK.out.keep hB).top)
      clear hB
      go_wp2_with fail
      refine calls_abs (fun X => Below w.heap.size w X ∧ KeptAt X w.heap.size gB (fun k => X.heap.size ≤ k) [] LS []) ⟨below_step HB.out (by repeat (first | exact Below.refl _ _ | apply below_alloc | refine Below.setCell ?_ (Nat.le_refl _) _ | refine Below.setCell ?_ (by simp) _)), (HK.out.keep (by repeat (first | exact Below.refl _ _ | apply below_alloc | refine Below.setCell ?_ (Nat.le_refl _) _ | refine Below.setCell ?_ (by simp) _))).top⟩ ?_
      rintro w27 ⟨h_HB, h_HK⟩
      replace HB := Aside0.mk h_HB
      replace HK := Aside0.mk h_HK
      clear h_HB h_HK
      refine (runs_copy_nil _).mono ?_
      rintro e w28 ⟨g2, rfl, hg2, hr, hB⟩
      replace hr := hr.lower HB.out.size
      have GE_C : Aside0 (w.heap.size ≤ g2) := ⟨by have := HB.out.size; omega⟩
      replace HB := Aside0.mk (below_step HB.out hB)
      replace HK := Aside0.mk ((HK.out.keep hB).top)
      clear hB
      have C := Aside0.mk hr
      clear hr
      clear hg2
      go_wp2_with fail
      refine calls_abs (fun X => Below w.heap.size w X ∧ KeptAt X w.heap.size gB (fun k => X.heap.size ≤ k) [] LS [] ∧ RunsAt X w.heap.size g2 []) ⟨below_step HB.out (by repeat (first | exact Below.refl _ _ | apply below_alloc | refine Below.setCell ?_ (Nat.le_refl _) _ | refine Below.setCell ?_ (by simp) _)), (HK.out.keep (by repeat (first | exact Below.refl _ _ | apply below_alloc | refine Below.setCell ?_ (Nat.le_refl _) _ | refine Below.setCell ?_ (by simp) _))).top, C.out.keep (by repeat (first | exact Below.refl _ _ | apply below_alloc | refine Below.setCell ?_ (Nat.le_refl _) _ | refine Below.setCell ?_ (by simp) _))⟩ ?_
      rintro w29 ⟨h_HB, h_HK, h_C⟩
      replace HB := Aside0.mk h_HB
      replace HK := Aside0.mk h_HK
      replace C := Aside0.mk h_C
      clear h_HB h_HK h_C
      refine (runs_put_nil _ _).mono ?_
      rintro e w30 ⟨rfl, hB⟩
      replace HB := Aside0.mk (below_step HB.out hB)
      replace HK := Aside0.mk ((HK.out.keep hB).top)
      replace C := Aside0.mk (C.out.keep hB)
      clear hB
      go_wp2_with fail
      refine calls_abs (fun X => Below w.heap.size w X ∧ KeptAt X w.heap.size gB (fun k => X.heap.size ≤ k) [] LS [] ∧ RunsAt X w.heap.size g2 []) ⟨below_step HB.out (by repeat (first | exact Below.refl _ _ | apply below_alloc | refine Below.setCell ?_ (Nat.le_refl _) _ | refine Below.setCell ?_ (by simp) _)), (HK.out.keep (by repeat (first | exact Below.refl _ _ | apply below_alloc | refine Below.setCell ?_ (Nat.le_refl _) _ | refine Below.setCell ?_ (by simp) _))).top, C.out.keep (by repeat (first | exact Below.refl _ _ | apply below_alloc | refine Below.setCell ?_ (Nat.le_refl _) _ | refine Below.setCell ?_ (by simp) _))⟩ ?_
      rintro w31 ⟨h_HB, h_HK, h_C⟩
      replace HB := Aside0.mk h_HB
      replace HK := Aside0.mk h_HK
      replace C := Aside0.mk h_C
      clear h_HB h_HK h_C
      refine (runs_cut_nil _ _).mono ?_
      rintro e w32 ⟨rfl, hB⟩
      replace HB := Aside0.mk (below_step HB.out hB)
      replace HK := Aside0.mk ((HK.out.keep hB).top)
      replace C := Aside0.mk (C.out.keep hB)
      clear hB
      go_wp2_with fail
      refine (runs_count_nil _).mono ?_
      rintro e w33 ⟨rfl, hB⟩
      replace HB := Aside0.mk (below_step HB.out hB)
      replace HK := Aside0.mk ((HK.out.keep hB).top)
      replace C := Aside0.mk (C.out.keep hB)
      clear hB
      go_wp2_with fail
      refine (runs_all_nil _).mono ?_
      rintro e w34 ⟨v, rfl, ho, hB⟩
      obtain ⟨An, cn, rfl, _⟩ := ho.reads
      clear ho
      replace HB := Aside0.mk (below_step HB.out hB)
      replace HK := Aside0.mk ((HK.out.keep hB).top)
      replace C := Aside0.mk (C.out.keep hB)
      clear hB
      go_wp2_with fail
      refine (runs_has_nil 0 _).mono ?_
      rintro e w35 ⟨rfl, hB⟩
      replace HB := Aside0.mk (below_step HB.out hB)
      replace HK := Aside0.mk ((HK.out.keep hB).top)
      replace C := Aside0.mk (C.out.keep hB)
      clear hB
      go_wp2_with fail
      refine (runs_count0 w.heap.size g2 _ C.out).mono ?_
      rintro e w36 ⟨rfl, hB⟩
      replace HB := Aside0.mk (below_step HB.out hB)
      replace HK := Aside0.mk ((HK.out.keep hB).top)
      replace C := Aside0.mk (C.out.keep hB)
      clear hB
      go_wp2_with fail
      refine (runs_same_nil w.heap.size g2 _ C.out).mono ?_
      rintro e w37 ⟨rfl, hB⟩
      replace HB := Aside0.mk (below_step HB.out hB)
      replace HK := Aside0.mk ((HK.out.keep hB).top)
      replace C := Aside0.mk (C.out.keep hB)
      clear hB
      go_wp2_with fail
      refine (kept_apart gB w.heap.size _ _ _ _ _ HK.out ⟨by simp, by simp⟩ ⟨by have := HLn.out; omega, fun x hx => by have := HLS.out.2 x hx; omega⟩ ⟨by simp, by simp⟩ HB.out.size).mono ?_
      rintro e w99 ⟨rfl, hB⟩
      go_wp2_with fail
      go_ret
      exact ⟨rfl, HB.out.trans hB⟩
theorem walk (A : Option Addr) (c : Nat) (f : List SP) (B : Option Addr) (d : Nat) (l : List OP) (fr : Int) (w : World) (hc : f.length ≤ c) (hA : Kd.C k24 w A f.length f) (hd : l.length ≤ d) (hB : Kd.C k66 w B l.length l) (hw : (Lit.int .i64 fr).wf = true) :
    Calls Try.prog 12 #[.slice A f.length c, .slice B l.length d, .int .i64 fr] w fun e w' => e = .returned (.bool true) ∧ Below w.heap.size w w' := by
  by_cases h : 40 < (f.length : Int) ∨ (¬ 40 < (f.length : Int) ∧ 50 < (l.length : Int))
  · exact early A B c d f l fr w h
  · exact main A B c d f l fr w (by omega) (by omega) (wf64 hw).1 (wf64 hw).2 hc hd hA hB
end Go.Proofs.Ytjbimnicnehnaaa.WRunsPlay
end
