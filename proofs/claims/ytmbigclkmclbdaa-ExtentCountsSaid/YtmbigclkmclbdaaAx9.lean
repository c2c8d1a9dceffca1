-- WRITTEN BY ownprint2.py, a program of this session, over functions that were proved by hand (Lean checks it)
import Derived.Test.YtmbigclkmclbdaaAx0
import Derived.Test.YtmbigclkmclbdaaAx4
import Derived.Test.YtmbigclkmclbdaaAx7
import Derived.Test.YtmbigclkmclbdaaAx8
namespace Go.Proofs.Ytmbigclkmclbdaa.A
open Go.RowKit Go.Proofs.YtmbigclkmclbdaaW.PrintWords Go.Proofs.YtmbigclkmclbdaaW.PrintLast Go.Proofs.YtmbigclkmclbdaaW.PrintMore
attribute [local go_sem] max2_int min2_int max_two min_two max_three min_three max_four min_four   -- for this text's walks alone
set_option linter.unusedVariables false
set_option linter.unusedSimpArgs false

/-! ### span_Less: function 54 -/
def span_Less.j0 : Nat → List (S34) → Int → Int → Int → Int → Option ((List (S34)))
  | 0, _, _, _, _, _ => none
  | k + 1, x7, x134000, x134001, x140000, x140001 => (span_End.f x140000 x140001).bind fun t150 => ((span_End.f x134000 x134001).bind fun t151 => ((span_of.f t150 t151).bind fun bt152 => (if bt152.2.2 = true then (if x7.length < 8796093022208 then (some (x7 ++ [(⟨bt152.1, bt152.2.1⟩ : S34)])) else (none)) else (some x7))))
def span_Less.f (k : Nat) (a0_0 : Int) (a0_1 : Int) (a1_0 : Int) (a1_1 : Int) : Option ((List (S34))) := (span_whole.f a0_0 a0_1).bind fun t135 => (if t135 = true then ((span_Meet.f k a0_0 a0_1 a1_0 a1_1).bind fun bt136 => (if bt136.2.2 = true then ((span_of.f a0_0 bt136.1).bind fun bt143 => (if bt143.2.2 = true then (if ([] : List (S34)).length < 8796093022208 then (span_Less.j0 k (([] : List (S34)) ++ [(⟨bt143.1, bt143.2.1⟩ : S34)]) a0_0 a0_1 bt136.1 bt136.2.1) else (none)) else (span_Less.j0 k ([] : List (S34)) a0_0 a0_1 bt136.1 bt136.2.1))) else (some (([(⟨a0_0, a0_1⟩ : S34)] : List (S34)))))) else (some ([] : List (S34))))
theorem span_Less.mono_l : ∀ k, (∀ y0 y1 y2 y3 y4, LeO (span_Less.j0 k y0 y1 y2 y3 y4) (span_Less.j0 (k + 1) y0 y1 y2 y3 y4))
  | 0 => fun _ _ _ _ _ r h => by simp [span_Less.j0] at h
  | k + 1 => by
    have ih0 := span_Less.mono_l k
    · intro y0 y1 y2 y3 y4
      unfold span_Less.j0
      repeat' first
      | (with_reducible exact ih0 _ _ _ _ _)
      | (with_reducible exact span_Meet.mono _ _ _ _ _)
      | (with_reducible exact LeO.refl _)
      | (with_reducible exact LeO.none _)
      | (with_reducible refine LeO.ite ?_ ?_)
      | (with_reducible refine LeO.bind ?_ (fun _ => ?_))
      | exact ih0 _ _ _ _ _
      | exact span_Meet.mono _ _ _ _ _
      | exact LeO.none _
      | refine LeO.ite ?_ ?_
      | refine LeO.bind ?_ (fun _ => ?_)
theorem span_Less.mono : ∀ a0 a1 a2 a3 k, LeO (span_Less.f k a0 a1 a2 a3) (span_Less.f (k + 1) a0 a1 a2 a3) := by
  intro a0 a1 a2 a3 k
  have ih0 := span_Less.mono_l k
  unfold span_Less.f
  repeat' first
      | (with_reducible exact ih0 _ _ _ _ _)
      | (with_reducible exact span_Meet.mono _ _ _ _ _)
      | (with_reducible exact LeO.refl _)
      | (with_reducible exact LeO.none _)
      | (with_reducible refine LeO.ite ?_ ?_)
      | (with_reducible refine LeO.bind ?_ (fun _ => ?_))
      | exact ih0 _ _ _ _ _
      | exact span_Meet.mono _ _ _ _ _
      | exact LeO.none _
      | refine LeO.ite ?_ ?_
      | refine LeO.bind ?_ (fun _ => ?_)
def span_Less.T10 : Bool × List (List Nat × List Nat) := (true, [([], []), ([0], [0]), ([], []), ([2, 1], [2]), ([1, 3, 3], [1, 3]), ([4], [4]), ([5], [5]), ([5], [5]), ([], []), ([8, 6, 4, 0, 1, 2, 3, 4, 5, 6, 8], [6, 8]), ([7, 9, 0, 1, 2, 3, 4, 5, 6, 7, 8, 9], [7])])
def span_Less.B10 : List Nat := [0, 1, 0, 7, 15, 31, 63, 63, 0, 383, 1023]
theorem span_Less.tab10 : rtab .any (opsOf Try.f54 10) = span_Less.T10 := by kernel_rfl
theorem span_Less.bits10 : waitsOk span_Less.T10.2 span_Less.B10 = true := by kernel_rfl
theorem less_lit (W : World) (base : Nat) (hb : base ≤ W.heap.size) (x y : Int) : Kd.R k34 34 (W.alloc (.cells #[.int .i64 x, .int .i64 y] 34)) base (fun _ => True) (.slice (some ⟨W.heap.size, 0, none⟩) 1 1) [(⟨x, y⟩ : S34)] := by
  refine ⟨fun _ _ => trivial, [.int .i64 x, .int .i64 y], ?_, ?_⟩
  · exact World.ownsRow_lit (base := base) (e := 34) (size := 2) W #[.int .i64 x, .int .i64 y] 1 hb (by decide) rfl
  · refine ⟨rfl, fun j p hj => ?_⟩
    cases j with
    | zero =>
      simp only [List.getElem?_cons_zero, Option.some.injEq] at hj
      subst hj
      exact k34_mkM _ _ _ (⟨x, y⟩ : S34)
    | succ j => simp at hj
set_option maxHeartbeats 3200000 in
set_option maxRecDepth 100000 in
theorem span_Less.calls (k : Nat) (a0_0 : Int) (a0_1 : Int) (a1_0 : Int) (a1_1 : Int) (r : List (S34)) (w : World) (h : span_Less.f k a0_0 a0_1 a1_0 a1_1 = some r) :
    Calls Try.prog 54 #[.agg #[.int .i64 a0_0, .int .i64 a0_1], .agg #[.int .i64 a1_0, .int .i64 a1_1]] w fun e w' => ∃ v0_ : Value, e = .returned (v0_) ∧ Kd.R k34 34 w' w.heap.size (fun _ => True) v0_ r ∧ Below w.heap.size w w' := by
  have cellOf : ∀ {W : World} {g o : Nat} {t : TypeId} {cs : Array Value} {v : Value}, W.heap[g]? = some (.cells cs t (0, 0)) → cs[o]? = some v → W.cell? ⟨g, o, none⟩ = some v := fun hb hv => (cell_of_row _ _ _ _ _ (0, 0) hb).trans hv
  have keepB : ∀ {W W' : World} {g : Nat} {t : TypeId} {cs : Array Value}, W.heap[g]? = some (.cells cs t (0, 0)) → Below W.heap.size W W' → W'.heap[g]? = some (.cells cs t (0, 0)) := fun {W W' g t cs} hb hB => (hB.block g (by
    rcases Nat.lt_or_ge g W.heap.size with hlt | hge
    · exact hlt
    · rw [Array.getElem?_eq_none hge] at hb; cases hb)).trans hb
  have keepC : ∀ {W W' : World} {p : Addr} {v : Value}, Below W.heap.size W W' → W.cell? p = some v → W'.cell? p = some v := fun {W W' p v} hB hc => (hB.cell (World.block_lt_of_cell? W p hc)).trans hc
  unfold span_Less.f at h
  obtain ⟨t1, A1, h⟩ := Option.bind_eq_some_iff.mp h
  have A1 := Aside0.mk A1
  cases t1 with
  | false =>
    rw [if_neg (by decide)] at h
    obtain rfl := Option.some.inj h
    clear h
    go_enter Try.func54, Try.ntmps54
    go_wp2_with fail
    refine (span_whole.calls a0_0 a0_1 false _ A1.out).mono ?_
    rintro e w1 ⟨rfl, hB⟩
    have HB1 := Aside0.mk (below_step (below_alloc (below_alloc (Below.refl w.heap.size w) _) _) hB)
    clear hB
    go_wp2_with fail
    go_ret
    exact ⟨_, rfl, Kd.R_nil _ _ _ _ _, HB1.out⟩
  | true =>
    rw [if_pos rfl] at h
    obtain ⟨⟨m0, m1, ok⟩, A2, h⟩ := Option.bind_eq_some_iff.mp h
    have A2 := Aside0.mk A2
    have H := Aside0.mk h
    simp only at H
    clear h
    go_enter Try.func54, Try.ntmps54
    go_wp2_with fail
    refine (span_whole.calls a0_0 a0_1 true _ A1.out).mono ?_
    rintro e w1 ⟨rfl, hB⟩
    have HB1 := Aside0.mk (below_step (below_alloc (below_alloc (Below.refl w.heap.size w) _) _) hB)
    have HA1 := Aside0.mk (keepB (g := w.heap.size) (cs := #[.int .i64 a0_0, .int .i64 a0_1]) (t := 34) ((Below.heap_alloc _ _ _ (by simp)).trans (heap_alloc_new w _)) hB)
    have HC1 := Aside0.mk (keepB (g := w.heap.size + 1) (cs := #[.int .i64 a1_0, .int .i64 a1_1]) (t := 34) (heap_alloc2_new w _ _) hB)
    have y0 := cellOf HA1.out (o := 0) (v := .int .i64 a0_0) rfl
    have y1 := cellOf HA1.out (o := 1) (v := .int .i64 a0_1) rfl
    have z0 := cellOf HC1.out (o := 0) (v := .int .i64 a1_0) rfl
    have z1 := cellOf HC1.out (o := 1) (v := .int .i64 a1_1) rfl
    have HB1h : w.heap.size + 2 ≤ w1.heap.size := by have := hB.size; simp at this; omega
    clear hB HC1 A1
    go_wp2_with fail
    refine (span_Meet.calls k a0_0 a0_1 a1_0 a1_1 m0 m1 ok _ A2.out).mono ?_
    rintro e w2 ⟨rfl, hB⟩
    have HB2 := Aside0.mk (below_step HB1.out hB)
    have HA2 := Aside0.mk (keepB HA1.out hB)
    have y0 := cellOf HA2.out (o := 0) (v := .int .i64 a0_0) rfl
    have y1 := cellOf HA2.out (o := 1) (v := .int .i64 a0_1) rfl
    have hl2 : w.heap.size < w2.heap.size := Nat.lt_of_lt_of_le (Nat.lt_of_lt_of_le (by simp) HB1h) hB.size
    clear hB HB1 HA1 z0 z1
    cases ok with
    | false =>
      rw [if_neg (by decide)] at H
      obtain rfl := Option.some.inj H.out
      clear H
      go_wp2_with fail
      go_ret
      refine ⟨_, rfl, ?_, below_alloc (below_alloc HB2.out _) _⟩
      have hlit := less_lit (w2.alloc (.cells #[.int .i64 m0, .int .i64 m1] 34)) w.heap.size (by simp; exact Nat.le_trans HB2.out.size (Nat.le_succ _)) a0_0 a0_1
      simpa using hlit
    | true =>
      rw [if_pos rfl] at H
      obtain ⟨⟨p0, p1, ok1⟩, A3, h⟩ := Option.bind_eq_some_iff.mp H.out
      have A3 := Aside0.mk A3
      replace H := Aside0.mk h
      simp only at H
      clear h
      go_wp2_with fail
      refine (span_of.calls a0_0 m0 p0 p1 ok1 _ A3.out).mono ?_
      rintro e w3 ⟨rfl, hB⟩
      have HA3 := Aside0.mk (keepB ((Below.heap_alloc _ _ _ hl2).trans HA2.out) hB)
      have HM3 := Aside0.mk (keepB (g := w2.heap.size) (cs := #[.int .i64 m0, .int .i64 m1]) (t := 34) (heap_alloc_new w2 _) hB)
      have HB3 := Aside0.mk (below_step (below_alloc HB2.out _) hB)
      have hl3 : w.heap.size < w3.heap.size := Nat.lt_of_lt_of_le hl2 (Nat.le_trans (by simp) hB.size)
      have hm3 : w2.heap.size < w3.heap.size := Nat.lt_of_lt_of_le (by simp) hB.size
      clear hB HB2 HA2 y0 y1 A2 A3
      generalize hgm : w2.heap.size = gm at *
      have y0 := cellOf HA3.out (o := 0) (v := .int .i64 a0_0) rfl
      have y1 := cellOf HA3.out (o := 1) (v := .int .i64 a0_1) rfl
      have z0 := cellOf HM3.out (o := 0) (v := .int .i64 m0) rfl
      have z1 := cellOf HM3.out (o := 1) (v := .int .i64 m1) rfl
      have HB9h := HB3
      clear HB9h
      go_upto_if 33 with (fail)
      go_cut [7] (fun v7 wc => ∃ (LS : List (S34)), Aside0 (span_Less.j0 k LS a0_0 a0_1 m0 m1 = some r) ∧ Aside0 (LS.length ≤ 1) ∧ Aside0 (Below w.heap.size w wc) ∧ Aside0 (Kd.R k34 34 wc w.heap.size (fun _ => True) v7 LS) ∧ Aside0 (wc.heap[w.heap.size]? = some (.cells #[.int .i64 a0_0, .int .i64 a0_1] 34 (0, 0))) ∧ Aside0 (wc.heap[gm]? = some (.cells #[.int .i64 m0, .int .i64 m1] 34 (0, 0))))
      case first =>
        cases ok1 with
        | true =>
          rw [if_pos rfl, if_pos (by decide)] at H
          go_wp2_with (at_builtin; refine Kd.R_append k34 (w0 := w) w.heap.size rfl (.tmp 34) (.tmp 36) 40 34 (.agg #[.int .i64 0, .int .i64 0]) 16 rfl Try.underlying40 info34 rfl (by decide) (by omega) (.slice none 0 0) ([] : List S34) (⟨p0, p1⟩ : S34) [.int .i64 p0, .int .i64 p1] (fun _ => True) (fun _ => False) rfl (by first | (go_simp; done) | (go_simp; rfl)) (k34_mkM _ _ _ (⟨p0, p1⟩ : S34)) (fun _ hk => hk.elim) (fun _ _ => trivial) (Kd.R_nil _ _ _ _ _) (below_alloc HB3.out _) (below_size (below_alloc HB3.out _)) (by simp) ?_; intro v9 w9 hr9 hb9 hg9 hat9)
          have HA9 := Aside0.mk ((hg9.block w.heap.size (by simp; omega) (fun e => by simp [Value.ownBlock] at e)).trans ((Below.heap_alloc _ _ _ hl3).trans HA3.out))
          have HM9 := Aside0.mk ((hg9.block gm (by simp; omega) (fun e => by simp [Value.ownBlock] at e)).trans ((Below.heap_alloc _ _ _ hm3).trans HM3.out))
          go_wp2_with fail
          go_meet
          case rel => exact ⟨_, H, ⟨by simp⟩, ⟨hb9⟩, ⟨hr9⟩, HA9, HM9⟩
        | false =>
          rw [if_neg (by decide)] at H
          go_wp2_with fail
          go_meet
          case rel => exact ⟨_, H, ⟨by simp⟩, ⟨below_alloc HB3.out _⟩, ⟨Kd.R_nil _ _ _ _ _⟩, ⟨(Below.heap_alloc _ _ _ hl3).trans HA3.out⟩, ⟨(Below.heap_alloc _ _ _ hm3).trans HM3.out⟩⟩
      case rest =>
        clear H HA3 HB3 hl3 HM3 hm3 y0 y1 z0 z1
        obtain ⟨LS, H, HL, HB, HR, HA, HM⟩ := hcut
        rename_i v7
        rcases k with _ | k
        · have := H.out
          simp [span_Less.j0] at this
        have h := H.out
        simp only [span_Less.j0] at h
        obtain ⟨t150, E1, h⟩ := Option.bind_eq_some_iff.mp h
        obtain ⟨t151, E2, h⟩ := Option.bind_eq_some_iff.mp h
        obtain ⟨⟨q0, q1, ok2⟩, E3, h⟩ := Option.bind_eq_some_iff.mp h
        have E1 := Aside0.mk E1
        have E2 := Aside0.mk E2
        have E3 := Aside0.mk E3
        replace H := Aside0.mk h
        simp only at H
        clear h
        have hgm9 : Aside0 (w.heap.size ≤ gm) := ⟨Nat.le_of_lt hl2⟩
        go_wp2_with fail
        refine start_ (n := 11) (S := fun w' => Below w.heap.size w w' ∧ w'.heap[w.heap.size]? = some (.cells #[.int .i64 a0_0, .int .i64 a0_1] 34 (0, 0)) ∧ w'.heap[gm]? = some (.cells #[.int .i64 m0, .int .i64 m1] 34 (0, 0)) ∧ Kd.R k34 34 w' w.heap.size (fun _ => True) u7 LS ∧ w'.cell? ⟨w.heap.size, 0, none⟩ = some (.int .i64 a0_0) ∧ w'.cell? ⟨w.heap.size, 1, none⟩ = some (.int .i64 a0_1) ∧ w'.cell? ⟨gm, 0, none⟩ = some (.int .i64 m0) ∧ w'.cell? ⟨gm, 1, none⟩ = some (.int .i64 m1)) (ds := [9]) #[false, false, false, false, false, false, false, false, false, false, false] (by kernel_rfl) rfl rfl ⟨(below_drew1 HB.out), (keepB HA.out (below_drew1 (Below.refl _ _))), (keepB HM.out (below_drew1 (Below.refl _ _))), (Kd.R_drew HR.out), (cellOf (keepB HA.out (below_drew1 (Below.refl _ _))) rfl), (cellOf (keepB HA.out (below_drew1 (Below.refl _ _))) rfl), (cellOf (keepB HM.out (below_drew1 (Below.refl _ _))) rfl), (cellOf (keepB HM.out (below_drew1 (Below.refl _ _))) rfl)⟩ (fun hHeld => ?_)
        refine take_ (i := 0) (N := some 39) (v := ?_) (a' := ?_) #[true, false, false, false, false, false, false, false, false, false, false] rfl rfl (by kernel_rfl) (fun _ _ _ h => h) (Or.inl ⟨by rfl, ?_⟩) hHeld ?_ ?_
        rotate_left
        · rintro w' ⟨s0, s1, s2, s3, s4, s5, s6, s7⟩
          go_simp
          with_reducible rfl
        rotate_left
        · simp only [Act.put, List.setIfInBounds_toArray, List.set_cons_zero, List.set_cons_succ, i64_w, i32_w]
          rfl
        refine take_ (i := 2) (N := some 41) (v := ?_) (a' := ?_) #[true, false, true, false, false, false, false, false, false, false, false] rfl rfl (by kernel_rfl) (fun _ _ _ h => h) (Or.inl ⟨by rfl, ?_⟩) hHeld ?_ ?_
        rotate_left
        · rintro w' ⟨s0, s1, s2, s3, s4, s5, s6, s7⟩
          go_simp
          with_reducible rfl
        rotate_left
        · simp only [Act.put, List.setIfInBounds_toArray, List.set_cons_zero, List.set_cons_succ, i64_w, i32_w]
          rfl
        refine join_ (σ := Nat) 2 #[true, true, true, true, true, true, true, true, true, false, false] (fun s_ => [(40, .int .i64 t150), (42, .int .i64 t151), (43, .tuple #[.agg #[.int .i64 q0, .int .i64 q1], .bool ok2]), (10, .pointer (some ⟨s_, 0, none⟩)), (38, .tuple #[.agg #[.int .i64 q0, .int .i64 q1], .bool ok2]), (44, .agg #[.int .i64 q0, .int .i64 q1]), (45, .bool ok2)]) (fun s_ w' => (Below w.heap.size w w' ∧ w'.heap[w.heap.size]? = some (.cells #[.int .i64 a0_0, .int .i64 a0_1] 34 (0, 0)) ∧ w'.heap[gm]? = some (.cells #[.int .i64 m0, .int .i64 m1] 34 (0, 0)) ∧ Kd.R k34 34 w' w.heap.size (fun _ => True) u7 LS ∧ w'.cell? ⟨w.heap.size, 0, none⟩ = some (.int .i64 a0_0) ∧ w'.cell? ⟨w.heap.size, 1, none⟩ = some (.int .i64 a0_1) ∧ w'.cell? ⟨gm, 0, none⟩ = some (.int .i64 m0) ∧ w'.cell? ⟨gm, 1, none⟩ = some (.int .i64 m1)) ∧ w'.heap[s_]? = some (.cells #[.int .i64 0, .int .i64 0] 34 (0, 0)) ∧ (w.heap.size ≤ s_ ∧ Value.ownBlock u7 ≠ some s_)) ?_ ?_
        rotate_left
        · intro hCont
          refine two_ (i := 1) (j := 8) (Ni := some 40) (Nj := some 10) #[true, true, true, false, false, false, false, false, false, false, false] #[true, false, true, false, false, false, false, false, true, false, false] rfl rfl rfl rfl (by kernel_rfl) (by decide) (by decide) (fun K hK => ?_) (fun K hK => ?_)
          · skip
            refine goes_ Try.func97 (by kernel_rfl) rfl #[.agg #[.int .i64 m0, .int .i64 m1]] (by rfl) rfl rfl (by simp only [List.map_toArray, List.map_cons, List.map_nil]; rfl) ?_
            with_reducible refine (span_End.calls m0 m1 t150 _ E1.out).mono ?_
            rintro e w31 ⟨rfl, hb⟩
            refine ⟨_, rfl, ?_⟩
            refine hK.out _ _ ⟨(below_step hHeld.1 hb), (keepB hHeld.2.1 hb), (keepB hHeld.2.2.1 hb), (Kd.R_below hHeld.2.2.2.1 hb), (keepC hb hHeld.2.2.2.2.1), (keepC hb hHeld.2.2.2.2.2.1), (keepC hb hHeld.2.2.2.2.2.2.1), (keepC hb hHeld.2.2.2.2.2.2.2)⟩ (fun hHeld => ?_)
            clear hK K
            refine norm_ (a' := ?_) ?_ ?_
            rotate_left
            · show Act.put _ (some 40) _ = _
              simp only [Act.put, List.setIfInBounds_toArray, List.set_cons_zero, List.set_cons_succ, i64_w, i32_w]
              rfl
            refine two_ (i := 3) (j := 8) (Ni := some 42) (Nj := some 10) #[true, true, true, true, false, false, false, false, false, false, false] #[true, true, true, false, false, false, false, false, true, false, false] rfl rfl rfl rfl (by kernel_rfl) (by decide) (by decide) (fun K hK => ?_) (fun K hK => ?_)
            · skip
              refine goes_ Try.func97 (by kernel_rfl) rfl #[.agg #[.int .i64 a0_0, .int .i64 a0_1]] (by rfl) rfl rfl (by simp only [List.map_toArray, List.map_cons, List.map_nil]; rfl) ?_
              with_reducible refine (span_End.calls a0_0 a0_1 t151 _ E2.out).mono ?_
              rintro e w33 ⟨rfl, hb⟩
              refine ⟨_, rfl, ?_⟩
              refine hK.out _ _ ⟨(below_step hHeld.1 hb), (keepB hHeld.2.1 hb), (keepB hHeld.2.2.1 hb), (Kd.R_below hHeld.2.2.2.1 hb), (keepC hb hHeld.2.2.2.2.1), (keepC hb hHeld.2.2.2.2.2.1), (keepC hb hHeld.2.2.2.2.2.2.1), (keepC hb hHeld.2.2.2.2.2.2.2)⟩ (fun hHeld => ?_)
              clear hK K
              refine norm_ (a' := ?_) ?_ ?_
              rotate_left
              · show Act.put _ (some 42) _ = _
                simp only [Act.put, List.setIfInBounds_toArray, List.set_cons_zero, List.set_cons_succ, i64_w, i32_w]
                rfl
              refine two_ (i := 4) (j := 8) (Ni := some 43) (Nj := some 10) #[true, true, true, true, true, false, false, false, false, false, false] #[true, true, true, true, false, false, false, false, true, false, false] rfl rfl rfl rfl (by kernel_rfl) (by decide) (by decide) (fun K hK => ?_) (fun K hK => ?_)
              · skip
                refine goes_ Try.func101 (by kernel_rfl) rfl #[.int .i64 t150, .int .i64 t151] (by rfl) rfl rfl (by simp only [List.map_toArray, List.map_cons, List.map_nil]; rfl) ?_
                with_reducible refine (span_of.calls t150 t151 q0 q1 ok2 _ E3.out).mono ?_
                rintro e w34 ⟨rfl, hb⟩
                refine ⟨_, rfl, ?_⟩
                refine hK.out _ _ ⟨(below_step hHeld.1 hb), (keepB hHeld.2.1 hb), (keepB hHeld.2.2.1 hb), (Kd.R_below hHeld.2.2.2.1 hb), (keepC hb hHeld.2.2.2.2.1), (keepC hb hHeld.2.2.2.2.2.1), (keepC hb hHeld.2.2.2.2.2.2.1), (keepC hb hHeld.2.2.2.2.2.2.2)⟩ (fun hHeld => ?_)
                clear hK K
                refine norm_ (a' := ?_) ?_ ?_
                rotate_left
                · show Act.put _ (some 43) _ = _
                  simp only [Act.put, List.setIfInBounds_toArray, List.set_cons_zero, List.set_cons_succ, i64_w, i32_w]
                  rfl
                refine pure_ (i := 5) (N := some 38) (v := ?_) (a' := ?_) #[true, true, true, true, true, true, false, false, false, false, false] rfl rfl (by kernel_rfl) (fun _ _ _ h => h) (Or.inl ⟨by rfl, ?_⟩) ?_ ?_
                rotate_left
                · intro w'
                  go_simp
                  with_reducible rfl
                rotate_left
                · simp only [Act.put, List.setIfInBounds_toArray, List.set_cons_zero, List.set_cons_succ, i64_w, i32_w]
                  rfl
                refine pure_ (i := 6) (N := some 44) (v := ?_) (a' := ?_) #[true, true, true, true, true, true, true, false, false, false, false] rfl rfl (by kernel_rfl) (fun _ _ _ h => h) (Or.inl ⟨by rfl, ?_⟩) ?_ ?_
                rotate_left
                · intro w'
                  go_simp
                  with_reducible rfl
                rotate_left
                · simp only [Act.put, List.setIfInBounds_toArray, List.set_cons_zero, List.set_cons_succ, i64_w, i32_w]
                  rfl
                refine pure_ (i := 7) (N := some 45) (v := ?_) (a' := ?_) #[true, true, true, true, true, true, true, true, false, false, false] rfl rfl (by kernel_rfl) (fun _ _ _ h => h) (Or.inl ⟨by rfl, ?_⟩) ?_ ?_
                rotate_left
                · intro w'
                  go_simp
                  with_reducible rfl
                rotate_left
                · simp only [Act.put, List.setIfInBounds_toArray, List.set_cons_zero, List.set_cons_succ, i64_w, i32_w]
                  rfl
                refine one_ (i := 8) (N := some 10) #[true, true, true, true, true, true, true, true, true, false, false] rfl rfl (by kernel_rfl) (by decide) (fun K hK => ?_)
                refine value_ (w1 := ?_) (v := ?_) (by rfl) rfl ?_ ?_
                rotate_left 2
                · go_simp
                  constructor
                  · rfl
                  · rfl
                have hN : (w34.alloc (.cells #[.int .i64 0, .int .i64 0] 34)).heap[w34.heap.size]? = some (.cells #[.int .i64 0, .int .i64 0] 34 (0, 0)) := heap_alloc_new w34 _
                have hS : w.heap.size ≤ w34.heap.size ∧ Value.ownBlock u7 ≠ some w34.heap.size := ⟨hHeld.1.size, fun e => Nat.lt_irrefl _ (Kd.R_lt hHeld.2.2.2.1 _ e)⟩
                refine hK.out _ _ ⟨(below_alloc hHeld.1 _), (keepB hHeld.2.1 (below_alloc (Below.refl _ _) _)), (keepB hHeld.2.2.1 (below_alloc (Below.refl _ _) _)), (Kd.R_alloc hHeld.2.2.2.1 _), (keepC (below_alloc (Below.refl _ _) _) hHeld.2.2.2.2.1), (keepC (below_alloc (Below.refl _ _) _) hHeld.2.2.2.2.2.1), (keepC (below_alloc (Below.refl _ _) _) hHeld.2.2.2.2.2.2.1), (keepC (below_alloc (Below.refl _ _) _) hHeld.2.2.2.2.2.2.2)⟩ (fun hHeld => ?_)
                clear hK K
                refine norm_ (a' := ?_) ?_ ?_
                rotate_left
                · show Act.put _ (some 10) _ = _
                  simp only [Act.put, List.setIfInBounds_toArray, List.set_cons_zero, List.set_cons_succ, i64_w, i32_w]
                  rfl
                exact norm_ (by simp only [putAll, Act.put, List.setIfInBounds_toArray, List.set_cons_zero, List.set_cons_succ]) (hCont (w34.heap.size) _ ⟨hHeld, hN, hS⟩)
              · skip
                refine value_ (w1 := ?_) (v := ?_) (by rfl) rfl ?_ ?_
                rotate_left 2
                · go_simp
                  constructor
                  · rfl
                  · rfl
                have hN : (w33.alloc (.cells #[.int .i64 0, .int .i64 0] 34)).heap[w33.heap.size]? = some (.cells #[.int .i64 0, .int .i64 0] 34 (0, 0)) := heap_alloc_new w33 _
                have hS : w.heap.size ≤ w33.heap.size ∧ Value.ownBlock u7 ≠ some w33.heap.size := ⟨hHeld.1.size, fun e => Nat.lt_irrefl _ (Kd.R_lt hHeld.2.2.2.1 _ e)⟩
                refine hK.out _ _ ⟨(below_alloc hHeld.1 _), (keepB hHeld.2.1 (below_alloc (Below.refl _ _) _)), (keepB hHeld.2.2.1 (below_alloc (Below.refl _ _) _)), (Kd.R_alloc hHeld.2.2.2.1 _), (keepC (below_alloc (Below.refl _ _) _) hHeld.2.2.2.2.1), (keepC (below_alloc (Below.refl _ _) _) hHeld.2.2.2.2.2.1), (keepC (below_alloc (Below.refl _ _) _) hHeld.2.2.2.2.2.2.1), (keepC (below_alloc (Below.refl _ _) _) hHeld.2.2.2.2.2.2.2)⟩ (fun hHeld => ?_)
                clear hK K
                refine norm_ (a' := ?_) ?_ ?_
                rotate_left
                · show Act.put _ (some 10) _ = _
                  simp only [Act.put, List.setIfInBounds_toArray, List.set_cons_zero, List.set_cons_succ, i64_w, i32_w]
                  rfl
                refine one_ (i := 4) (N := some 43) #[true, true, true, true, true, false, false, false, true, false, false] rfl rfl (by kernel_rfl) (by decide) (fun K hK => ?_)
                refine goes_ Try.func101 (by kernel_rfl) rfl #[.int .i64 t150, .int .i64 t151] (by rfl) rfl rfl (by simp only [List.map_toArray, List.map_cons, List.map_nil]; rfl) ?_
                with_reducible refine (span_of.calls t150 t151 q0 q1 ok2 _ E3.out).mono ?_
                rintro e w34 ⟨rfl, hb⟩
                refine ⟨_, rfl, ?_⟩
                replace hN := keepB hN hb
                refine hK.out _ _ ⟨(below_step hHeld.1 hb), (keepB hHeld.2.1 hb), (keepB hHeld.2.2.1 hb), (Kd.R_below hHeld.2.2.2.1 hb), (keepC hb hHeld.2.2.2.2.1), (keepC hb hHeld.2.2.2.2.2.1), (keepC hb hHeld.2.2.2.2.2.2.1), (keepC hb hHeld.2.2.2.2.2.2.2)⟩ (fun hHeld => ?_)
                clear hK K
                refine norm_ (a' := ?_) ?_ ?_
                rotate_left
                · show Act.put _ (some 43) _ = _
                  simp only [Act.put, List.setIfInBounds_toArray, List.set_cons_zero, List.set_cons_succ, i64_w, i32_w]
                  rfl
                refine pure_ (i := 5) (N := some 38) (v := ?_) (a' := ?_) #[true, true, true, true, true, true, false, false, true, false, false] rfl rfl (by kernel_rfl) (fun _ _ _ h => h) (Or.inl ⟨by rfl, ?_⟩) ?_ ?_
                rotate_left
                · intro w'
                  go_simp
                  with_reducible rfl
                rotate_left
                · simp only [Act.put, List.setIfInBounds_toArray, List.set_cons_zero, List.set_cons_succ, i64_w, i32_w]
                  rfl
                refine pure_ (i := 6) (N := some 44) (v := ?_) (a' := ?_) #[true, true, true, true, true, true, true, false, true, false, false] rfl rfl (by kernel_rfl) (fun _ _ _ h => h) (Or.inl ⟨by rfl, ?_⟩) ?_ ?_
                rotate_left
                · intro w'
                  go_simp
                  with_reducible rfl
                rotate_left
                · simp only [Act.put, List.setIfInBounds_toArray, List.set_cons_zero, List.set_cons_succ, i64_w, i32_w]
                  rfl
                refine pure_ (i := 7) (N := some 45) (v := ?_) (a' := ?_) #[true, true, true, true, true, true, true, true, true, false, false] rfl rfl (by kernel_rfl) (fun _ _ _ h => h) (Or.inl ⟨by rfl, ?_⟩) ?_ ?_
                rotate_left
                · intro w'
                  go_simp
                  with_reducible rfl
                rotate_left
                · simp only [Act.put, List.setIfInBounds_toArray, List.set_cons_zero, List.set_cons_succ, i64_w, i32_w]
                  rfl
                exact norm_ (by simp only [putAll, Act.put, List.setIfInBounds_toArray, List.set_cons_zero, List.set_cons_succ]) (hCont (w33.heap.size) _ ⟨hHeld, hN, hS⟩)
            · skip
              refine value_ (w1 := ?_) (v := ?_) (by rfl) rfl ?_ ?_
              rotate_left 2
              · go_simp
                constructor
                · rfl
                · rfl
              have hN : (w31.alloc (.cells #[.int .i64 0, .int .i64 0] 34)).heap[w31.heap.size]? = some (.cells #[.int .i64 0, .int .i64 0] 34 (0, 0)) := heap_alloc_new w31 _
              have hS : w.heap.size ≤ w31.heap.size ∧ Value.ownBlock u7 ≠ some w31.heap.size := ⟨hHeld.1.size, fun e => Nat.lt_irrefl _ (Kd.R_lt hHeld.2.2.2.1 _ e)⟩
              refine hK.out _ _ ⟨(below_alloc hHeld.1 _), (keepB hHeld.2.1 (below_alloc (Below.refl _ _) _)), (keepB hHeld.2.2.1 (below_alloc (Below.refl _ _) _)), (Kd.R_alloc hHeld.2.2.2.1 _), (keepC (below_alloc (Below.refl _ _) _) hHeld.2.2.2.2.1), (keepC (below_alloc (Below.refl _ _) _) hHeld.2.2.2.2.2.1), (keepC (below_alloc (Below.refl _ _) _) hHeld.2.2.2.2.2.2.1), (keepC (below_alloc (Below.refl _ _) _) hHeld.2.2.2.2.2.2.2)⟩ (fun hHeld => ?_)
              clear hK K
              refine norm_ (a' := ?_) ?_ ?_
              rotate_left
              · show Act.put _ (some 10) _ = _
                simp only [Act.put, List.setIfInBounds_toArray, List.set_cons_zero, List.set_cons_succ, i64_w, i32_w]
                rfl
              refine one_ (i := 3) (N := some 42) #[true, true, true, true, false, false, false, false, true, false, false] rfl rfl (by kernel_rfl) (by decide) (fun K hK => ?_)
              refine goes_ Try.func97 (by kernel_rfl) rfl #[.agg #[.int .i64 a0_0, .int .i64 a0_1]] (by rfl) rfl rfl (by simp only [List.map_toArray, List.map_cons, List.map_nil]; rfl) ?_
              with_reducible refine (span_End.calls a0_0 a0_1 t151 _ E2.out).mono ?_
              rintro e w33 ⟨rfl, hb⟩
              refine ⟨_, rfl, ?_⟩
              replace hN := keepB hN hb
              refine hK.out _ _ ⟨(below_step hHeld.1 hb), (keepB hHeld.2.1 hb), (keepB hHeld.2.2.1 hb), (Kd.R_below hHeld.2.2.2.1 hb), (keepC hb hHeld.2.2.2.2.1), (keepC hb hHeld.2.2.2.2.2.1), (keepC hb hHeld.2.2.2.2.2.2.1), (keepC hb hHeld.2.2.2.2.2.2.2)⟩ (fun hHeld => ?_)
              clear hK K
              refine norm_ (a' := ?_) ?_ ?_
              rotate_left
              · show Act.put _ (some 42) _ = _
                simp only [Act.put, List.setIfInBounds_toArray, List.set_cons_zero, List.set_cons_succ, i64_w, i32_w]
                rfl
              refine one_ (i := 4) (N := some 43) #[true, true, true, true, true, false, false, false, true, false, false] rfl rfl (by kernel_rfl) (by decide) (fun K hK => ?_)
              refine goes_ Try.func101 (by kernel_rfl) rfl #[.int .i64 t150, .int .i64 t151] (by rfl) rfl rfl (by simp only [List.map_toArray, List.map_cons, List.map_nil]; rfl) ?_
              with_reducible refine (span_of.calls t150 t151 q0 q1 ok2 _ E3.out).mono ?_
              rintro e w34 ⟨rfl, hb⟩
              refine ⟨_, rfl, ?_⟩
              replace hN := keepB hN hb
              refine hK.out _ _ ⟨(below_step hHeld.1 hb), (keepB hHeld.2.1 hb), (keepB hHeld.2.2.1 hb), (Kd.R_below hHeld.2.2.2.1 hb), (keepC hb hHeld.2.2.2.2.1), (keepC hb hHeld.2.2.2.2.2.1), (keepC hb hHeld.2.2.2.2.2.2.1), (keepC hb hHeld.2.2.2.2.2.2.2)⟩ (fun hHeld => ?_)
              clear hK K
              refine norm_ (a' := ?_) ?_ ?_
              rotate_left
              · show Act.put _ (some 43) _ = _
                simp only [Act.put, List.setIfInBounds_toArray, List.set_cons_zero, List.set_cons_succ, i64_w, i32_w]
                rfl
              refine pure_ (i := 5) (N := some 38) (v := ?_) (a' := ?_) #[true, true, true, true, true, true, false, false, true, false, false] rfl rfl (by kernel_rfl) (fun _ _ _ h => h) (Or.inl ⟨by rfl, ?_⟩) ?_ ?_
              rotate_left
              · intro w'
                go_simp
                with_reducible rfl
              rotate_left
              · simp only [Act.put, List.setIfInBounds_toArray, List.set_cons_zero, List.set_cons_succ, i64_w, i32_w]
                rfl
              refine pure_ (i := 6) (N := some 44) (v := ?_) (a' := ?_) #[true, true, true, true, true, true, true, false, true, false, false] rfl rfl (by kernel_rfl) (fun _ _ _ h => h) (Or.inl ⟨by rfl, ?_⟩) ?_ ?_
              rotate_left
              · intro w'
                go_simp
                with_reducible rfl
              rotate_left
              · simp only [Act.put, List.setIfInBounds_toArray, List.set_cons_zero, List.set_cons_succ, i64_w, i32_w]
                rfl
              refine pure_ (i := 7) (N := some 45) (v := ?_) (a' := ?_) #[true, true, true, true, true, true, true, true, true, false, false] rfl rfl (by kernel_rfl) (fun _ _ _ h => h) (Or.inl ⟨by rfl, ?_⟩) ?_ ?_
              rotate_left
              · intro w'
                go_simp
                with_reducible rfl
              rotate_left
              · simp only [Act.put, List.setIfInBounds_toArray, List.set_cons_zero, List.set_cons_succ, i64_w, i32_w]
                rfl
              exact norm_ (by simp only [putAll, Act.put, List.setIfInBounds_toArray, List.set_cons_zero, List.set_cons_succ]) (hCont (w31.heap.size) _ ⟨hHeld, hN, hS⟩)
          · skip
            refine value_ (w1 := ?_) (v := ?_) (by rfl) rfl ?_ ?_
            rotate_left 2
            · go_simp
              constructor
              · rfl
              · rfl
            have hN : (wc.drew.alloc (.cells #[.int .i64 0, .int .i64 0] 34)).heap[wc.heap.size]? = some (.cells #[.int .i64 0, .int .i64 0] 34 (0, 0)) := heap_alloc_new wc.drew _
            have hS : w.heap.size ≤ wc.heap.size ∧ Value.ownBlock u7 ≠ some wc.heap.size := ⟨hHeld.1.size, fun e => Nat.lt_irrefl _ (Kd.R_lt hHeld.2.2.2.1 _ e)⟩
            refine hK.out _ _ ⟨(below_alloc hHeld.1 _), (keepB hHeld.2.1 (below_alloc (Below.refl _ _) _)), (keepB hHeld.2.2.1 (below_alloc (Below.refl _ _) _)), (Kd.R_alloc hHeld.2.2.2.1 _), (keepC (below_alloc (Below.refl _ _) _) hHeld.2.2.2.2.1), (keepC (below_alloc (Below.refl _ _) _) hHeld.2.2.2.2.2.1), (keepC (below_alloc (Below.refl _ _) _) hHeld.2.2.2.2.2.2.1), (keepC (below_alloc (Below.refl _ _) _) hHeld.2.2.2.2.2.2.2)⟩ (fun hHeld => ?_)
            clear hK K
            refine norm_ (a' := ?_) ?_ ?_
            rotate_left
            · show Act.put _ (some 10) _ = _
              simp only [Act.put, List.setIfInBounds_toArray, List.set_cons_zero, List.set_cons_succ, i64_w, i32_w]
              rfl
            refine one_ (i := 1) (N := some 40) #[true, true, true, false, false, false, false, false, true, false, false] rfl rfl (by kernel_rfl) (by decide) (fun K hK => ?_)
            refine goes_ Try.func97 (by kernel_rfl) rfl #[.agg #[.int .i64 m0, .int .i64 m1]] (by rfl) rfl rfl (by simp only [List.map_toArray, List.map_cons, List.map_nil]; rfl) ?_
            with_reducible refine (span_End.calls m0 m1 t150 _ E1.out).mono ?_
            rintro e w31 ⟨rfl, hb⟩
            refine ⟨_, rfl, ?_⟩
            replace hN := keepB hN hb
            refine hK.out _ _ ⟨(below_step hHeld.1 hb), (keepB hHeld.2.1 hb), (keepB hHeld.2.2.1 hb), (Kd.R_below hHeld.2.2.2.1 hb), (keepC hb hHeld.2.2.2.2.1), (keepC hb hHeld.2.2.2.2.2.1), (keepC hb hHeld.2.2.2.2.2.2.1), (keepC hb hHeld.2.2.2.2.2.2.2)⟩ (fun hHeld => ?_)
            clear hK K
            refine norm_ (a' := ?_) ?_ ?_
            rotate_left
            · show Act.put _ (some 40) _ = _
              simp only [Act.put, List.setIfInBounds_toArray, List.set_cons_zero, List.set_cons_succ, i64_w, i32_w]
              rfl
            refine one_ (i := 3) (N := some 42) #[true, true, true, true, false, false, false, false, true, false, false] rfl rfl (by kernel_rfl) (by decide) (fun K hK => ?_)
            refine goes_ Try.func97 (by kernel_rfl) rfl #[.agg #[.int .i64 a0_0, .int .i64 a0_1]] (by rfl) rfl rfl (by simp only [List.map_toArray, List.map_cons, List.map_nil]; rfl) ?_
            with_reducible refine (span_End.calls a0_0 a0_1 t151 _ E2.out).mono ?_
            rintro e w33 ⟨rfl, hb⟩
            refine ⟨_, rfl, ?_⟩
            replace hN := keepB hN hb
            refine hK.out _ _ ⟨(below_step hHeld.1 hb), (keepB hHeld.2.1 hb), (keepB hHeld.2.2.1 hb), (Kd.R_below hHeld.2.2.2.1 hb), (keepC hb hHeld.2.2.2.2.1), (keepC hb hHeld.2.2.2.2.2.1), (keepC hb hHeld.2.2.2.2.2.2.1), (keepC hb hHeld.2.2.2.2.2.2.2)⟩ (fun hHeld => ?_)
            clear hK K
            refine norm_ (a' := ?_) ?_ ?_
            rotate_left
            · show Act.put _ (some 42) _ = _
              simp only [Act.put, List.setIfInBounds_toArray, List.set_cons_zero, List.set_cons_succ, i64_w, i32_w]
              rfl
            refine one_ (i := 4) (N := some 43) #[true, true, true, true, true, false, false, false, true, false, false] rfl rfl (by kernel_rfl) (by decide) (fun K hK => ?_)
            refine goes_ Try.func101 (by kernel_rfl) rfl #[.int .i64 t150, .int .i64 t151] (by rfl) rfl rfl (by simp only [List.map_toArray, List.map_cons, List.map_nil]; rfl) ?_
            with_reducible refine (span_of.calls t150 t151 q0 q1 ok2 _ E3.out).mono ?_
            rintro e w34 ⟨rfl, hb⟩
            refine ⟨_, rfl, ?_⟩
            replace hN := keepB hN hb
            refine hK.out _ _ ⟨(below_step hHeld.1 hb), (keepB hHeld.2.1 hb), (keepB hHeld.2.2.1 hb), (Kd.R_below hHeld.2.2.2.1 hb), (keepC hb hHeld.2.2.2.2.1), (keepC hb hHeld.2.2.2.2.2.1), (keepC hb hHeld.2.2.2.2.2.2.1), (keepC hb hHeld.2.2.2.2.2.2.2)⟩ (fun hHeld => ?_)
            clear hK K
            refine norm_ (a' := ?_) ?_ ?_
            rotate_left
            · show Act.put _ (some 43) _ = _
              simp only [Act.put, List.setIfInBounds_toArray, List.set_cons_zero, List.set_cons_succ, i64_w, i32_w]
              rfl
            refine pure_ (i := 5) (N := some 38) (v := ?_) (a' := ?_) #[true, true, true, true, true, true, false, false, true, false, false] rfl rfl (by kernel_rfl) (fun _ _ _ h => h) (Or.inl ⟨by rfl, ?_⟩) ?_ ?_
            rotate_left
            · intro w'
              go_simp
              with_reducible rfl
            rotate_left
            · simp only [Act.put, List.setIfInBounds_toArray, List.set_cons_zero, List.set_cons_succ, i64_w, i32_w]
              rfl
            refine pure_ (i := 6) (N := some 44) (v := ?_) (a' := ?_) #[true, true, true, true, true, true, true, false, true, false, false] rfl rfl (by kernel_rfl) (fun _ _ _ h => h) (Or.inl ⟨by rfl, ?_⟩) ?_ ?_
            rotate_left
            · intro w'
              go_simp
              with_reducible rfl
            rotate_left
            · simp only [Act.put, List.setIfInBounds_toArray, List.set_cons_zero, List.set_cons_succ, i64_w, i32_w]
              rfl
            refine pure_ (i := 7) (N := some 45) (v := ?_) (a' := ?_) #[true, true, true, true, true, true, true, true, true, false, false] rfl rfl (by kernel_rfl) (fun _ _ _ h => h) (Or.inl ⟨by rfl, ?_⟩) ?_ ?_
            rotate_left
            · intro w'
              go_simp
              with_reducible rfl
            rotate_left
            · simp only [Act.put, List.setIfInBounds_toArray, List.set_cons_zero, List.set_cons_succ, i64_w, i32_w]
              rfl
            exact norm_ (by simp only [putAll, Act.put, List.setIfInBounds_toArray, List.set_cons_zero, List.set_cons_succ]) (hCont (wc.heap.size) _ ⟨hHeld, hN, hS⟩)
        rintro s_ w40 ⟨hS_, hN, hS⟩
        have hHeld : (Below w.heap.size w w40 ∧ w40.heap[w.heap.size]? = some (.cells #[.int .i64 a0_0, .int .i64 a0_1] 34 (0, 0)) ∧ w40.heap[gm]? = some (.cells #[.int .i64 m0, .int .i64 m1] 34 (0, 0)) ∧ Kd.R k34 34 w40 w.heap.size (fun _ => True) u7 LS ∧ w40.cell? ⟨w.heap.size, 0, none⟩ = some (.int .i64 a0_0) ∧ w40.cell? ⟨w.heap.size, 1, none⟩ = some (.int .i64 a0_1) ∧ w40.cell? ⟨gm, 0, none⟩ = some (.int .i64 m0) ∧ w40.cell? ⟨gm, 1, none⟩ = some (.int .i64 m1)) := hS_
        have s0 := cellOf hN (o := 0) (v := .int .i64 0) rfl
        have s1 := cellOf hN (o := 1) (v := .int .i64 0) rfl
        have sf0 : w40.frozen? ⟨s_, 0, none⟩ = false := by simp [World.frozen?, hN]
        have sf1 : w40.frozen? ⟨s_, 1, none⟩ = false := by simp [World.frozen?, hN]
        refine norm_ (a' := ?_) ?_ ?_
        rotate_left
        · simp only [putAll, Act.put, List.setIfInBounds_toArray, List.set_cons_zero, List.set_cons_succ]
          rfl
        refine last_ (i := 9) (N := none) #[true, true, true, true, true, true, true, true, true, true, false] rfl rfl (by kernel_rfl) (by decide) (fun K hK => ?_)
        refine skip_ (w1 := ?_) (by rfl) rfl ?_ ?_
        rotate_left
        · go_simp
          rfl
        refine hK.out _ _ ?_
        clear hK K
        refine pure_ (i := 10) (N := some 11) (v := ?_) (a' := ?_) #[true, true, true, true, true, true, true, true, true, true, true] rfl rfl (by kernel_rfl) (fun _ _ _ h => h) (Or.inl ⟨by rfl, ?_⟩) ?_ ?_
        rotate_left
        · intro w'
          go_simp
          with_reducible rfl
        rotate_left
        · simp only [Act.put, List.setIfInBounds_toArray, List.set_cons_zero, List.set_cons_succ, i64_w, i32_w]
          rfl
        refine done_ (by kernel_rfl) ?_
        have HB5 : Aside0 (Below w.heap.size w ((w40.setCell ⟨s_, 0, none⟩ (.int .i64 q0)).setCell ⟨s_, 1, none⟩ (.int .i64 q1))) := ⟨(hHeld.1.setCell hS.1 _).setCell hS.1 _⟩
        have hR0 := Kd.R_tight rfl hHeld.2.2.2.1
        have hfar : ∀ k, some k = Value.ownBlock u7 → k ≠ s_ := fun k hk e => hS.2 (by rw [← hk, e])
        have HR5 := Aside0.mk (Kd.R_mono (Kd.R_far (p := ⟨s_, 1, none⟩) (Kd.R_far (p := ⟨s_, 0, none⟩) hR0 hfar (.int .i64 q0)) hfar (.int .i64 q1)) (fun _ _ => trivial : ∀ k, _ → (fun _ => True) k))
        have e0 : ((w40.setCell ⟨s_, 0, none⟩ (.int .i64 q0)).setCell ⟨s_, 1, none⟩ (.int .i64 q1)).cell? ⟨s_, 0, none⟩ = some (.int .i64 q0) := by go_simp
        have e1 : ((w40.setCell ⟨s_, 0, none⟩ (.int .i64 q0)).setCell ⟨s_, 1, none⟩ (.int .i64 q1)).cell? ⟨s_, 1, none⟩ = some (.int .i64 q1) := by go_simp
        have hgsz := Aside0.mk HB5.out.size
        clear hHeld hR0 hfar s0 s1 sf0 sf1 hN hS_ hS
        generalize (w40.setCell ⟨s_, 0, none⟩ (.int .i64 q0)).setCell ⟨s_, 1, none⟩ (.int .i64 q1) = w41 at *
        cases ok2 with
        | true =>
          rw [if_pos rfl, if_pos (by have := HL.out; omega)] at H
          obtain rfl := Option.some.inj H.out
          obtain ⟨A0, c0, rfl, hlc, _⟩ := Kd.R_reads HR5.out
          go_wp2_with (at_builtin; refine Kd.R_append k34 (w0 := w) w.heap.size rfl (.tmp 47) (.tmp 49) 40 34 (.agg #[.int .i64 0, .int .i64 0]) 16 rfl Try.underlying40 info34 rfl (by decide) (by omega) (.slice A0 LS.length c0) LS (⟨q0, q1⟩ : S34) [.int .i64 q0, .int .i64 q1] (fun _ => True) (fun _ => False) rfl (by first | (go_simp; done) | (go_simp; rfl)) (k34_mkM _ _ _ (⟨q0, q1⟩ : S34)) (fun _ hk => hk.elim) (fun _ _ => trivial) HR5.out HB5.out HB5.out.size (by have := HL.out; omega) ?_; intro v9 w9 hr9 hb9 hg9 hat9)
          go_wp2_with fail
          go_ret
          exact ⟨_, rfl, hr9, hb9⟩
        | false =>
          rw [if_neg (by decide)] at H
          obtain rfl := Option.some.inj H.out
          go_wp2_with fail
          go_ret
          exact ⟨_, rfl, HR5.out, HB5.out⟩

end Go.Proofs.Ytmbigclkmclbdaa.A
