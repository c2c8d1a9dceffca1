/- Sets of blocks as the program keeps them (runs), walked. -/
import Derived.Test.YtknphhcppllpoaaDoorRow
import Derived.Test.YtknphhcppllpoaaDoorSpanT
import Derived.Test.YtknphhcppllpoaaDoorAx0
import Derived.Test.YtknphhcppllpoaaDoorAx11
import Derived.Test.YtknphhcppllpoaaDoorAx9
namespace Go.Proofs.YtknphhcppllpoaaDoor.Hand
open Go.RowKit Go.Proofs.YtknphhcppllpoaaDoorW.PrintWords Go.Proofs.YtknphhcppllpoaaDoorW.PrintLast Go.Proofs.YtknphhcppllpoaaDoorW.PrintMore Go.Proofs.YtknphhcppllpoaaDoor.A
set_option linter.unusedVariables false
set_option linter.unusedSimpArgs false
attribute [local go_sem] max2_int min2_int max_two min_two max_three min_three max_four min_four
/-- A set of blocks that is there: its spans. -/
def RunsAt (w : World) (base g : Nat) (l : List S55) : Prop := ∃ v, Blk w g 88 #[v] ∧ ORow w base v l
abbrev ptrR (g : Nat) : Value := .pointer (some ⟨g, 0, none⟩)
section
variable {w w1 : World} {base g : Nat} {l : List S55}
theorem RunsAt.lt (h : RunsAt w base g l) : g < w.heap.size := by obtain ⟨v, hb, _⟩ := h; exact hb.lt
theorem RunsAt.keep (h : RunsAt w base g l) (hB : Below w.heap.size w w1) : RunsAt w1 base g l := by
  obtain ⟨v, hb, ho⟩ := h
  exact ⟨v, hb.keep hB, ho.below hB⟩
theorem RunsAt.lower {base' : Nat} (h : RunsAt w base g l) (hb : base' ≤ base) : RunsAt w base' g l := by
  obtain ⟨v, hk, ho⟩ := h
  exact ⟨v, hk, ho.lower hb⟩
theorem RunsAt.only {g' t : Nat} {cs : Array Value} (h : RunsAt w base g l) (ho : Only w w1 g') (hne : g ≠ g') (hb : Blk w g' t cs) (ht : 55 ≠ t) : RunsAt w1 base g l := by
  obtain ⟨v, hk, hr⟩ := h
  exact ⟨v, hk.only ho hne, hr.only ho (hr.ne hb ht)⟩
theorem RunsAt.onlyR {g' base' : Nat} {l' : List S55} (h : RunsAt w base g l) (ho : Only w w1 g') (hne : g ≠ g') (hb : RunsAt w base' g' l') : RunsAt w1 base g l := by
  obtain ⟨v', hb', _⟩ := hb
  exact h.only ho hne hb' (by decide)
end
theorem addStep_len : ∀ (l : List S55) (t : S55 × Bool × List S55), (l.foldl addStep t).2.2.length ≤ t.2.2.length + 2 * l.length
  | [], t => by simp
  | x :: l, t => by
    have h := addStep_len l (addStep t x)
    have h2 : (addStep t x).2.2.length ≤ t.2.2.length + 2 := by
      unfold addStep; split
      · simp
      · split
        · simp
        · simp
    rw [List.foldl_cons, List.length_cons]
    omega
theorem foldl_snoc {α β : Type} (f : β → α → β) (b : β) (l : List α) (i : Nat) (h : i < l.length) : (l.take (i + 1)).foldl f b = f ((l.take i).foldl f b) l[i] := by
  rw [List.take_succ_eq_append_getElem h, List.foldl_append]; rfl
theorem rd_get (l : List S55) (i : Nat) (h : i < l.length) : rd_T55 l (i : Int) = l[i] := by
  show l.getD (i : Int).toNat z55 = l[i]
  rw [Int.toNat_natCast, List.getD_eq_getElem?_getD, List.getElem?_eq_getElem h]; rfl
set_option maxRecDepth 100000 in
set_option maxHeartbeats 1600000 in
theorem runs_add (base g : Nat) (l : List S55) (a m : Int) (w : World) (hr : RunsAt w base g l) (hT : Tidy 0 l) (hs : wh a m) (hbase : base ≤ w.heap.size) :
    Calls Tryd.prog 60 #[ptrR g, .agg #[.int .i64 a, .int .i64 m]] w fun e w' => e = .returned (.tuple #[]) ∧ RunsAt w' base g (addV l ⟨a, m⟩) ∧ Only w w' g := by
  obtain ⟨v0, hb0, ho0⟩ := hr
  obtain ⟨A, c, rfl, hlc, hC, hob⟩ := ho0.reads
  have c0 : w.cell? ⟨g, 0, none⟩ = some (.slice A l.length c) := hb0.cell rfl
  have f0 := hb0.frozen 0
  have HB0 := Aside0.mk hb0
  have HC := Aside0.mk hC
  have hlen : (l.length : Int) ≤ 65 := by have := hT.length (by decide); omega
  have HT := Aside0.mk hT
  have Hs := Aside0.mk hs
  have hg : g < w.heap.size := hb0.lt
  have Hbase := Aside0.mk hbase
  clear hb0 ho0 hC hT hs hob hlc hbase
  go_enter Tryd.func60, Tryd.ntmps60
  go_wp2_with fail
  go_loopg [4, 5, 13] l.length (fun kq u d v wq => ∃ i : Nat, i + kq = l.length ∧ v = .int .i64 (i : Int) ∧ d = .bool ((l.take i).foldl addStep (⟨a, m⟩, false, [])).2.1 ∧ Aside0 (Below w.heap.size w wq) ∧ Aside0 (ORow wq w.heap.size u ((l.take i).foldl addStep (⟨a, m⟩, false, [])).2.2) ∧ Aside0 (u.ownBlock ≠ some w.heap.size) ∧ Aside0 (Blk wq w.heap.size 55 #[.int .i64 ((l.take i).foldl addStep (⟨a, m⟩, false, [])).1.f0, .int .i64 ((l.take i).foldl addStep (⟨a, m⟩, false, [])).1.f1]))
  case atStart => exact ⟨0, by omega, rfl, rfl, ⟨below_alloc (Below.refl _ _) _⟩, ⟨ORow.nil _ _⟩, ⟨by simp [Value.ownBlock]⟩, ⟨Blk.new _ _ _⟩⟩
  case round =>
    obtain ⟨i, hi, rfl, rfl, HB, HO, HN, HS⟩ := hrel
    by_cases hlt : i < l.length
    · obtain ⟨ad, e1, x0, x1⟩ := at_T55 (Kd.C_below HC.out HB.out) (i : Int) (by omega) (by omega)
      subst e1
      rw [Int.toNat_natCast] at x0 x1
      have hlt' : (i : Int) < (l.length : Int) := by omega
      have hone := Aside0.mk (foldl_snoc addStep (⟨a, m⟩, false, []) l i hlt)
      have hlen2 : Aside0 (((l.take i).foldl addStep (⟨a, m⟩, false, [])).2.2.length ≤ 130) := ⟨by have := addStep_len (l.take i) (⟨a, m⟩, false, []); rw [List.length_take] at this; simp only [List.length_nil] at this; omega⟩
      have hwX : Aside0 (wh l[i].f0 l[i].f1) := ⟨HT.out.whole (Int.le_refl _) _ (List.getElem_mem hlt)⟩
      have hx : rd_T55 l (i : Int) = l[i] := rd_get l i hlt
      rw [hx] at x0 x1
      clear hx
      generalize l[i] = X at *
      generalize (l.take i).foldl addStep (⟨a, m⟩, false, []) = T at *
      obtain ⟨F, M⟩ := X
      obtain ⟨⟨p, q⟩, d, o⟩ := T
      simp only at HO HS x0 x1 hwX hlen2
      obtain ⟨kk, rfl⟩ : ∃ z, gk = z + 1 := ⟨gk - 1, by omega⟩
      have Ht := Aside0.mk (touch_eq F M p q)
      have hgs := HS.out.lt
      have d0 := HS.out.cell (i := 0) rfl
      have d1 := HS.out.cell (i := 1) rfl
      by_cases ht : touches F M p q
      · rw [decide_eq_true ht] at Ht
        have Hj : Aside0 (span_Join.f F M p q = some (min F p, max (F + M) (p + q) - min F p, true)) := ⟨by rw [join_eq]; unfold joinV; rw [if_pos ht]⟩
        have Hst : Aside0 (((l.take (i + 1)).foldl addStep (⟨a, m⟩, false, [])) = (⟨min F p, max (F + M) (p + q) - min F p⟩, d, o)) := ⟨by rw [hone.out]; unfold addStep; rw [if_pos ht]; rfl⟩
        clear ht hone
        go_wp2_with fail
        refine (span_Touch.calls F M p q true _ Ht.out).mono ?_
        rintro e w1 ⟨rfl, hB⟩
        have HB1 : Aside0 (Below w.heap.size w w1) := ⟨below_step (below_alloc HB.out _) hB⟩
        have HX1 : Aside0 (Blk w1 wr.heap.size 55 #[.int .i64 F, .int .i64 M]) := ⟨(Blk.new wr _ _).keep hB⟩
        have HS1 := Aside0.mk ((HS.out.alloc _).keep hB)
        have HO1 := Aside0.mk (ORow.below (own_alloc HO.out _) hB)
        have c1 := HX1.out.cell (i := 0) rfl
        have c2 := HX1.out.cell (i := 1) rfl
        have c3 := HS1.out.cell (i := 0) rfl
        have c4 := HS1.out.cell (i := 1) rfl
        clear hB HB HO HS x0 x1 d0 d1 hgs
        go_wp2_with fail
        refine (span_Join.calls F M p q _ _ true _ Hj.out).mono ?_
        rintro e w2 ⟨rfl, hB⟩
        have HB2 : Aside0 (Below w.heap.size w w2) := ⟨below_step HB1.out hB⟩
        have HS2 := Aside0.mk (HS1.out.keep hB)
        have HO2 := Aside0.mk (ORow.below HO1.out hB)
        have c3 := HS2.out.cell (i := 0) rfl
        have c4 := HS2.out.cell (i := 1) rfl
        have f3 := HS2.out.frozen 0
        have f4 := HS2.out.frozen 1
        clear hB HB1 HO1 HS1 c1 c2 HX1
        go_wp2_with fail
        go_roundg kk
        case measure => omega
        case rel =>
          refine ⟨i + 1, by omega, by go_num, by rw [Hst.out], ⟨below_set (below_set HB2.out (Nat.le_refl _)) (Nat.le_refl _)⟩, ?_, HN, ?_⟩
          · rw [Hst.out]
            exact ⟨(HO2.out.far HN.out _).far HN.out _⟩
          · rw [Hst.out]
            exact ⟨(HS2.out.set_ 0 _).set_ 1 _⟩
      · rw [decide_eq_false ht] at Ht
        by_cases hb : d = false ∧ p < F
        · have Hst : Aside0 (((l.take (i + 1)).foldl addStep (⟨a, m⟩, false, [])) = (⟨p, q⟩, true, o ++ [⟨p, q⟩] ++ [⟨F, M⟩])) := ⟨by rw [hone.out]; unfold addStep; rw [if_neg ht, if_pos hb]⟩
          obtain ⟨rfl, hpF⟩ := hb
          clear ht hone
          go_wp2_with fail
          refine (span_Touch.calls F M p q false _ Ht.out).mono ?_
          rintro e w1 ⟨rfl, hB⟩
          have HX0 : Aside0 (u4.ownBlock ≠ some wr.heap.size) := ⟨HO.out.ne_new (Nat.le_refl _)⟩
          have HB1 : Aside0 (Below w.heap.size w w1) := ⟨below_step (below_alloc HB.out _) hB⟩
          have HX1 : Aside0 (Blk w1 wr.heap.size 55 #[.int .i64 F, .int .i64 M]) := ⟨(Blk.new wr _ _).keep hB⟩
          have HS1 := Aside0.mk ((HS.out.alloc _).keep hB)
          have HO1 := Aside0.mk (ORow.below (own_alloc HO.out _) hB)
          have hgs1 := Aside0.mk HS1.out.lt
          have c1 := HX1.out.cell (i := 0) rfl
          have c2 := HX1.out.cell (i := 1) rfl
          have c3 := HS1.out.cell (i := 0) rfl
          have c4 := HS1.out.cell (i := 1) rfl
          clear hB HB HO HS x0 x1 d0 d1 hgs
          go_wp2_with (first | ((with_reducible refine gate_builtin (b := .append) (xs := #[.tmp 37, .tmp 39]) rfl ?_); at_builtin; refine print_append_cells (w0 := w) w.heap.size rfl (.tmp 37) (.tmp 39) 49 55 (.agg #[(.int .i64 0), (.int .i64 0)]) 2 16 rfl Tryd.underlying49 info55' rfl (by decide) (by omega) u4 (o).length (flat (o)) [.int .i64 p, .int .i64 q] rfl (by first | (go_simp; done) | (go_simp; rfl)) rfl (one_two _ _) HO1.out HB1.out (below_size HB1.out) ?aL ?_; (case aL => (have := hlen2.out; (try simp only [List.length_append, List.length_singleton]); omega)); intro v2 W2 ho hb hg hat; have HB2 := Aside0.mk hb; have HO2 := Aside0.mk (ORow.snoc ho); have HN2 := Aside0.mk (app_ne HN.out hgs1.out hat); have HS2 := Aside0.mk (HS1.out.grown hg HN.out); have HX2 := Aside0.mk (HX1.out.grown hg HX0.out); have HNX2 := Aside0.mk (app_ne HX0.out HX1.out.lt hat); have c5 := HX2.out.cell (i := 0) rfl; have c6 := HX2.out.cell (i := 1) rfl; clear ho hb hg hat) | ((with_reducible refine gate_builtin (b := .append) (xs := #[.tmp 41, .tmp 43]) rfl ?_); at_builtin; refine print_append_cells (w0 := w) w.heap.size rfl (.tmp 41) (.tmp 43) 49 55 (.agg #[(.int .i64 0), (.int .i64 0)]) 2 16 rfl Tryd.underlying49 info55' rfl (by decide) (by omega) v2 (o ++ [(⟨p, q⟩ : S55)]).length (flat (o ++ [(⟨p, q⟩ : S55)])) [.int .i64 F, .int .i64 M] rfl (by first | (go_simp; done) | (go_simp; rfl)) rfl (one_two _ _) HO2.out HB2.out (below_size HB2.out) ?aL ?_; (case aL => (have := hlen2.out; (try simp only [List.length_append, List.length_singleton]); omega)); intro v3 W3 ho hb hg hat; have HB3 := Aside0.mk hb; have HO3 := Aside0.mk (ORow.snoc ho); have HN3 := Aside0.mk (app_ne HN2.out HS2.out.lt hat); have HS3 := Aside0.mk (HS2.out.grown hg HN2.out); clear ho hb hg hat))
          go_roundg kk
          case measure => omega
          case rel =>
            refine ⟨i + 1, by omega, by go_num, ?_⟩
            rw [Hst.out]
            exact ⟨rfl, HB3, HO3, HN3, HS3⟩
        · have Hst : Aside0 (((l.take (i + 1)).foldl addStep (⟨a, m⟩, false, [])) = (⟨p, q⟩, d, o ++ [⟨F, M⟩])) := ⟨by rw [hone.out]; unfold addStep; rw [if_neg ht, if_neg hb]⟩
          clear ht hone
          have hor : d = true ∨ (d = false ∧ ¬ p < F) := by
            cases d
            · exact .inr ⟨rfl, fun h => hb ⟨rfl, h⟩⟩
            · exact .inl rfl
          clear hb
          rcases hor with rfl | ⟨rfl, hpF⟩
          all_goals
            go_wp2_with fail
            refine (span_Touch.calls F M p q false _ Ht.out).mono ?_
            rintro e w1 ⟨rfl, hB⟩
            have HX0 : Aside0 (u4.ownBlock ≠ some wr.heap.size) := ⟨HO.out.ne_new (Nat.le_refl _)⟩
            have HB1 : Aside0 (Below w.heap.size w w1) := ⟨below_step (below_alloc HB.out _) hB⟩
            have HX1 : Aside0 (Blk w1 wr.heap.size 55 #[.int .i64 F, .int .i64 M]) := ⟨(Blk.new wr _ _).keep hB⟩
            have HS1 := Aside0.mk ((HS.out.alloc _).keep hB)
            have HO1 := Aside0.mk (ORow.below (own_alloc HO.out _) hB)
            have hgs1 := Aside0.mk HS1.out.lt
            have c1 := HX1.out.cell (i := 0) rfl
            have c2 := HX1.out.cell (i := 1) rfl
            have c3 := HS1.out.cell (i := 0) rfl
            have c4 := HS1.out.cell (i := 1) rfl
            clear hB HB HO HS x0 x1 d0 d1 hgs
            go_wp2_with (first | ((with_reducible refine gate_builtin (b := .append) (xs := #[.tmp 41, .tmp 43]) rfl ?_); at_builtin; refine print_append_cells (w0 := w) w.heap.size rfl (.tmp 41) (.tmp 43) 49 55 (.agg #[(.int .i64 0), (.int .i64 0)]) 2 16 rfl Tryd.underlying49 info55' rfl (by decide) (by omega) u4 (o).length (flat (o)) [.int .i64 F, .int .i64 M] rfl (by first | (go_simp; done) | (go_simp; rfl)) rfl (one_two _ _) HO1.out HB1.out (below_size HB1.out) ?aL ?_; (case aL => (have := hlen2.out; (try simp only [List.length_append, List.length_singleton]); omega)); intro v3 W3 ho hb hg hat; have HB3 := Aside0.mk hb; have HO3 := Aside0.mk (ORow.snoc ho); have HN3 := Aside0.mk (app_ne HN.out hgs1.out hat); have HS3 := Aside0.mk (HS1.out.grown hg HN.out); clear ho hb hg hat))
            go_roundg kk
            case measure => omega
            case rel =>
              refine ⟨i + 1, by omega, by go_num, ?_⟩
              rw [Hst.out]
              exact ⟨rfl, HB3, HO3, HN3, HS3⟩
    · have hlt' : ¬ (i : Int) < (l.length : Int) := by omega
      have hlen2 : Aside0 (((l.take i).foldl addStep (⟨a, m⟩, false, [])).2.2.length ≤ 130) := ⟨by have := addStep_len (l.take i) (⟨a, m⟩, false, []); rw [List.length_take] at this; simp only [List.length_nil] at this; omega⟩
      have hi' : i = l.length := by omega
      subst hi'
      have hV : Aside0 (addV l ⟨a, m⟩ = if ((l.take l.length).foldl addStep (⟨a, m⟩, false, [])).2.1 then ((l.take l.length).foldl addStep (⟨a, m⟩, false, [])).2.2 else ((l.take l.length).foldl addStep (⟨a, m⟩, false, [])).2.2 ++ [((l.take l.length).foldl addStep (⟨a, m⟩, false, [])).1]) := ⟨by rw [List.take_length]; rfl⟩
      generalize (l.take l.length).foldl addStep (⟨a, m⟩, false, []) = T at *
      obtain ⟨⟨p, q⟩, d, o⟩ := T
      simp only at HO HS hlen2 hV
      have HR := Aside0.mk (HB0.out.below HB.out hg)
      have Hg := Aside0.mk hg
      have c3 := HS.out.cell (i := 0) rfl
      have c4 := HS.out.cell (i := 1) rfl
      cases d
      · go_wp2_with ((with_reducible refine gate_builtin (b := .append) (xs := #[.tmp 48, .tmp 50]) rfl ?_); at_builtin; refine print_append_cells (w0 := w) w.heap.size rfl (.tmp 48) (.tmp 50) 49 55 (.agg #[(.int .i64 0), (.int .i64 0)]) 2 16 rfl Tryd.underlying49 info55' rfl (by decide) (by omega) u4 (o).length (flat (o)) [.int .i64 p, .int .i64 q] rfl (by first | (go_simp; done) | (go_simp; rfl)) rfl (one_two _ _) HO.out HB.out (below_size HB.out) ?aL ?_; (case aL => (have := hlen2.out; (try simp only [List.length_append, List.length_singleton]); omega)); intro v3 W3 ho hb hg hat; have HB3 := Aside0.mk hb; have HO3 := Aside0.mk (ORow.snoc ho); have HR3 := Aside0.mk (HR.out.grown hg (HO.out.ne_old Hg.out)); obtain ⟨A3, k3, hv3, _, _, _⟩ := HO3.out.reads; rw [List.length_append, List.length_singleton] at hv3; subst hv3; have g1 := HR3.out.lt; have c5 := HR3.out.cell (i := 0) rfl; have f5 := HR3.out.frozen 0; clear ho hb hg hat)
        go_end0
        refine ⟨rfl, ⟨_, HR3.out.set_ 0 _, ?_⟩, only_set (only_below (only_refl _ _) HB3.out) 0 _⟩
        rw [hV.out]
        exact (HO3.out.far (p := ⟨g, 0, none⟩) (HO3.out.ne_old Hg.out) _).lower Hbase.out
      · obtain ⟨A3, k3, rfl, _, _, _⟩ := HO.out.reads
        have c5 := HR.out.cell (i := 0) rfl
        have f5 := HR.out.frozen 0
        go_wp2_with fail
        go_end0
        refine ⟨rfl, ⟨_, HR.out.set_ 0 _, ?_⟩, only_set (only_below (only_refl _ _) HB.out) 0 _⟩
        rw [hV.out]
        exact (HO.out.far (p := ⟨g, 0, none⟩) (HO.out.ne_old Hg.out) _).lower Hbase.out
end Go.Proofs.YtknphhcppllpoaaDoor.Hand
