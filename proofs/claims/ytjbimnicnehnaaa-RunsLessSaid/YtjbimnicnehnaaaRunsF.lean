/- Sets of blocks as the program keeps them (runs): both, walked. -/
import Derived.Test.YtjbimnicnehnaaaRunsD
import Derived.Test.YtjbimnicnehnaaaAx0
import Derived.Test.YtjbimnicnehnaaaAx6
namespace Go.Proofs.Ytjbimnicnehnaaa.Hand
open Go.RowKit Go.Proofs.YtjbimnicnehnaaaW.PrintWords Go.Proofs.YtjbimnicnehnaaaW.PrintLast Go.Proofs.YtjbimnicnehnaaaW.PrintMore Go.Proofs.Ytjbimnicnehnaaa.A
set_option linter.unusedVariables false
set_option linter.unusedSimpArgs false
attribute [local go_sem] max2_int min2_int max_two min_two max_three min_three max_four min_four
/-- What one span and one have in common is put in. -/
def meetStep (a : S24) (o : List S24) (b : S24) : List S24 :=
  if laps a.f0 a.f1 b.f0 b.f1 then addV o ⟨max a.f0 b.f0, min (a.f0 + a.f1) (b.f0 + b.f1) - max a.f0 b.f0⟩ else o
def meetAll (l' o : List S24) (a : S24) : List S24 := l'.foldl (meetStep a) o
def bothV (l l' : List S24) : List S24 := l.foldl (meetAll l') []
theorem laps_wh {a m b n : Int} (h : laps a m b n) : wh (max a b) (min (a + m) (b + n) - max a b) := by unfold laps wh at *; omega
theorem meetAll_spec (a : S24) (ha : wh a.f0 a.f1) : ∀ (l' o : List S24), Tidy 0 o → (∀ x ∈ l', wh x.f0 x.f1) → Tidy 0 (meetAll l' o a) ∧ ∀ k, mem (meetAll l' o a) k ↔ mem o k ∨ (inSp a k ∧ mem l' k)
  | [], o, h, _ => ⟨h, fun k => by show mem o k ↔ _; have := mem_nil k; simp [this]⟩
  | b :: l', o, h, hl => by
    show Tidy 0 (meetAll l' (meetStep a o b) a) ∧ ∀ k, mem (meetAll l' (meetStep a o b) a) k ↔ _
    have hb := hl b List.mem_cons_self
    unfold meetStep
    by_cases hs : laps a.f0 a.f1 b.f0 b.f1
    · rw [if_pos hs]
      obtain ⟨a1, a2⟩ := addV_spec (s := ⟨max a.f0 b.f0, min (a.f0 + a.f1) (b.f0 + b.f1) - max a.f0 b.f0⟩) h (laps_wh hs)
      obtain ⟨b1, b2⟩ := meetAll_spec a ha l' _ a1 (fun x hx => hl x (List.mem_cons_of_mem _ hx))
      refine ⟨b1, fun k => ?_⟩
      rw [b2 k, a2 k, mem_cons]
      unfold inSp; simp only
      constructor
      · rintro ((h | h) | h)
        · exact .inl h
        · exact .inr ⟨by omega, .inl (by omega)⟩
        · exact .inr ⟨h.1, .inr h.2⟩
      · rintro (h | ⟨h, h' | h'⟩)
        · exact .inl (.inl h)
        · exact .inl (.inr (by omega))
        · exact .inr ⟨h, h'⟩
    · rw [if_neg hs]
      obtain ⟨b1, b2⟩ := meetAll_spec a ha l' _ h (fun x hx => hl x (List.mem_cons_of_mem _ hx))
      refine ⟨b1, fun k => ?_⟩
      rw [b2 k, mem_cons]
      unfold laps at hs
      unfold inSp
      constructor
      · rintro (h | h)
        · exact .inl h
        · exact .inr ⟨h.1, .inr h.2⟩
      · rintro (h | ⟨h, h' | h'⟩)
        · exact .inl h
        · exact absurd ⟨ha, hb, by omega⟩ hs
        · exact .inr ⟨h, h'⟩
theorem bothGo_spec (l' : List S24) (hl' : ∀ x ∈ l', wh x.f0 x.f1) : ∀ (l o : List S24), Tidy 0 o → (∀ x ∈ l, wh x.f0 x.f1) → Tidy 0 (l.foldl (meetAll l') o) ∧ ∀ k, mem (l.foldl (meetAll l') o) k ↔ mem o k ∨ (mem l k ∧ mem l' k)
  | [], o, h, _ => ⟨h, fun k => by show mem o k ↔ _; have := mem_nil k; simp [this]⟩
  | a :: l, o, h, hl => by
    obtain ⟨a1, a2⟩ := meetAll_spec a (hl a List.mem_cons_self) l' o h hl'
    obtain ⟨b1, b2⟩ := bothGo_spec l' hl' l _ a1 (fun x hx => hl x (List.mem_cons_of_mem _ hx))
    refine ⟨b1, fun k => ?_⟩
    show mem (l.foldl (meetAll l') (meetAll l' o a)) k ↔ _
    rw [b2 k, a2 k, mem_cons]
    constructor
    · rintro ((h | h) | h)
      · exact .inl h
      · exact .inr ⟨.inl h.1, h.2⟩
      · exact .inr ⟨.inr h.1, h.2⟩
    · rintro (h | ⟨h | h, h'⟩)
      · exact .inl (.inl h)
      · exact .inl (.inr ⟨h, h'⟩)
      · exact .inr ⟨h, h'⟩
theorem bothV_spec {l l' : List S24} (h : Tidy 0 l) (h' : Tidy 0 l') : Tidy 0 (bothV l l') ∧ ∀ k, mem (bothV l l') k ↔ mem l k ∧ mem l' k := by
  obtain ⟨a, b⟩ := bothGo_spec l' (h'.whole (Int.le_refl _)) l [] trivial (h.whole (Int.le_refl _))
  exact ⟨a, fun k => by have := b k; have hn := mem_nil k; simp only [hn, false_or] at this; exact this⟩
set_option maxRecDepth 100000 in
set_option maxHeartbeats 1600000 in
theorem runs_both_of (P0 P1 : Value) (hp1 : ∃ a, P1 = .pointer a) (l l' : List S24) (w : World) (hT : Tidy 0 l) (hT' : Tidy 0 l')
    (h0 : ∀ W, Below w.heap.size w W → Calls Try.prog 38 #[P0] W fun e w' => ∃ v, e = .returned v ∧ ORow w' W.heap.size v l ∧ Below W.heap.size W w')
    (h1 : ∀ W, Below w.heap.size w W → Calls Try.prog 38 #[P1] W fun e w' => ∃ v, e = .returned v ∧ ORow w' W.heap.size v l' ∧ Below W.heap.size W w') :
    Calls Try.prog 37 #[P0, P1] w fun e w' => e = .returned (ptrR w.heap.size) ∧ RunsAt w' w.heap.size w.heap.size (bothV l l') ∧ Below w.heap.size w w' := by
  have hlen := hT.length (by decide)
  have hlen' := hT'.length (by decide)
  have HT := Aside0.mk hT
  have HT' := Aside0.mk hT'
  have H0 := Aside0.mk h0
  have H1 := Aside0.mk h1
  obtain ⟨p1, rfl⟩ := hp1
  clear h0 h1 hT hT'
  go_enter Try.func37, Try.ntmps37
  go_wp2_with fail
  refine (H0.out _ (below_alloc (Below.refl _ _) _)).mono ?_
  rintro e w1 ⟨v, rfl, ho, hB⟩
  obtain ⟨A, c, rfl, hlc, hC, _⟩ := ho.reads
  have HB1 : Aside0 (Below w.heap.size w w1) := ⟨below_step (below_alloc (Below.refl _ _) _) hB⟩
  have HR1 : Aside0 (RunsAt w1 w.heap.size w.heap.size []) := ⟨RunsAt.keep ⟨_, Blk.new _ _ _, own_alloc (ORow.nil _ _) _⟩ hB⟩
  have HC := Aside0.mk hC
  have Hne := Aside0.mk (off_row ho (g := w.heap.size) (by simp))
  clear ho hC hB H0 hlc
  go_wp2_with fail
  go_loopg [17] l.length (fun kq v wq => ∃ i : Nat, i + kq = l.length ∧ v = .int .i64 (i : Int) ∧ Aside0 (Below w.heap.size w wq) ∧ Aside0 (Only w1 wq w.heap.size) ∧ Aside0 (RunsAt wq w.heap.size w.heap.size ((l.take i).foldl (meetAll l') [])))
  case atStart => exact ⟨0, by omega, rfl, HB1, ⟨only_refl _ _⟩, HR1⟩
  case round =>
    clear HR1
    obtain ⟨i, hi, rfl, HB, HO, HR⟩ := hrel
    by_cases hlt : i < l.length
    · obtain ⟨ad, e1, x0, x1⟩ := at_T24 (C_only HC.out HO.out Hne.out) (i : Int) (by omega) (by omega)
      subst e1
      rw [Int.toNat_natCast, rd_get l i hlt] at x0 x1
      have hlt' : (i : Int) < (l.length : Int) := by omega
      have hone : Aside0 ((l.take (i + 1)).foldl (meetAll l') [] = meetAll l' ((l.take i).foldl (meetAll l') []) l[i]) := ⟨foldl_snoc (meetAll l') [] l i hlt⟩
      have HTi := Aside0.mk (bothGo_spec l' (HT'.out.whole (Int.le_refl _)) (l.take i) [] trivial ((HT.out.take i).whole (Int.le_refl _))).1
      have hwX : Aside0 (wh l[i].f0 l[i].f1) := ⟨HT.out.whole (Int.le_refl _) _ (List.getElem_mem hlt)⟩
      generalize l[i] = X at *
      generalize (l.take i).foldl (meetAll l') [] = cur at *
      obtain ⟨F, M⟩ := X
      simp only at x0 x1 hwX
      obtain ⟨kk, rfl⟩ : ∃ z, gk = z + 1 := ⟨gk - 1, by omega⟩
      go_wp2_with fail
      refine (H1.out _ (below_alloc HB.out _)).mono ?_
      rintro e w2 ⟨v, rfl, ho, hB⟩
      obtain ⟨A2, c2, rfl, hlc, hC, _⟩ := ho.reads
      have HB2 : Aside0 (Below w.heap.size w w2) := ⟨below_step (below_alloc HB.out _) hB⟩
      have HO2 : Aside0 (Only w1 w2 w.heap.size) := ⟨only_below (only_alloc HO.out _) hB⟩
      have HR2 : Aside0 (RunsAt w2 w.heap.size w.heap.size cur) := ⟨(HR.out.keep (below_alloc (Below.refl _ _) _)).keep hB⟩
      have HX2 : Aside0 (Blk w2 wr.heap.size 24 #[.int .i64 F, .int .i64 M]) := ⟨(Blk.new wr _ _).keep hB⟩
      have HC2 := Aside0.mk hC
      have hgx : Aside0 (w.heap.size < wr.heap.size) := ⟨HR.out.lt⟩
      have Hne2 := Aside0.mk (off_row ho (g := w.heap.size) (by have := hgx.out; simp; omega))
      have hgx2 : Aside0 (wr.heap.size ≠ w.heap.size) := ⟨by have := hgx.out; omega⟩
      obtain ⟨gx, hgxe⟩ : ∃ n, n = wr.heap.size := ⟨_, rfl⟩
      rw [← hgxe] at HX2 hgx2
      rw [← hgxe]
      clear ho hC hB HB HO HR x0 x1 hlc hgx hgxe
      go_wp2_with fail
      go_loopg [24] l'.length (fun kq v wq => ∃ j : Nat, j + kq = l'.length ∧ v = .int .i64 (j : Int) ∧ Aside0 (Below w.heap.size w wq) ∧ Aside0 (Only w2 wq w.heap.size) ∧ Aside0 (RunsAt wq w.heap.size w.heap.size (meetAll (l'.take j) cur ⟨F, M⟩)))
      case atStart => exact ⟨0, by omega, rfl, HB2, ⟨only_refl _ _⟩, HR2⟩
      case round =>
        clear HR2
        obtain ⟨j, hj, rfl, HB, HO, HR⟩ := hrel
        by_cases hjl : j < l'.length
        · obtain ⟨ad', e1, y0, y1⟩ := at_T24 (C_only HC2.out HO.out Hne2.out) (j : Int) (by omega) (by omega)
          subst e1
          rw [Int.toNat_natCast, rd_get l' j hjl] at y0 y1
          have hlt2 : (j : Int) < (l'.length : Int) := by omega
          have hstep : Aside0 (meetAll (l'.take (j + 1)) cur ⟨F, M⟩ = meetStep ⟨F, M⟩ (meetAll (l'.take j) cur ⟨F, M⟩) l'[j]) := ⟨foldl_snoc (meetStep ⟨F, M⟩) cur l' j hjl⟩
          have HTj := Aside0.mk (meetAll_spec ⟨F, M⟩ hwX.out (l'.take j) cur HTi.out ((HT'.out.take j).whole (Int.le_refl _))).1
          generalize l'[j] = Y at *
          obtain ⟨G, N⟩ := Y
          simp only at y0 y1
          generalize meetAll (l'.take j) cur ⟨F, M⟩ = o at *
          obtain ⟨jj, rfl⟩ : ∃ z, gk = z + 1 := ⟨gk - 1, by omega⟩
          have HXw := Aside0.mk (HX2.out.only HO.out hgx2.out)
          have d0 := HXw.out.cell (i := 0) rfl
          have d1 := HXw.out.cell (i := 1) rfl
          have d2 := HXw.out.lt
          have Hm := Aside0.mk (meet_eq F M G N 0)
          by_cases hq : laps F M G N
          · have Hm2 : Aside0 (span_Meet.f 1 F M G N = some (max F G, min (F + M) (G + N) - max F G, true)) := ⟨by rw [Hm.out]; unfold meetV; rw [if_pos hq]⟩
            have hs2 : Aside0 (meetAll (l'.take (j + 1)) cur ⟨F, M⟩ = addV o ⟨max F G, min (F + M) (G + N) - max F G⟩) := ⟨by rw [hstep.out]; unfold meetStep; rw [if_pos hq]⟩
            have hwm := Aside0.mk (laps_wh hq)
            clear hq Hm hstep
            generalize max F G = P at *
            generalize min (F + M) (G + N) - P = Q at *
            go_wp2_with fail
            refine (span_Meet.calls 1 F M G N P Q true _ Hm2.out).mono ?_
            rintro e w3 ⟨rfl, hB⟩
            have HB3 : Aside0 (Below w.heap.size w w3) := ⟨below_step (below_alloc HB.out _) hB⟩
            have HO3 : Aside0 (Only w2 w3 w.heap.size) := ⟨only_below (only_alloc HO.out _) hB⟩
            have HR3 : Aside0 (RunsAt w3 w.heap.size w.heap.size o) := ⟨(HR.out.keep (below_alloc (Below.refl _ _) _)).keep hB⟩
            clear hB y0 y1 d0 d1 d2
            go_wp2_with fail
            refine (runs_add w.heap.size w.heap.size o P Q _ (HR3.out.keep (below_alloc (Below.refl _ _) _)) HTj.out hwm.out (below_size (below_alloc HB3.out _))).mono ?_
            rintro e w4 ⟨rfl, hr, ho⟩
            have HB4 : Aside0 (Below w.heap.size w w4) := ⟨below_only (below_alloc HB3.out _) ho (Nat.le_refl _)⟩
            have HO4 : Aside0 (Only w2 w4 w.heap.size) := ⟨only_trans (only_alloc HO3.out _) ho⟩
            have HR4 := Aside0.mk hr
            clear hr ho
            go_wp2_with fail
            go_roundg jj
            case measure => omega
            case rel => exact ⟨j + 1, by omega, by go_num, HB4, HO4, by rw [hs2.out]; exact HR4⟩
          · have Hm2 : Aside0 (span_Meet.f 1 F M G N = some (0, 0, false)) := ⟨by rw [Hm.out]; unfold meetV; rw [if_neg hq]⟩
            have hs2 : Aside0 (meetAll (l'.take (j + 1)) cur ⟨F, M⟩ = o) := ⟨by rw [hstep.out]; unfold meetStep; rw [if_neg hq]⟩
            clear hq Hm hstep
            go_wp2_with fail
            refine (span_Meet.calls 1 F M G N 0 0 false _ Hm2.out).mono ?_
            rintro e w3 ⟨rfl, hB⟩
            have HB3 : Aside0 (Below w.heap.size w w3) := ⟨below_step (below_alloc HB.out _) hB⟩
            have HO3 : Aside0 (Only w2 w3 w.heap.size) := ⟨only_below (only_alloc HO.out _) hB⟩
            have HR3 : Aside0 (RunsAt w3 w.heap.size w.heap.size o) := ⟨(HR.out.keep (below_alloc (Below.refl _ _) _)).keep hB⟩
            clear hB y0 y1 d0 d1 d2
            go_wp2_with fail
            go_roundg jj
            case measure => omega
            case rel => exact ⟨j + 1, by omega, by go_num, ⟨below_alloc HB3.out _⟩, ⟨only_alloc HO3.out _⟩, by rw [hs2.out]; exact ⟨HR3.out.keep (below_alloc (Below.refl _ _) _)⟩⟩
        · have hlt2 : ¬ (j : Int) < (l'.length : Int) := by omega
          obtain rfl : j = l'.length := by omega
          rw [List.take_length] at HR
          have HO5 := Aside0.mk (only_trans HO2.out HO.out)
          go_wp2_with fail
          go_roundg kk
          case measure => omega
          case rel => exact ⟨i + 1, by omega, by go_num, HB, HO5, by rw [hone.out]; exact HR⟩
    · have hlt' : ¬ (i : Int) < (l.length : Int) := by omega
      obtain rfl : i = l.length := by omega
      rw [List.take_length] at HR
      go_wp2_with fail
      go_ret
      exact ⟨rfl, HR.out, HB.out⟩
theorem runs_both (base g base' g' : Nat) (l l' : List S24) (w : World) (hT : Tidy 0 l) (hT' : Tidy 0 l') (h : RunsAt w base g l) (h' : RunsAt w base' g' l') :
    Calls Try.prog 37 #[ptrR g, ptrR g'] w fun e w' => e = .returned (ptrR w.heap.size) ∧ RunsAt w' w.heap.size w.heap.size (bothV l l') ∧ Below w.heap.size w w' :=
  runs_both_of _ _ ⟨_, rfl⟩ l l' w hT hT' (fun W hB => runs_all base g l (by have := hT.length (by decide); omega) W (h.keep hB)) (fun W hB => runs_all base' g' l' (by have := hT'.length (by decide); omega) W (h'.keep hB))
theorem runs_both_nil (base g : Nat) (l : List S24) (w : World) (hT : Tidy 0 l) (h : RunsAt w base g l) :
    Calls Try.prog 37 #[ptrR g, .pointer none] w fun e w' => e = .returned (ptrR w.heap.size) ∧ RunsAt w' w.heap.size w.heap.size (bothV l []) ∧ Below w.heap.size w w' :=
  runs_both_of _ _ ⟨_, rfl⟩ l [] w hT trivial (fun W hB => runs_all base g l (by have := hT.length (by decide); omega) W (h.keep hB)) (fun W hB => runs_all_nil W)
end Go.Proofs.Ytjbimnicnehnaaa.Hand
