/- Sets of blocks as the program keeps them (runs): put, cut, both, walked. -/
import Derived.Test.YtknphhcppllpoaaDoorRunsB
import Derived.Test.YtknphhcppllpoaaDoorAx0
import Derived.Test.YtknphhcppllpoaaDoorAx8
namespace Go.Proofs.YtknphhcppllpoaaDoor.Hand
open Go.RowKit Go.Proofs.YtknphhcppllpoaaDoorW.PrintWords Go.Proofs.YtknphhcppllpoaaDoorW.PrintLast Go.Proofs.YtknphhcppllpoaaDoorW.PrintMore Go.Proofs.YtknphhcppllpoaaDoor.A
set_option linter.unusedVariables false
set_option linter.unusedSimpArgs false
attribute [local go_sem] max2_int min2_int max_two min_two max_three min_three max_four min_four
theorem add_block (a : Addr) (j : Nat) : (a.add j).block = a.block := by unfold Addr.add; split <;> rfl
/-- A row (if there is one) is not in a block. -/
def Off (A : Option Addr) (n g : Nat) : Prop := 0 < n → ∀ a, A = some a → a.block ≠ g
theorem off_lt {w : World} {n g : Nat} {A : Option Addr} {l : List S55} (h : Kd.C k55 w A n l) (hg : w.heap.size ≤ g) : Off A n g := by
  intro hn a ha e
  obtain ⟨ad, he, x0, _⟩ := at_T55 h 0 (Int.le_refl _) (by omega)
  rw [ha] at he
  injection he with he
  subst he
  have := World.block_lt_of_cell? _ _ x0
  simp only [add_block] at this
  omega
theorem off_row {w : World} {base g : Nat} {A : Option Addr} {c : Nat} {l : List S55} (h : ORow w base (.slice A l.length c) l) (hg : g < base) : Off A l.length g := by
  intro hn a ha e
  subst ha
  have := own_base h a.block (by rfl)
  omega
theorem C_only {w w1 : World} {g n : Nat} {A : Option Addr} {l : List S55} (h : Kd.C k55 w A n l) (ho : Only w w1 g) (hne : Off A n g) : Kd.C k55 w1 A n l := by
  refine ⟨h.1, h.2.1, fun hn => ?_⟩
  obtain ⟨ad, e, hc⟩ := h.2.2 hn
  refine ⟨ad, e, fun j p hj => ?_⟩
  obtain ⟨c, h1, h2, h3⟩ := hc j p hj
  refine ⟨c, h1, ?_, fun i u hu => keepO ho (h3 i u hu) (by rw [add_block]; exact hne hn ad e)⟩
  rw [k55_open h2]; exact k55_mk w1 p
def putOneV (l : List S55) (s : S55) : List S55 := if wh s.f0 s.f1 then addV l s else l
def putV (l ls : List S55) : List S55 := ls.foldl putOneV l
def cutOneV (l : List S55) (s : S55) : List S55 := if wh s.f0 s.f1 then cutV l s else l
def cutAllV (l ls : List S55) : List S55 := ls.foldl cutOneV l
/-- Blocks of whole spans. -/
def wmem (ls : List S55) (k : Int) : Prop := ∃ s ∈ ls, wh s.f0 s.f1 ∧ inSp s k
theorem putV_spec : ∀ (ls l : List S55), Tidy 0 l → Tidy 0 (putV l ls) ∧ ∀ k, mem (putV l ls) k ↔ mem l k ∨ wmem ls k
  | [], l, h => ⟨h, fun k => by show mem l k ↔ _; unfold wmem; simp⟩
  | s :: ls, l, h => by
    show Tidy 0 (putV (putOneV l s) ls) ∧ ∀ k, mem (putV (putOneV l s) ls) k ↔ _
    unfold putOneV wmem
    by_cases hs : wh s.f0 s.f1
    · rw [if_pos hs]
      obtain ⟨a1, a2⟩ := addV_spec h hs
      obtain ⟨b1, b2⟩ := putV_spec ls _ a1
      refine ⟨b1, fun k => ?_⟩
      rw [b2 k, a2 k]
      unfold wmem
      constructor
      · rintro ((h | h) | ⟨x, h1, h2⟩)
        · exact .inl h
        · exact .inr ⟨s, List.mem_cons_self, hs, h⟩
        · exact .inr ⟨x, List.mem_cons_of_mem _ h1, h2⟩
      · rintro (h | ⟨x, h1, h2⟩)
        · exact .inl (.inl h)
        · rcases List.mem_cons.1 h1 with rfl | h1
          · exact .inl (.inr h2.2)
          · exact .inr ⟨x, h1, h2⟩
    · rw [if_neg hs]
      obtain ⟨b1, b2⟩ := putV_spec ls _ h
      refine ⟨b1, fun k => ?_⟩
      rw [b2 k]
      unfold wmem
      constructor
      · rintro (h | ⟨x, h1, h2⟩)
        · exact .inl h
        · exact .inr ⟨x, List.mem_cons_of_mem _ h1, h2⟩
      · rintro (h | ⟨x, h1, h2⟩)
        · exact .inl h
        · rcases List.mem_cons.1 h1 with rfl | h1
          · exact absurd h2.1 hs
          · exact .inr ⟨x, h1, h2⟩
theorem cutAllV_spec : ∀ (ls l : List S55), Tidy 0 l → Tidy 0 (cutAllV l ls) ∧ ∀ k, mem (cutAllV l ls) k ↔ mem l k ∧ ¬ wmem ls k
  | [], l, h => ⟨h, fun k => by show mem l k ↔ _; unfold wmem; simp⟩
  | s :: ls, l, h => by
    show Tidy 0 (cutAllV (cutOneV l s) ls) ∧ ∀ k, mem (cutAllV (cutOneV l s) ls) k ↔ _
    unfold cutOneV wmem
    by_cases hs : wh s.f0 s.f1
    · rw [if_pos hs]
      obtain ⟨a1, a2⟩ := cutV_spec hs (Int.le_refl _) h
      obtain ⟨b1, b2⟩ := cutAllV_spec ls _ a1
      refine ⟨b1, fun k => ?_⟩
      rw [b2 k, a2 k]
      unfold wmem
      constructor
      · rintro ⟨⟨h, h'⟩, h2⟩
        refine ⟨h, ?_⟩
        rintro ⟨x, h1, h3⟩
        rcases List.mem_cons.1 h1 with rfl | h1
        · exact h' h3.2
        · exact h2 ⟨x, h1, h3⟩
      · rintro ⟨h, h'⟩
        exact ⟨⟨h, fun hk => h' ⟨s, List.mem_cons_self, hs, hk⟩⟩, fun ⟨x, h1, h2⟩ => h' ⟨x, List.mem_cons_of_mem _ h1, h2⟩⟩
    · rw [if_neg hs]
      obtain ⟨b1, b2⟩ := cutAllV_spec ls _ h
      refine ⟨b1, fun k => ?_⟩
      rw [b2 k]
      unfold wmem
      constructor
      · rintro ⟨h, h2⟩
        refine ⟨h, ?_⟩
        rintro ⟨x, h1, h3⟩
        rcases List.mem_cons.1 h1 with rfl | h1
        · exact hs h3.1
        · exact h2 ⟨x, h1, h3⟩
      · rintro ⟨h, h'⟩
        exact ⟨h, fun ⟨x, h1, h2⟩ => h' ⟨x, List.mem_cons_of_mem _ h1, h2⟩⟩
set_option maxRecDepth 100000 in
set_option maxHeartbeats 1600000 in
theorem runs_put (base g : Nat) (l ls : List S55) (A : Option Addr) (c : Nat) (w : World) (hT : Tidy 0 l) (h : RunsAt w base g l) (hbase : base ≤ w.heap.size) (hC : Kd.C k55 w A ls.length ls) (hne : Off A ls.length g) :
    Calls Tryd.prog 26 #[ptrR g, .slice A ls.length c] w fun e w' => e = .returned (.int .i64 (sumN (putV l ls) - sumN l)) ∧ RunsAt w' base g (putV l ls) ∧ Only w w' g := by
  have hln : ls.length ≤ 9223372036854775807 := by have := hC.2.1; unfold maxLen at this; omega
  have HT := Aside0.mk hT
  have H := Aside0.mk h
  have HC := Aside0.mk hC
  have Hne := Aside0.mk hne
  have Hbase := Aside0.mk hbase
  obtain ⟨s0, s1⟩ := hT.sum (by decide)
  clear h hT hC hne hbase
  go_enter Tryd.func26, Tryd.ntmps26
  go_wp2_with fail
  refine (runs_count base g l _ HT.out H.out).mono ?_
  rintro e w1 ⟨rfl, hB⟩
  have HO1 : Aside0 (Only w w1 g) := ⟨only_below (only_refl _ _) hB⟩
  have HR1 := Aside0.mk (H.out.keep hB)
  clear hB
  generalize hz : sumN l = z at *
  go_wp2_with fail
  go_loopg [14] ls.length (fun kq v wq => ∃ i : Nat, i + kq = ls.length ∧ v = .int .i64 (i : Int) ∧ Aside0 (Only w wq g) ∧ Aside0 (RunsAt wq base g (putV l (ls.take i))))
  case atStart => exact ⟨0, by omega, rfl, HO1, HR1⟩
  case round =>
    clear HO1 HR1
    obtain ⟨i, hi, rfl, HO, HR⟩ := hrel
    have HTi := Aside0.mk (putV_spec (ls.take i) l HT.out).1
    by_cases hlt : i < ls.length
    · obtain ⟨ad, e1, x0, x1⟩ := at_T55 (C_only HC.out HO.out Hne.out) (i : Int) (by omega) (by omega)
      subst e1
      rw [Int.toNat_natCast, rd_get ls i hlt] at x0 x1
      have hlt' : (i : Int) < (ls.length : Int) := by omega
      have hone : Aside0 (putV l (ls.take (i + 1)) = putOneV (putV l (ls.take i)) ls[i]) := ⟨foldl_snoc putOneV l ls i hlt⟩
      generalize ls[i] = X at *
      obtain ⟨F, M⟩ := X
      simp only at x0 x1
      have Hv := Aside0.mk (valid_eq F M 64 (by decide))
      obtain ⟨kk, rfl⟩ : ∃ z, gk = z + 1 := ⟨gk - 1, by omega⟩
      by_cases hw : wh F M
      · have Hv2 : Aside0 (span_Valid.f F M 64 = some true) := ⟨by rw [Hv.out, decide_eq_true ⟨hw, hw.2.2⟩]⟩
        have hone2 : Aside0 (putV l (ls.take (i + 1)) = addV (putV l (ls.take i)) ⟨F, M⟩) := ⟨by rw [hone.out]; unfold putOneV; rw [if_pos hw]⟩
        have Hw := Aside0.mk hw
        clear hw hone Hv
        go_wp2_with fail
        refine (span_Valid.calls F M 64 true _ Hv2.out).mono ?_
        rintro e w2 ⟨rfl, hB⟩
        have HX2 : Aside0 (Blk w2 wr.heap.size 55 #[.int .i64 F, .int .i64 M]) := ⟨(Blk.new wr _ _).keep hB⟩
        have HO2 : Aside0 (Only w w2 g) := ⟨only_below (only_alloc HO.out _) hB⟩
        have HR2 : Aside0 (RunsAt w2 base g (putV l (ls.take i))) := ⟨(HR.out.keep (below_alloc (Below.refl _ _) _)).keep hB⟩
        have c1 := HX2.out.cell (i := 0) rfl
        have c2 := HX2.out.cell (i := 1) rfl
        clear hB x0 x1
        go_wp2_with fail
        refine (runs_add base g _ F M _ HR2.out HTi.out Hw.out (by have := HO2.out.size; have := Hbase.out; omega)).mono ?_
        rintro e w3 ⟨rfl, hr, ho⟩
        have HO3 : Aside0 (Only w w3 g) := ⟨only_trans HO2.out ho⟩
        have HR3 := Aside0.mk hr
        clear hr ho c1 c2
        go_wp2_with fail
        go_roundg kk
        case measure => omega
        case rel => exact ⟨i + 1, by omega, by go_num, HO3, by rw [hone2.out]; exact HR3⟩
      · have Hv2 : Aside0 (span_Valid.f F M 64 = some false) := ⟨by rw [Hv.out, decide_eq_false (fun h => hw h.1)]⟩
        have hone2 : Aside0 (putV l (ls.take (i + 1)) = putV l (ls.take i)) := ⟨by rw [hone.out]; unfold putOneV; rw [if_neg hw]⟩
        clear hw hone Hv
        go_wp2_with fail
        refine (span_Valid.calls F M 64 false _ Hv2.out).mono ?_
        rintro e w2 ⟨rfl, hB⟩
        have HO2 : Aside0 (Only w w2 g) := ⟨only_below (only_alloc HO.out _) hB⟩
        have HR2 : Aside0 (RunsAt w2 base g (putV l (ls.take i))) := ⟨(HR.out.keep (below_alloc (Below.refl _ _) _)).keep hB⟩
        clear hB x0 x1
        go_wp2_with fail
        go_roundg kk
        case measure => omega
        case rel => exact ⟨i + 1, by omega, by go_num, HO2, by rw [hone2.out]; exact HR2⟩
    · have hlt' : ¬ (i : Int) < (ls.length : Int) := by omega
      obtain rfl : i = ls.length := by omega
      rw [List.take_length] at HR HTi
      go_wp2_with fail
      refine (runs_count base g _ _ HTi.out HR.out).mono ?_
      rintro e w2 ⟨rfl, hB⟩
      obtain ⟨t0, t1⟩ := HTi.out.sum (by decide)
      have HR2 := Aside0.mk (HR.out.keep hB)
      have HO2 : Aside0 (Only w w2 g) := ⟨only_below HO.out hB⟩
      clear hB
      generalize hy : sumN (putV l ls) = y at *
      go_wp2_with fail
      go_ret
      exact ⟨by rw [hz, hy]; rfl, HR2.out, HO2.out⟩
set_option maxRecDepth 100000 in
theorem runs_put_nil (v : Value) (w : World) :
    Calls Tryd.prog 26 #[.pointer none, v] w fun e w' => e = .returned (.int .i64 0) ∧ Below w.heap.size w w' := by
  go_enter Tryd.func26, Tryd.ntmps26
  go_wp2_with fail
  go_ret
  exact ⟨rfl, Below.refl _ _⟩
set_option maxRecDepth 100000 in
theorem runs_of (ls : List S55) (A : Option Addr) (c : Nat) (w : World) (hC : Kd.C k55 w A ls.length ls) :
    Calls Tryd.prog 25 #[.slice A ls.length c] w fun e w' => e = .returned (ptrR w.heap.size) ∧ RunsAt w' w.heap.size w.heap.size (putV [] ls) ∧ Below w.heap.size w w' := by
  have HC := Aside0.mk hC
  have Hne := Aside0.mk (off_lt hC (Nat.le_refl _))
  clear hC
  go_enter Tryd.func25, Tryd.ntmps25
  go_wp2_with fail
  refine (runs_put w.heap.size w.heap.size [] ls A c _ trivial ⟨_, Blk.new _ _ _, own_alloc (ORow.nil _ _) _⟩ (by simp) (Kd.C_below HC.out (below_alloc (Below.refl _ _) _)) Hne.out).mono ?_
  rintro e w1 ⟨rfl, hr, ho⟩
  have HR := Aside0.mk hr
  have HB : Aside0 (Below w.heap.size w w1) := ⟨below_only (below_alloc (Below.refl _ _) _) ho (Nat.le_refl _)⟩
  clear hr ho
  go_wp2_with fail
  go_ret
  exact ⟨rfl, HR.out, HB.out⟩
theorem cutV_snoc (l : List S55) (s : S55) (j : Nat) (h : j < l.length) : cutV (l.take (j + 1)) s = cutV (l.take j) s ++ lessV l[j].f0 l[j].f1 s.f0 s.f1 := by
  unfold cutV
  rw [List.take_succ_eq_append_getElem h, List.flatMap_append]; simp
theorem lessV_length (a m b n : Int) : (lessV a m b n).length ≤ 2 := by
  unfold lessV
  split
  · split
    · split <;> split <;> simp
    · simp
  · simp
theorem cutV_length {l : List S55} {s : S55} (hs : wh s.f0 s.f1) (h : Tidy 0 l) : (cutV l s).length ≤ 65 := by
  have := (cutV_spec hs (Int.le_refl _) h).1.length (by decide); omega
/-- What one span and one have in common is put in. -/
def meetStep (a : S55) (o : List S55) (b : S55) : List S55 :=
  if laps a.f0 a.f1 b.f0 b.f1 then addV o ⟨max a.f0 b.f0, min (a.f0 + a.f1) (b.f0 + b.f1) - max a.f0 b.f0⟩ else o
def meetAll (l' o : List S55) (a : S55) : List S55 := l'.foldl (meetStep a) o
def bothV (l l' : List S55) : List S55 := l.foldl (meetAll l') []
theorem laps_wh {a m b n : Int} (h : laps a m b n) : wh (max a b) (min (a + m) (b + n) - max a b) := by unfold laps wh at *; omega
theorem meetAll_spec (a : S55) (ha : wh a.f0 a.f1) : ∀ (l' o : List S55), Tidy 0 o → (∀ x ∈ l', wh x.f0 x.f1) → Tidy 0 (meetAll l' o a) ∧ ∀ k, mem (meetAll l' o a) k ↔ mem o k ∨ (inSp a k ∧ mem l' k)
  | [], o, h, _ => ⟨h, fun k => by show mem o k ↔ _; have := mem_nil k; simp [this]⟩
  | b :: l', o, h, hl => by
    show Tidy 0 (meetAll l' (meetStep a o b) a) ∧ ∀ k, mem (meetAll l' (meetStep a o b) a) k ↔ _
    have hb := hl b List.mem_cons_self
    unfold meetStep
    by_cases hs : laps a.f0 a.f1 b.f0 b.f1
    · rw [if_pos hs]
      obtain ⟨a1, a2⟩ := addV_spec (s := ⟨max a.f0 b.f0, min (a.f0 + a.f1) (b.f0 + b.f1) - max a.f0 b.f0⟩) h (laps_wh hs)
      obtain ⟨b1, b2⟩ := meetAll_spec a ha l' _ a1 (fun x hx => hl x (List.mem_cons_of_mem _ hx))
      refine ⟨b1, fun k => ?_⟩
      rw [b2 k, a2 k, mem_cons]
      unfold inSp; simp only
      constructor
      · rintro ((h | h) | h)
        · exact .inl h
        · exact .inr ⟨by omega, .inl (by omega)⟩
        · exact .inr ⟨h.1, .inr h.2⟩
      · rintro (h | ⟨h, h' | h'⟩)
        · exact .inl (.inl h)
        · exact .inl (.inr (by omega))
        · exact .inr ⟨h, h'⟩
    · rw [if_neg hs]
      obtain ⟨b1, b2⟩ := meetAll_spec a ha l' _ h (fun x hx => hl x (List.mem_cons_of_mem _ hx))
      refine ⟨b1, fun k => ?_⟩
      rw [b2 k, mem_cons]
      unfold laps at hs
      unfold inSp
      constructor
      · rintro (h | h)
        · exact .inl h
        · exact .inr ⟨h.1, .inr h.2⟩
      · rintro (h | ⟨h, h' | h'⟩)
        · exact .inl h
        · exact absurd ⟨ha, hb, by omega⟩ hs
        · exact .inr ⟨h, h'⟩
theorem bothGo_spec (l' : List S55) (hl' : ∀ x ∈ l', wh x.f0 x.f1) : ∀ (l o : List S55), Tidy 0 o → (∀ x ∈ l, wh x.f0 x.f1) → Tidy 0 (l.foldl (meetAll l') o) ∧ ∀ k, mem (l.foldl (meetAll l') o) k ↔ mem o k ∨ (mem l k ∧ mem l' k)
  | [], o, h, _ => ⟨h, fun k => by show mem o k ↔ _; have := mem_nil k; simp [this]⟩
  | a :: l, o, h, hl => by
    obtain ⟨a1, a2⟩ := meetAll_spec a (hl a List.mem_cons_self) l' o h hl'
    obtain ⟨b1, b2⟩ := bothGo_spec l' hl' l _ a1 (fun x hx => hl x (List.mem_cons_of_mem _ hx))
    refine ⟨b1, fun k => ?_⟩
    show mem (l.foldl (meetAll l') (meetAll l' o a)) k ↔ _
    rw [b2 k, a2 k, mem_cons]
    constructor
    · rintro ((h | h) | h)
      · exact .inl h
      · exact .inr ⟨.inl h.1, h.2⟩
      · exact .inr ⟨.inr h.1, h.2⟩
    · rintro (h | ⟨h | h, h'⟩)
      · exact .inl (.inl h)
      · exact .inl (.inr ⟨h, h'⟩)
      · exact .inr ⟨h, h'⟩
theorem bothV_spec {l l' : List S55} (h : Tidy 0 l) (h' : Tidy 0 l') : Tidy 0 (bothV l l') ∧ ∀ k, mem (bothV l l') k ↔ mem l k ∧ mem l' k := by
  obtain ⟨a, b⟩ := bothGo_spec l' (h'.whole (Int.le_refl _)) l [] trivial (h.whole (Int.le_refl _))
  exact ⟨a, fun k => by have := b k; have hn := mem_nil k; simp only [hn, false_or] at this; exact this⟩
end Go.Proofs.YtknphhcppllpoaaDoor.Hand
